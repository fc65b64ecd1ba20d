import Derived.Test.YtoejfkeofbdalaaGreatDoorM01
import Derived.Laws.OwnMore
import Derived.Deep.AppendLies
import Derived.OwnWalk
import Derived.Shelf.Abstract
import Derived.Deep.QuietTactic
import Derived.BigQuiet
set_option linter.all false
set_option maxRecDepth 100000
set_option maxHeartbeats 8000000
namespace Go.Proofs.YtoejfkeofbdalaaGreatDoor
open Go.RowKit
variable {A:Option Addr} {B' base c i j k m n:Nat} {P:Program} {Q:Exit->Act->World->Prop} {W W' v w w0:World} {e t:TypeId} {g:Int} {h:Array Value} {l:List (Value × List Int)} {o:Obj} {rest:List Oper} {s:List Value} {x:Value}
def Rd(w:World)(B k:Nat)(v:Value)(n:Nat)(b:List Value):Prop :=
 b.length=n*k/\∃A a,v=.slice A n a/\n<=a/\a<=maxLen /\
  (0<n->∃g o,A=some ⟨g,o,none⟩/\g<B/\∀(i:Nat)(x:Value),b[i]?=some x->Qc w g (o+i) x)
theorem Rd.below(h:Rd w n k x i s)(q:Below m w v)(D:n<=m):Rd v n k x i s:=by
 obtain⟨c,A,C,z,d,e,f⟩:=h;refine⟨c,A,C,z,d,e,λy=>?_⟩;obtain⟨g,o,j,u,r⟩:=f y;exact⟨g,o,j,u,λa b B=>(q.cell (p:=⟨g,o+a,none⟩) Q4).trans (r a b B)⟩
theorem Rd.mono(h:Rd w n k x i s)(r:n<=B'):Rd w B' k x i s:=by
 obtain⟨a,A,p,m,b,c,d⟩:=h;refine⟨a,A,p,m,b,c,λj=>?_⟩;obtain⟨g,o,e,q,f⟩:=d j;exact⟨g,o,e,Q0,f⟩
theorem Rd.keep{a:Nat}(h:Rd w n k x a s)(r:∀j o,j<n->v.cell? ⟨j,o,none⟩=w.cell? ⟨j,o,none⟩):Rd v n k x a s:=by
 obtain⟨d,A,B,y,e,f,m⟩:=h;refine⟨d,A,B,y,e,f,λu=>?_⟩;obtain⟨g,o,p,b,q⟩:=m u;exact⟨g,o,p,b,λi c z=>(r g (o+i) b).trans (q i c z)⟩
theorem Rd.nil(w:World)(B k:Nat):Rd w B k (.slice none 0 0) 0 []:=⟨Q6,none,0,rfl,Af _,BI _,λh=>absurd h (Nat.lt_irrefl _)⟩
theorem Rd.own(h:w.ownsRow base m k x i s):Rd w w.heap.size k x i s:=by
 refine⟨h.1,?_⟩;rcases h.2 with⟨rfl,rfl⟩|⟨g,e,f,rfl,u,b,p,j,v,q⟩
 ·exact⟨none,0,rfl,Af _,BI _,λh=>absurd h (Nat.lt_irrefl _)⟩
 ·refine⟨some ⟨g,0,none⟩,e,rfl,p,j,λ_=>⟨g,0,rfl,?_,λc r a=>?_⟩⟩
  ·rcases Gb g w.heap.size with o|n
   ·exact o
   ·rw[IK n] at b;cases b
  ·have d:w.cell? ⟨g,c,none⟩=f[c]?:=by simp[World.cell?,b]
   rw[DC,d];rw[<-q,Lp] at a;split at a
   ·simpa using a
   ·cases a
theorem Rd.new(w:World)(a:Array Value)(t k n:Nat)(h:a.size=n*k)(b:n<=maxLen) :
 Rd (w.alloc (.cells a t)) (w.heap.size+1) k (Qs w.heap.size 0 n n) n a.toList:=by
 refine⟨by simpa using h,_,n,rfl,Af _,b,λ_=>⟨w.heap.size,0,rfl,Kj _,λi x c=>?_⟩⟩
 have:Qg (w.alloc (.cells a t)) w.heap.size a t:=Lw w _;simp only[World.cell?,this,DC];simpa using c
theorem Rd.addr{b:Nat}(h:Rd w n k (.slice A i j) b s)(m:0<b) :
 ∃g o,A=some ⟨g,o,none⟩/\g<n/\∀(a:Nat)(x:Value),s[a]?=some x->Qc w g (o+a) x:=by
 obtain⟨r,q,y,p,u,v,f⟩:=h;injection p with c d e
 subst c d e;exact f m
theorem Rd.one(h:Rd w n 1 (.slice A c i) m s)(a:Nat)(C:a<m) :
 c=m/\∃g o x,A=some ⟨g,o,none⟩/\g<n/\s[a]?=some x/\Qc w g (o+a) x:=by
 obtain⟨y,v,D,u,z,B,j⟩:=h;injection u with d e f
 subst d e f;obtain⟨g,o,p,r,q⟩:=j Q0
 have b:s[a]?=some (s[a]'(by omega)):=Az Q0
 exact⟨rfl,g,o,_,p,r,b,q a _ b⟩
def C4(a:List Int):List Value:=a.map (.int .i64)
theorem I5(a:List Int):(C4 a).length=a.length:=by simp[C4]
theorem getElem?_intCells(a:List Int)(i:Nat):(C4 a)[i]?=a[i]?.map (.int .i64):=by simp[C4]
theorem V8(a b:List Int):C4 (a++b)=C4 a++C4 b:=by simp[C4]
theorem zmI(b:List Int):∀u∈C4 b,u.oneCell'=true:=by
 intro u a;simp only[C4,C8] at a;obtain⟨x,_,rfl⟩:=a;rfl
def Ac(w:World)(B:Nat)(v:Value)(a:List Int):Prop:=Rd w B 1 v a.length (C4 a)
theorem Ac.below{a:List Int}(h:Ac w n x a)(b:Below m w v)(c:n<=m):Ac v n x a:=Rd.below h b c
theorem Ac.mono{a:List Int}(h:Ac w n x a)(b:n<=B'):Ac w B' x a:=Rd.mono h b
theorem Ac.shape{b:List Int}(h:Ac w n x b):∃A a,x=.slice A b.length a/\b.length<=a/\a<=maxLen:=by
 obtain⟨_,A,a,e,c,d,_⟩:=h;exact⟨A,a,e,c,d⟩
theorem Ac.at{a:List Int}(h:Ac w n (.slice A m j) a)(i:Nat)(b:i<a.length) :
 ∃g o,A=some ⟨g,o,none⟩/\g<n/\Qc w g (o+i) (Qi (a[i]?.getD 0)):=by
 obtain⟨_,g,o,x,d,f,c,e⟩:=Rd.one h i b;rw[getElem?_intCells] at c;refine⟨g,o,d,f,?_⟩;rw[e,<-c,Az b];rfl
theorem wf_i64(h:(Lit.int .i64 g).wf=true):-9223372036854775808<=g/\g<=9223372036854775807:=by
 simpa [Lit.wf,IntKind.min,IntKind.max,IntKind.signed,IntKind.bits] using h
def JL(a:List Int):Prop:=∀x∈a,-9223372036854775808<=x/\x<=9223372036854775807
theorem JL.take{a:List Int}(h:JL a)(n:Nat):JL (a.take n):=λx b=>h x (Ls b)
theorem JD{k:IntKind}{G:Int}(h:g=G):Ending.returned (.int k g)= .returned (.int k G):=by rw[h]
theorem RT{a b:Bool}(h:a=b):Ending.returned (.bool a)= .returned (.bool b):=by rw[h]
theorem zA7(a:Qb W v):(∀b o,b<W.heap.size->v.cell? ⟨b,o,none⟩=W.cell? ⟨b,o,none⟩)/\(∀b o,b<W.heap.size->v.frozen? ⟨b,o,none⟩=W.frozen? ⟨b,o,none⟩) :=
 ⟨λb o h=>a.cell (p:=⟨b,o,none⟩) h,λb o h=>a.frozen (p:=⟨b,o,none⟩) h⟩
theorem Ae(a:Qg w n h t)(i:Nat):w.cell? ⟨n,i,none⟩=h[i]?:=by
 simp[World.cell?,a]
section
variable {w:World}{k t:Nat}{l:List Value}{x0 x1 x2 x3 x4 x5 x6 x7 x8 x9:Value}
theorem A8(h:Qg w k ⟨x0::l⟩ t):Qc w k 0 x0:=(Ae h 0).trans rfl
theorem AA(h:Qg w k ⟨x0::x1::l⟩ t):Qc w k 1 x1:=(Ae h 1).trans rfl
theorem Bk(h:Qg w k ⟨x0::x1::x2::l⟩ t):Qc w k 2 x2:=(Ae h 2).trans rfl
theorem CY(h:Qg w k ⟨x0::x1::x2::x3::l⟩ t):Qc w k 3 x3:=(Ae h 3).trans rfl
theorem De(h:Qg w k ⟨x0::x1::x2::x3::x4::l⟩ t):Qc w k 4 x4:=(Ae h 4).trans rfl
theorem Df(h:Qg w k ⟨x0::x1::x2::x3::x4::x5::l⟩ t):Qc w k 5 x5:=(Ae h 5).trans rfl
theorem ES(h:Qg w k ⟨x0::x1::x2::x3::x4::x5::x6::l⟩ t):Qc w k 6 x6:=(Ae h 6).trans rfl
theorem cel7(h:Qg w k ⟨x0::x1::x2::x3::x4::x5::x6::x7::l⟩ t):Qc w k 7 x7:=(Ae h 7).trans rfl
theorem cel8(h:Qg w k ⟨x0::x1::x2::x3::x4::x5::x6::x7::x8::l⟩ t):Qc w k 8 x8:=(Ae h 8).trans rfl
theorem cel9(h:Qg w k ⟨x0::x1::x2::x3::x4::x5::x6::x7::x8::x9::l⟩ t):Qc w k 9 x9:=(Ae h 9).trans rfl
end
theorem Ah(a:Qg w n h t)(i:Nat):w.frozen? ⟨n,i,none⟩=false:=by
 simp[World.frozen?,a]
theorem Aj(h:Qh w n o):n<w.heap.size:=by
 rcases Gb n w.heap.size with b|a
 ·exact b
 ·rw[IK a] at h;cases h
theorem Ak{b:Nat}{cs:Array Value}(h:Qg w b cs t)(i:Nat)(u:Value) :
 Qg (w.setCell ⟨b,i,none⟩ u) b (cs.setIfInBounds i u) t:=by
 simp[World.setCell,QZ,h]
theorem Gr{b:Nat}{g:Nat}(h:w.ownsRow n e m x b s)(a:x.ownBlock=some g):∃c,Qg w g c e:=by
 rcases h.2 with⟨rfl,_⟩|⟨d,i,j,rfl,_,f,_⟩
 ·simp[Value.ownBlock] at a
 ·have:d=g:=by simpa [Value.ownBlock] using a
  subst this;exact⟨_,f⟩
theorem Bb(a:Obj)(h:Qh w k o):Qh (w.alloc a) k o:=(GV w a k (Aj h)).trans h
theorem Am(w:World)(o:Obj)(k:Nat)(h:k=w.heap.size):Qh (w.alloc o) k o:=by subst h;exact Lw w o
theorem Cw:∀(a:Fn)(first b:Array Value)(w:World),(Instr.makeFunc a first b).run Tryz.prog w=.ok (.func a first b) w:=λ_ _ _ _=>rfl
theorem OH:(Tryz.prog.info? 3).map (λi=>(i.zero,i.size,i.bytes))=some (some (Qi 0),1,8):=Q2
theorem EY{a:Nat}(h:W.ownsRow n e a x k s)(o:m<=n):W.ownsRow m e a x k s:=by
 refine⟨h.1,?_⟩;rcases h.2 with d|⟨g,f,i,b,j,c⟩
 ·exact .inl d
 ·exact .inr ⟨g,f,i,b,Q0,c⟩
theorem OJ(w:World)(t:TypeId)(v:Value)(k:Nat)(h:k=w.heap.size):Boxed (w.alloc (.cells #[v] t)) k t v:=by subst h;exact Boxed.new w t v
theorem zjJ{r:Nat}{y:Value}{S:List Value}{f:Obj}
 (A:Boxed W m t x) (B:t≠e) (q:W.ownsRow n e r x k s) (L:n<=W.heap.size)
 (D:v.ownsRow n e r y j S) (h:(W.alloc f).grownBy v x.ownBlock) :
 Boxed v m t x/\Boxed (v.setCell ⟨m,0,none⟩ y) m t y/\(v.setCell ⟨m,0,none⟩ y).ownsRow n e r y j S/\KeepsOthers W (v.setCell ⟨m,0,none⟩ y)/\(∀b,b<n->b≠m->(v.setCell ⟨m,0,none⟩ y).heap[b]?=W.heap[b]?)/\(∀d,d<=n->d<=m->Below d W (v.setCell ⟨m,0,none⟩ y)):=by
 have J:=q.2
 have C:∀a,x.ownBlock=some a->n<=a:=λa c=>by
  rcases J with⟨rfl,_⟩|⟨g,F,G,rfl,u,_,_⟩
  ·simp[Value.ownBlock] at c
  ·obtain rfl:g=a:=by simpa [Value.ownBlock] using c
   exact u
 have i:Boxed v m t x:=(A.alloc f).kept h (A.not_row B q);refine⟨i,i.set y,D.kept (grownBy_setCell' v m y) (.inr (i.not_row B D).symm),?_,?_,?_⟩
 ·refine((Ti W f).trans (Vv h λa o c z=>?_)).trans (FO _ _ _)
  rcases(q.alloc f).2 with⟨rfl,_⟩|⟨g,F,G,rfl,_,H,_⟩
  ·simp[Value.ownBlock] at c
  ·obtain rfl:g=a:=by simpa [Value.ownBlock] using c
   rw[H] at z;cases z;rfl
 ·intro b u I
  rw[Bg _ _ _ _ I];rw[h.block b Q4 (λe=>by have:=C b e.symm;omega)]
  exact GV _ _ _ Q0
 ·intro d K E
  exact(((Ag d W).alloc Q0 f).grown h Q4 λa c=>by have:=C a c;omega).setCell (p:=⟨m,0,none⟩) E y
theorem L7{c:Func}{p:Tmp}{d:TypeId}(h:c.results=#[.cell p d])(b:Array Value)(P:Program)(w:World)(a:Addr)(v:Value)(f:b.getD p undef=.pointer (some a))(e:(loadVar d a).run P w=.ok v w):(results c b).run P w=.ok v w:=by
 have g:b[p]?.getD undef=.pointer (some a):=by simpa using f
 simp[results,h,g,asAddr,e]
theorem Cd{b:Nat}(h:W.ownsRow n m b x k s)(i:Qb W W'):W'.ownsRow n m b x k s:=by
 refine⟨h.1,?_⟩;rcases h.2 with f|⟨g,j,o,c,d,a,e⟩
 ·exact .inl f
 ·exact .inr ⟨g,j,o,c,d,(i.block g (Aj a)).trans a,e⟩
theorem WL(h:W.ownsRow n m 1 x k s):∃q c,x=.slice q k c:=by
 rcases h.2 with⟨rfl,rfl⟩|⟨g,a,b,rfl,_⟩
 ·exact⟨_,_,rfl⟩
 ·exact⟨_,_,rfl⟩
theorem Dm(h:W.ownsRow n m c x k s)(a:x.ownBlock=some j):n<=j:=by
 rcases h.2 with⟨rfl,_⟩|⟨g,d,e,rfl,b,_⟩
 ·simp[Value.ownBlock] at a
 ·obtain rfl:g=j:=by simpa [Value.ownBlock] using a
  exact b
def ints(l:List Nat):List Int:=l.map λa:Nat=>(a:Int)
theorem Bj(l:List Nat):(ints l).length=l.length:=by simp[ints]
def Ad(w:World)(b:Nat)(v:Value)(a:List Int):Prop:=w.ownsRow b 3 1 v a.length (C4 a)
theorem Ad.nil(w:World)(a:Nat):Ad w a (.slice none 0 0) []:=GU _ _ _ _
theorem Ad.is{a:List Int}(h:Ad w base x a):Ac w w.heap.size x a:=Rd.own h
theorem Ad.below{a:List Int}(h:Ad w n x a)(b:Qb w v):Ad v n x a:=Cd h b
theorem Ad.mono{b2:Nat}{a:List Int}(h:Ad w n x a)(b:b2<=n):Ad w b2 x a:=EY h b
theorem Ad.shape{a:List Int}(h:Ad w n x a):∃q c,x=.slice q a.length c:=WL h
theorem Ad.alloc{a:List Int}(h:Ad w n x a)(o:Obj):Ad (w.alloc o) n x a:=World.ownsRow.alloc h o
theorem Ac.nil(w:World)(B:Nat):Ac w B (.slice none 0 0) []:=Rd.nil w B 1
theorem Ac.keep{a:List Int}(h:Ac w n x a)(b:∀j o,j<n->v.cell? ⟨j,o,none⟩=w.cell? ⟨j,o,none⟩):Ac v n x a:=Rd.keep h b
theorem Ac.new(w:World)(a:List Int)(b:Array Value)(k n:Nat)(c:k=w.heap.size)(e:n=a.length)(h:b.toList=C4 a)(d:a.length<=maxLen) :
 Ac (w.alloc (.cells b 3)) (w.heap.size+1) (Qs k 0 n n) a:=by
 subst c e;have f:b.size=a.length*1:=by rw[<-MX,h,I5];omega
 have:=Rd.new w b 3 1 a.length f d;rw[h] at this;exact this
theorem Ru(w:World)(q:Nat)(t H e:TypeId)(i:TypeInfo)(z:Value)(d E:Nat)(y:P.underlying t=some (.slice e))(r:P.info? e=some i)(R:i.zero=some z)
 (a1:i.size=d) (U:i.bytes=E) (Y:z.cells.size=d) (X:0<d)
 (v:Value) (n:Nat) (C:List Value) (D:w.ownsRow q e d v n C)
 (B m:Nat) (u:Value) (b:List Value) (Q:Rd w B d u m b) (J:∀c∈b,c.oneCell'=true)
 (T:n+m<=maxLen) (a2:(n+m)*E<=140737488355328) (a0:q<=w.heap.size) :
 ∃f p,(Builtin.append_ #[t,t] H #[v,u]).run P w=.ok f p/\p.ownsRow q e d f (n+m) (C++b)/\w.grownBy p v.ownBlock/\(f.ownBlock=v.ownBlock\/f.ownBlock=some w.heap.size):=by
 obtain⟨s,A,S,rfl,a5,a6,I⟩:=Q;cases A with
 | none =>
   have O:m=0:=by
    rcases IP m with a|a
    ·exact a
    ·obtain⟨g,o,h,_⟩:=I a;cases h
   subst O;have x:b=[]:=Ey (by simpa using s)
   subst x;refine⟨v,w,?_,by simpa using D,World.grownBy.refl w _,.inl rfl⟩
   rcases D.2 with⟨rfl,rfl⟩|⟨g,cp,a4,rfl,_,_,V,_⟩
   ·simp[Builtin.append_,Kl y,sizeOf,typeInfo,r,Builtin.lenOf,Builtin.firstCells]
   ·simp[Builtin.append_,Kl y,sizeOf,typeInfo,r,Builtin.lenOf,Builtin.firstCells,V,storeCells]
 | some F =>
   have a3:∀j c,b[j]?=some c->w.cell? (F.add j)=some c:=by
    intro j c G;rcases IP m with a|a
    ·subst a
     have x:b=[]:=Ey (by simpa using s)
     subst x;simp at G
    ·obtain⟨g,o,h,_,N⟩:=I a
     injection h with h
     subst h;rw[show(⟨g,o,none⟩:Addr).add j=⟨g,o+j,none⟩ by unfold Addr.add;split<;>simp_all]
     exact N j c G
   obtain⟨f,p,Z,K,L,_,M⟩:=run_append_own_at (P:=P) w q t H e i z d E y r R a1 U Y X v n C D F m S b s a3 J T a2 a0;exact⟨f,p,Z,K,L,M⟩
theorem Tu{r:Array Oper}{d:Oper}{o:Act}(R:d.guard=none)(s x:Operand)(t:TypeId)
 (G:d.op=.call { callee:=.builtin .append,args:=#[s,x],argTypes:=#[t,t] })
 (g:Nat) (e:TypeId) (i:TypeInfo) (z:Value) (a q:Nat) (J:P.underlying t=some (.slice e)) (F:P.info? e=some i) (M:i.zero=some z)
 (Y:i.size=a) (O:i.bytes=q) (T:z.cells.size=a) (S:0<a)
 (v:Value) (n:Nat) (p:List Value) (I:o.eval s=v) (U:w.ownsRow g e a v n p)
 (B m:Nat) (u:Value) (j:List Value) (L:o.eval x=u) (H:Rd w B a u m j) (y:∀c∈j,c.oneCell'=true)
 (N:n+m<=maxLen) (Z:(n+m)*q<=140737488355328) (X:g<=w.heap.size)
 (h:∀b f,f.ownsRow g e a b (n+m) (p++j)->w.grownBy f v.ownBlock->(b.ownBlock=v.ownBlock\/b.ownBlock=some w.heap.size)->wpList P r Q rest (o.put d.dst b) f) :
 wpList P r Q (d::rest) o w:=by
 refine wpList_plain R λK E=>?_;obtain⟨b,f,V,A,C,D⟩:=Ru (P:=P) w g t d.type e i z a q J F M Y O T S v n p U B m u j H y N Z X;unfold Oper.wp execOp;simp only[G,resolve,invoke,builtin,Ml,Mk,KH,MZ,Dz,Jl,I,L,V];exact E _ _ (h b f A C D)
theorem KN{i:Array Oper}{f:Oper}{o:Act}(E:f.guard=none)(s x:Operand)
 (r:f.op=.call { callee:=.builtin .append,args:=#[s,x],argTypes:=#[67,67] })
 (e:Nat) (v:Value) (b:List Int) (z:o.eval s=v) (I:Ad w e v b)
 (B:Nat) (u:Value) (a:List Int) (A:o.eval x=u) (y:Ac w B u a)
 (K:b.length+a.length<=17592186044416) (J:e<=w.heap.size)
 (h:∀q c d,Ad d e (.slice q (b.length+a.length) c) (b++a)->w.grownBy d v.ownBlock->((Value.slice q (b.length+a.length) c).ownBlock=v.ownBlock\/(Value.slice q (b.length+a.length) c).ownBlock=some w.heap.size)->wpList Tryz.prog i Q rest (o.put f.dst (.slice q (b.length+a.length) c)) d) :
 wpList Tryz.prog i Q (f::rest) o w:=by
 obtain⟨C,p,F,G,H⟩:=Ie OH;refine Tu E s x 67 r e 3 C (Qi 0) 1 8 Oj p F G H rfl Q5 v b.length (C4 b) z I B a.length u (C4 a) A y (zmI a) (by unfold maxLen;omega) Q0 J ?_
 intro D d j m n
 have g:Ad d e D (b++a):=by
  unfold Ad;rw[AJ,V8];exact j
 obtain⟨q,c,rfl⟩:=g.shape;rw[AJ] at*
 exact h q c d g m n
theorem RQ(g o k:Nat):(⟨g,o,none⟩:Addr).add k=⟨g,o+k,none⟩:=by unfold Addr.add;split<;>simp_all
theorem Rd.cut{b l h a:Nat}(u:Rd w n k (.slice A b a) b s)(m:l<=h)(p:h<=b) :
 Rd w n k (sliced A l h a k) (h-l) ((s.take (h*k)).drop (l*k)):=by
 obtain⟨f,y,F,v,B,C,j⟩:=u;injection v with d z e
 subst d e;have E:l*k<=h*k:=Nat.mul_le_mul_right k m;have G:h*k<=b*k:=Nat.mul_le_mul_right k p;refine⟨by rw[D9,BO,f,Nat.sub_mul];omega,_,_,rfl,Q0,Q0,λD=>?_⟩
 obtain⟨g,o,rfl,r,q⟩:=j Q0
 refine⟨g,o+l*k,?_,r,λi x c=>?_⟩
 ·rw[if_neg Q0,Iz,RQ]
 ·rw[Kh,Lp] at c
  split at c
  ·rw[show o+l*k+i=o+(l*k+i) by omega];exact q _ x c
  ·simp at c
theorem RJ:Tryz.prog.elem 67=3:=Q2
theorem TP(w:World):(sizeOf 3).run Tryz.prog w=.ok 1 w:=by
 obtain⟨c,a,_,b,_⟩:=Ie OH;simp[sizeOf,typeInfo,a,b]
theorem R9:Tryz.prog.underlying 67=some (.slice (Tryz.prog.elem 67)):=by rw[RJ];exact Oj
theorem Ac.cut{b:Nat}{a:List Int}(f:Ac w n (.slice A m b) a)(l h:Nat)(r:l<=h)(s:h<=m) :
 ∃v,Ac w n v ((a.take h).drop l)/\(∃q c,v=.slice q (h-l) c)/\(∀W,(Instr.slice 67 (.slice A m b) (some (Qi (l:Int))) (some (Qi (h:Int))) none).run Tryz.prog W=.ok v W)/\
  (h=m->∀W,(Instr.slice 67 (.slice A m b) (some (Qi (l:Int))) none none).run Tryz.prog W=.ok v W)/\(l=0->∀W,(Instr.slice 67 (.slice A m b) none (some (Qi (h:Int))) none).run Tryz.prog W=.ok v W):=by
 obtain⟨q,c,e,u,x⟩:=f.shape;injection e with g i j
 subst g i j;refine⟨sliced A l h b 1,?_,⟨_,_,rfl⟩,λW=>?_,λe W=>?_,λe W=>?_⟩
 ·have d:=Rd.cut (l:=l) (h:=h) (show Rd w n 1 (.slice A a.length b) a.length (C4 a) from f) r s
  unfold Ac;have o:((C4 a).take (h*1)).drop (l*1)=C4 ((a.take h).drop l):=by simp[C4]
  have p:((a.take h).drop l).length=h-l:=by rw[D9,BO];omega
  rw[o] at d;rw[p];exact d
 ·rw[run_slice_lh W _ _ _ _ R9 _ _ _ _ Q0 Q0 Q0,RJ,TP];rfl
 ·subst e
  rw[run_slice_l W _ _ _ _ R9 _ _ Q0 Q0,RJ,TP];rfl
 ·subst e
  rw[run_slice_h W _ _ _ _ R9 _ _ Q0 Q0,RJ,TP];rfl
theorem Ad.new(w:World)(c:Nat)(a:List Int)(b:Array Value)(k n:Nat)(e:k=w.heap.size)(g:n=a.length)(h:b.toList=C4 a)(f:a.length<=maxLen)(d:c<=w.heap.size) :
 Ad (w.alloc (.cells b 3)) c (Qs k 0 n n) a:=by
 subst e g;have i:b.size=a.length:=by rw[<-MX,h,I5]
 refine⟨by rw[I5];omega,.inr ⟨w.heap.size,a.length,b,rfl,d,Lw w _,Af _,f,Q0,?_⟩⟩
 rw[h,BR (by rw[I5];omega)]
theorem O7(n:Nat)(g:n<=17592186044416):∃a:Array Value,a.toList=C4 (List.replicate n 0)/\∀W,(Instr.makeSlice 67 (Qi (n:Int)) (Qi (n:Int))).run Tryz.prog W=.ok (Qs W.heap.size 0 n n) (W.alloc (.cells a 3)):=by
 obtain⟨c,b,d,e,f⟩:=Ie OH;refine⟨madeCells #[Qi 0] (n*1),?_,λW=>?_⟩
 ·rw[toList_madeCells_one,PJ];simp[C4]
 ·have:=run_make (P:=Tryz.prog) W 67 3 c (Qi 0) Oj b d .i64 .i64 n n Q0 Q0 (by rw[f];omega) Q0
  rw[e,EM] at this;exact this
def BS(w0 W:World)(l:List (Value × List Int)):Prop:=Qb w0 W/\∀p∈l,Ac W W.heap.size p.1 p.2
theorem BS.nil(w:World):BS w w []:=⟨Ag _ _,λp a=>by simp at a⟩
theorem BS.bel(h:BS w0 W l):Qb w0 W:=h.1
theorem BS.step(h:BS w0 W l)(a:Qb W W'):BS w0 W' l :=
 ⟨h.1.trans (a.mono h.1.size),λp b=>((h.2 p b).below a (Af _)).mono a.size⟩
theorem BS.add{b:List Int}(h:BS w0 W l)(c:Ac W W.heap.size x b):BS w0 W ((x,b)::l) :=
 ⟨h.1,λp a=>by
   rcases CZ.1 a with rfl|a
   ·exact c
   ·exact h.2 p a⟩
theorem BS.get{a:List Int}(h:BS w0 W l)(i:Nat)(b:l[i]?=some (x,a)):Ac W W.heap.size x a:=h.2 (x,a) (Cn b)
theorem BS.drew(h:BS w0 W l):BS w0 W.drew l:=h.step (Ag _ W).drew
theorem BS.alloc(h:BS w0 W l)(o:Obj):BS w0 (W.alloc o) l:=h.step ((Ag _ W).alloc (Af _) o)
theorem BS.drop{m:List (Value × List Int)}(h:BS w0 W l)(a:∀p∈m,p∈l):BS w0 W m:=⟨h.1,λp b=>h.2 p (a p b)⟩
theorem BS.lit(h:BS w0 W l)(a:List Int)(b:Array Value)(k:Nat)(c:k=W.heap.size)(e:b.toList=C4 a)(d:a.length<=maxLen) :
 BS w0 (W.alloc (.cells b 3)) ((Qs k 0 a.length a.length,a)::l) :=
 (h.alloc _).add (by have:=Ac.new W a b k a.length c rfl e d;exact this.mono Q6)
theorem BS.old{a:List Int}(h:BS w0 W l)(b:Ac w0 w0.heap.size x a):Ac W W.heap.size x a:=(b.below h.1 (Af _)).mono h.1.size
theorem BS.size(h:BS w0 W l):w0.heap.size<=W.heap.size:=h.1.size
def zAX(W:World)(bs:List (Nat × Array Value × TypeId)):Prop:=∀p∈bs,Qg W p.1 p.2.1 p.2.2
def BL(w0 W:World)(l:List (Value × List Int))(bs:List (Nat × Array Value × TypeId)):Prop:=BS w0 W l/\zAX W bs
section
variable {w0 W W':World} {l:List (Value × List Int)} {bs:List (Nat × Array Value × TypeId)}
theorem BL.nil(w:World):BL w w [] []:=⟨BS.nil w,λp a=>by simp at a⟩
theorem BL.bel(h:BL w0 W l bs):Qb w0 W:=h.1.bel
theorem BL.size(h:BL w0 W l bs):w0.heap.size<=W.heap.size:=h.1.size
theorem BL.step(h:BL w0 W l bs)(a:Qb W W'):BL w0 W' l bs:=⟨h.1.step a,λp b=>(a.block p.1 (Aj (h.2 p b))).trans (h.2 p b)⟩
theorem BL.add{a:List Int}(h:BL w0 W l bs)(b:Ac W W.heap.size x a):BL w0 W ((x,a)::l) bs:=⟨h.1.add b,h.2⟩
theorem BL.get{a:List Int}(h:BL w0 W l bs)(i:Nat)(b:l[i]?=some (x,a)):Ac W W.heap.size x a:=h.1.get i b
theorem BL.old{a:List Int}(h:BL w0 W l bs)(b:Ac w0 w0.heap.size x a):Ac W W.heap.size x a:=h.1.old b
theorem BL.alloc(h:BL w0 W l bs)(o:Obj):BL w0 (W.alloc o) l bs:=h.step ((Ag _ W).alloc (Af _) o)
theorem BL.drew(h:BL w0 W l bs):BL w0 W.drew l bs:=h.step (Ag _ W).drew
theorem BL.lt(a:BL w0 W l bs)(i:Nat){k:Nat}{h:Array Value}{t:TypeId}(b:bs[i]?=some (k,h,t)):k<W.heap.size:=Aj (a.2 (k,h,t) (Cn b))
theorem BL.blk(a:BL w0 W l bs)(i:Nat){k:Nat}{h:Array Value}{t:TypeId}(b:bs[i]?=some (k,h,t)):Qg W k h t:=a.2 (k,h,t) (Cn b)
theorem BL.cell(a:BL w0 W l bs)(i:Nat){k:Nat}{h:Array Value}{t:TypeId}(b:bs[i]?=some (k,h,t))(j:Nat):W.cell? ⟨k,j,none⟩=h[j]?:=Ae (a.blk i b) j
theorem BL.cellv(a:BL w0 W l bs)(i:Nat){k:Nat}{h:Array Value}{t:TypeId}(b:bs[i]?=some (k,h,t))(j:Nat)(u:Value)(c:h[j]?=some u):Qc W k j u:=(a.cell i b j).trans c
theorem BL.frozen(a:BL w0 W l bs)(i:Nat){k:Nat}{h:Array Value}{t:TypeId}(b:bs[i]?=some (k,h,t))(j:Nat):W.frozen? ⟨k,j,none⟩=false:=Ah (a.blk i b) j
theorem BL.box(h:BL w0 W l bs)(b:Array Value)(t:TypeId)(k:Nat)(c:k=W.heap.size):BL w0 (W.alloc (.cells b t)) l ((k,b,t)::bs) :=
 ⟨h.1.alloc _,λp a=>by
   rcases CZ.1 a with rfl|a
   ·exact Am _ _ _ c
   ·exact Bb _ (h.2 p a)⟩
theorem BL.drop{m:List (Value × List Int)}{a:List (Nat × Array Value × TypeId)}(h:BL w0 W l bs)(c:∀p∈m,p∈l)(b:∀p∈a,p∈bs):BL w0 W m a:=⟨h.1.drop c,λp d=>h.2 p (b p d)⟩
end
abbrev NP:=Nat × Nat
def Cf(a b:NP):Bool:=decide (a.1<b.1) ||(decide (a.1=b.1)&& decide (a.2<b.2))
theorem Kr(a b:NP):Cf a b=true↔a.1<b.1\/a.1=b.1/\a.2<b.2:=by simp[Cf]
theorem OZ(a b:NP):Cf a b=false↔¬ (a.1<b.1\/a.1=b.1/\a.2<b.2):=by rw[<-Kr];simp
theorem Ql{a b:NP}(h:Cf a b=true):Cf b a=false:=by
 rw[Kr] at h;rw[OZ];omega
theorem TS{a b c:NP}(h:Cf a b=true)(g:Cf b c=true):Cf a c=true:=by
 rw[Kr] at h g |-;omega
theorem Un{a b c:NP}(h:Cf b a=false)(g:Cf c b=false):Cf c a=false:=by
 rw[OZ] at h g |-;omega
def gP(h:List NP)(j:Nat):NP:=h[j]?.getD (0,0)
theorem Su(h:List NP)(i j:Nat)(x:NP)(a:i<h.length):gP (h.set i x) j=if i=j then x else gP h j:=by
 unfold gP;rw[P7]
 by_cases e:i=j
 ·subst e;simp[a]
 ·simp[e]
def I6(h:List NP)(i k:Nat):List NP:=(h.set i (gP h k)).set k (gP h i)
theorem OC(h:List NP)(i k:Nat):(I6 h i k).length=h.length:=by simp[I6]
theorem zt4(h:List NP)(i k j:Nat)(a:i<h.length)(b:k<h.length):gP (I6 h i k) j=if k=j then gP h i else if i=j then gP h k else gP h j:=by
 unfold I6;rw[Su _ _ _ _ (by rw[Jm];exact b),Su _ _ _ _ a]
theorem Xi(h:List NP)(i:Nat)(x:NP)(a:i<h.length):(gP h i::h.set i x).Perm (x::h):=by
 induction h generalizing i with
 |nil=>simp at a
 | cons y h b =>
   cases i with
   |zero=>simp[gP];exact QW _ _ _
   | succ i =>
     have:=b i (by simpa using a)
     have e:gP (y::h) (i+1)=gP h i:=by simp[gP]
     rw[e,AL];exact(QW _ _ _).trans ((this.cons y).trans (QW _ _ _))
theorem Z8(h:List NP)(i k:Nat)(b:i<h.length)(d:k<h.length)(f:i≠k):(I6 h i k).Perm h:=by
 have a:=Xi (h.set i (gP h k)) k (gP h i) (by rw[Jm];exact d)
 have c:=Xi h i (gP h k) b;have e:gP (h.set i (gP h k)) k=gP h k:=by rw[Su _ _ _ _ b,if_neg f]
 rw[e] at a;exact(a.trans c).cons_inv
def Ci(h:List NP):Prop:=∀j,0<j->j<h.length->Cf (gP h j) (gP h ((j-1)/ 2))=false
theorem Ci.least{h:List NP}(b:Ci h):∀j,j<h.length->Cf (gP h j) (gP h 0)=false:=by
 intro j
 induction j using Nat.strongRecOn with
 | ind j d =>
   intro c;rcases IP j with rfl|a
   ·rw[OZ];omega
   ·exact Un (d ((j-1)/ 2) Q0 Q0) (b j a c)
structure Le(h:List NP)(i:Nat):Prop where
 lt:i<h.length
 a:∀j,0<j->j<h.length->j≠i->Cf (gP h j) (gP h ((j-1)/ 2))=false
 b:∀j,0<j->j<h.length->(j-1)/ 2=i->0<i->Cf (gP h j) (gP h ((i-1)/ 2))=false
theorem Le.start{h:List NP}(d:Ci h)(x:NP):Le (h++[x]) h.length:=by
 have c:∀j,j<h.length->gP (h++[x]) j=gP h j:=λj a=>by unfold gP;rw[FP a]
 refine⟨Q6,λj b a f=>?_,λj b a e _=>?_⟩
 ·simp at a
  rw[c j Q0,c _ Q0]
  exact d j b Q0
 ·simp at a
  omega
theorem Le.done{h:List NP}(d:Le h n)(a:n=0\/Cf (gP h n) (gP h ((n-1)/ 2))=false):Ci h:=by
 intro j b c
 by_cases e:j=n
 ·subst e
  rcases a with a|a
  ·omega
  ·exact a
 ·exact d.a j b c e
theorem Le.step{h:List NP}(c:Le h n)(s:0<n)(p:Cf (gP h n) (gP h ((n-1)/ 2))=true):Le (I6 h n ((n-1)/ 2)) ((n-1)/ 2):=by
 have u:=c.lt;have i:(n-1)/ 2<h.length:=Q0
 obtain⟨k,q⟩:=Qe ((n-1)/ 2);rw[q] at p i |-;have z:k<n:=Q0
 have g:=λj=>zt4 h n k j u i;refine⟨by rw[OC];exact i,λj f b y=>?_,λj f b v x=>?_⟩
 ·rw[OC] at b
  rw[g,g,if_neg (λe=>y e.symm)]
  by_cases a:n=j
  ·subst a
   rw[if_pos rfl,if_pos q.symm];exact Ql p
  ·rw[if_neg a]
   by_cases m:k=(j-1)/ 2
   ·rw[if_pos m]
    have d:=c.a j f b (λe=>a e.symm);rw[<-m] at d;have:=Un (Ql p) d;exact this
   ·rw[if_neg m]
    by_cases o:n=(j-1)/ 2
    ·rw[if_pos o]
     have:=c.b j f b o.symm s;rw[q] at this;exact this
    ·rw[if_neg o]
     exact c.a j f b (λe=>a e.symm)
 ·rw[OC] at b
  have r:Cf (gP h k) (gP h ((k-1)/ 2))=false:=c.a k x i Q0
  rw[g j,g ((k-1)/ 2),if_neg (show ¬ k=j by omega),if_neg (show ¬ k=(k-1)/ 2 by omega),if_neg (show ¬ n=(k-1)/ 2 by omega)]
  by_cases a:n=j
  ·subst a
   rw[if_pos rfl];exact r
  ·rw[if_neg a]
   have d:=c.a j f b (λe=>a e.symm);rw[v] at d;exact Un r d
structure Ei(h:List NP)(i:Nat):Prop where
 a:∀j,0<j->j<h.length->(j-1)/ 2≠i->Cf (gP h j) (gP h ((j-1)/ 2))=false
 b:∀j,0<j->j<h.length->(j-1)/ 2=i->0<i->Cf (gP h j) (gP h ((i-1)/ 2))=false
def Ii(h:List NP):List NP:=(h.set 0 (gP h (h.length-1))).take (h.length-1)
theorem YU(h:List NP):(Ii h).length=h.length-1:=by simp[Ii]
theorem ztf(h:List NP)(j:Nat)(b:j<h.length-1):gP (Ii h) j=if j=0 then gP h (h.length-1) else gP h j:=by
 have a:gP (Ii h) j=gP (h.set 0 (gP h (h.length-1))) j:=by
  unfold Ii gP;rw[Mj b]
 rw[a,Su _ _ _ _ Q0]
 by_cases e:j=0
 ·subst e;simp
 ·rw[if_neg (λh=>e h.symm),if_neg e]
theorem Ei.start{h:List NP}(d:Ci h)(f:0<h.length):Ei (Ii h) 0:=by
 refine⟨λj b a c=>?_,λj b a c e=>by omega⟩
 rw[YU] at a;rw[ztf h j a,ztf h _ Q0,if_neg Q0,if_neg c]
 exact d j b Q0
theorem zsl(h:List NP)(a:0<h.length):(gP h 0::Ii h).Perm h:=by
 have b:=Xi h 0 (gP h (h.length-1)) a
 have f:h.set 0 (gP h (h.length-1))=Ii h++[gP (h.set 0 (gP h (h.length-1))) (h.length-1)]:=by
  obtain⟨s,e⟩:=Qe (h.set 0 (gP h (h.length-1)));have n:s.length=h.length:=by rw[<-e,Jm]
  unfold Ii;rw[e];have c:=Ep (l:=s) (i:=h.length-1) Q0
  rw[show h.length-1+1=h.length by omega,BR Q0] at c
  have g:gP s (h.length-1)=s[h.length-1]'(by omega):=by unfold gP;rw[Az Q0];rfl
  rw[g];exact c
 rcases Gb 1 h.length with d|d
 ·have j:gP (h.set 0 (gP h (h.length-1))) (h.length-1)=gP h (h.length-1):=by rw[Su _ _ _ _ a,if_neg Q0]
  rw[f,j] at b
  have m:(gP h (h.length-1)::(gP h 0::Ii h)).Perm (gP h (h.length-1)::h):=by
   refine Vj ?_ b;refine(QW _ _ _).trans (List.Perm.cons _ ?_);exact(MW (l₁:=[gP h (h.length-1)]) (l₂:=Ii h)).trans (KL _)
  exact m.cons_inv
 ·obtain⟨x,rfl⟩:∃x,h=[x]:=by
   cases h with
   |nil=>simp at a
   | cons x h =>
     cases h with
     |nil=>exact⟨x,rfl⟩
     |cons y h=>simp at d
  simp[Ii,gP]
theorem Ei.done{h:List NP}(d:Ei h n)(c:∀j,0<j->j<h.length->(j-1)/ 2=n->Cf (gP h j) (gP h n)=false):Ci h:=by
 intro j a b
 by_cases e:(j-1)/ 2=n
 ·rw[e];exact c j a b e
 ·exact d.a j a b e
theorem Ei.step{h:List NP}(f:Ei h n)(v:0<m)(q:m<h.length)(i:(m-1)/ 2=n)(s:Cf (gP h m) (gP h n)=true)
 (u:∀j,0<j->j<h.length->(j-1)/ 2=n->Cf (gP h j) (gP h m)=false):Ei (I6 h n m) m:=by
 have r:n<h.length:=Q0
 have x:n<m:=Q0
 have d:=λj=>zt4 h n m j r q;refine⟨λj b a g=>?_,λj b a g y=>?_⟩
 ·rw[OC] at a
  rw[d j,d ((j-1)/ 2),if_neg (show ¬ m=(j-1)/ 2 from λe=>g e.symm)]
  by_cases o:m=j
  ·subst o
   rw[if_pos rfl,if_pos i.symm];exact Ql s
  ·rw[if_neg o]
   by_cases c:n=(j-1)/ 2
   ·rw[if_pos c,if_neg Q0]
    exact u j b a c.symm
   ·rw[if_neg c]
    by_cases p:n=j
    ·subst p
     rw[if_pos rfl];exact f.b m v q i b
    ·rw[if_neg p]
     exact f.a j b a (λe=>c e.symm)
 ·rw[OC] at a
  rw[d j,d ((m-1)/ 2),if_neg (show ¬ m=j by omega),if_neg (show ¬ n=j by omega),if_neg (show ¬ m=(m-1)/ 2 by omega),if_pos i.symm]
  have:=f.a j b a Q0
  rw[g] at this;exact this
