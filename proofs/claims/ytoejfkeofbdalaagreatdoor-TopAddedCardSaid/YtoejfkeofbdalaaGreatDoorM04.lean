import Derived.Test.YtoejfkeofbdalaaGreatDoorM03
import Derived.Laws.Rows
import Derived.Deep.MidRow
set_option linter.all false
set_option maxRecDepth 100000
set_option maxHeartbeats 8000000
namespace Go.Proofs.YtoejfkeofbdalaaGreatDoor
open Go.RowKit
variable {a:Option Nat} {f:List Nat} {l:List Int} {m n:Nat} {o:Obj} {p:Int->Bool} {t:TypeId} {x:Value}
section
variable {w0 W W':World} {l:List (Value × List Int)} {bs:List (Nat × Array Value × TypeId)}
theorem BL.lit(h:BL w0 W l bs)(a:List Int)(b:Array Value)(k:Nat)(d:k=W.heap.size)(f:b.toList=C4 a)(e:a.length<=maxLen) :
 BL w0 (W.alloc (.cells b 3)) ((Qs k 0 a.length a.length,a)::l) bs:=⟨h.1.lit a b k d f e,(h.alloc _).2⟩
theorem BL.fresh(b:BL w0 W l bs)(d:Qb W W'){n:Nat}{h:Array Value}{t:TypeId}(e:Qg W' n h t):BL w0 W' l ((n,h,t)::bs) :=
 ⟨(b.step d).1,λp a=>by
   rcases CZ.1 a with rfl|a
   ·exact e
   ·exact(b.step d).2 p a⟩
end
section
variable {W c c':World}
theorem Cq(h:Qb W c):Qb W c.drew:=h.drew
theorem Ay(h:Qb W c)(o:Obj):Qb W (c.alloc o):=h.alloc h.size o
theorem A9(a:Qb c c')(h:Qb W c):Qb W c':=h.trans (a.mono h.size)
theorem Ce(h:Qb W c){n:Nat}(a:W.heap.size<=n)(i:Nat)(u:Value):Qb W (c.setCell ⟨n,i,none⟩ u):=h.setCell (p:=⟨n,i,none⟩) a u
theorem DS{b:List Int}(h:Ac W W.heap.size x b)(a:Qb W c):Ac c c.heap.size x b:=(h.below a (Af _)).mono a.size
theorem Al(a:Qb c c')(h:Qh c n o):Qh c' n o:=(a.block n (Aj h)).trans h
theorem zwx(h:Qb W c):W.heap.size<=c.heap.size:=h.size
theorem PZ(b:c.grownBy c' a)(h:Qb W c)(d:∀k,a=some k->W.heap.size<=k):Qb W c':=h.grown b h.size d
theorem RB(b:c.grownBy c' a)(h:Qh c n o)(d:some n≠a):Qh c' n o:=(b.block n (Aj h) d).trans h
theorem zjx{o n:Nat}{j:List Int}{h:Array Value}(g:c.grownBy c' x.ownBlock)(i:Ad c o x j)(k:t≠3)(b:Qg c m h t):Qg c' m h t :=
 RB g b λe=>by
  obtain⟨d,a⟩:=Gr i e.symm;rw[b] at a;injection a with a
  injection a with p f
  exact k f
theorem znz(w:World)(a o:Obj):Qh ((w.alloc a).alloc o) (w.heap.size+1) o:=Am _ _ _ Q6
theorem PX{y:Value}(h:Qg W n #[x,y] t)(a b:Value):Qg ((W.setCell ⟨n,0,none⟩ a).setCell ⟨n,1,none⟩ b) n #[a,b] t:=by
 have d:=Ak (Ak h 0 a) 1 b;simpa using d
end
theorem WB(k:Nat):((2:Int)^ k)=((2 ^ k:Nat):Int):=by push_cast;rfl
def I7(l:List Nat):Nat:=(l.map λx=>2 ^ (20-x)).sum
def Cg(l:List Nat):Nat->Nat
 |0=>0
 |k+1=>2*Cg l k+l.count (k+1)
def JX(l:List Nat):Prop:=∀x∈l,1<=x/\x<=20
theorem ztg(k:Nat):Cg [] k=0:=by
 induction k with
 |zero=>rfl
 |succ k a=>rw[Cg,a];rfl
theorem zrg(x:Nat)(l:List Nat)(f:1<=x)(k:Nat):Cg (x::l) k=Cg l k+if x<=k then 2 ^ (k-x) else 0:=by
 induction k with
 |zero=>rw[if_neg Q0];rfl
 | succ k e =>
   rw[Cg,Cg,e,Od]
   by_cases h:x<=k
   ·have a:(x ==k+1)=false:=by rw[Ez];omega
    have b:x<=k+1:=Q0
    rw[if_pos h,if_pos b,show k+1-x=(k-x)+1 by omega,Jk]
    simp only[a,MT,M4];omega
   ·by_cases d:x=k+1
    ·subst d
     rw[if_neg h,if_pos (Af _),Ow];simp;omega
    ·have a:(x ==k+1)=false:=by rw[Ez];omega
     have b:¬ x<=k+1:=Q0
     rw[if_neg h,if_neg b];simp only[a,MT,M4];omega
theorem zrP(x:Nat)(l:List Nat):I7 (x::l)=2 ^ (20-x)+I7 l:=by simp[I7]
theorem Zh(l:List Nat)(h:JX l):Cg l 20=I7 l:=by
 induction l with
 |nil=>exact ztg 20
 | cons x l d =>
   have a:=h x Q6
   rw[zrg x l a.1,zrP,d λy b=>h y (by simp[b]),if_pos a.2]
   omega
theorem ZX(l:List Nat){j k:Nat}(a:j<=k)(h:2 ^ j<Cg l j):2 ^ k<Cg l k:=by
 induction a with
 |refl=>exact h
 |step _ b=>rw[Cg,Jk];omega
theorem U8(l:List Nat)(b:JX l)(d:I7 l<=1048576)(k:Nat)(h:k<=20):Cg l k<=2 ^ k:=by
 rcases Gb (2 ^ k) (Cg l k) with a|a
 ·have:=ZX l h a
  rw[Zh l b] at this;have e:(2:Nat)^ 20=1048576:=Q5
  omega
 ·exact a
def Pd(l:List Int):Prop:=∀x∈l,1<=x/\x<=20
instance(l:List Int):Decidable (Pd l):=inferInstanceAs (Decidable (∀x∈l,1<=x/\x<=20))
instance(l:List Nat):Decidable (JX l):=inferInstanceAs (Decidable (∀x∈l,1<=x/\x<=20))
def KV(l:List Int):Int :=
 if l.length<2\/258<l.length\/¬ Pd l then 1 else if 1048576<I7 (l.map Int.toNat) then 6 else 0
theorem Ws(l:List Nat):Pd (ints l)↔JX l:=by
 unfold Pd JX ints
 constructor
 ·intro h x a
  have:=h (x:Int) (C8.2 ⟨x,a,rfl⟩);omega
 ·intro h x a
  obtain⟨y,b,rfl⟩:=C8.1 a;have:=h y b;omega
theorem zqN(l:List Nat):(ints l).map Int.toNat=l:=by
 unfold ints;rw[Gq];have:(Int.toNat ∘ λa:Nat=>(a:Int))=id:=by funext x;simp
 rw[this,Mx]
theorem zsk(l:List Int)(h:∀x∈l,0<=x):ints (l.map Int.toNat)=l:=by
 unfold ints;rw[Gq]
 have:l.map ((λa:Nat=>(a:Int))∘ Int.toNat)=l.map id:=Gl λx b=>by
  have:=h x b;simp only[Function.comp,id];omega
 rw[this,Mx]
theorem zpE(l:List Nat):KV (ints l)=if l.length<2\/258<l.length\/¬ JX l then 1 else if 1048576<I7 l then 6 else 0:=by
 unfold KV;rw[Bj,zqN]
 by_cases h:JX l
 ·have a:=(Ws l).2 h
  simp only[a,h]
 ·have a:¬ Pd (ints l):=λb=>h ((Ws l).1 b)
  simp only[h,a,not_false_eq_true,or_true,L5]
structure Code(l:List Nat):Prop where
 two:2<=l.length
 most:l.length<=258
 fits:JX l
 room:I7 l<=1048576
theorem Code.ok{l:List Nat}(h:Code l):KV (ints l)=0:=by
 rw[zpE,if_neg (by have:=h.two;have:=h.most;have:=h.fits;simp[*]),if_neg (by have:=h.room;omega)]
theorem zli{g:Nat}:∀(d:List Value)(w:World)(a b:List Value),Qg w g (a++b).toArray t->d.length=b.length ->
 Qg (w.setCells g a.length d) g (a++d).toArray t/\(w.setCells g a.length d).heap.size=w.heap.size/\(∀k,k≠g->(w.setCells g a.length d).heap[k]?=w.heap[k]?)/\(∀(B:Nat)(w0:World),B<=g->Below B w0 w->Below B w0 (w.setCells g a.length d)):=by
 intro d
 induction d with
 | nil =>
   intro w a b h e;obtain rfl:b=[]:=Ey (by simpa using e.symm)
   exact⟨h,rfl,λ_ _=>rfl,λ_ _ _ h=>h⟩
 | cons v d u =>
   intro w a b h e
   obtain⟨x,b,rfl⟩:∃x c,b=x::c:=by
    cases b with
    |nil=>simp at e
    |cons x c=>exact⟨x,c,rfl⟩
   have f:=Ak h a.length v
   have r:((a++x::b).toArray.setIfInBounds a.length v)=((a++[v])++b).toArray:=by
    simp[List.set_append_right]
   rw[r] at f;obtain⟨m,n,o,q⟩:=u (w.setCell ⟨g,a.length,none⟩ v) (a++[v]) b f (by simpa using e)
   rw[AJ,Og] at m n o q;rw[World.setCells];refine⟨by simpa using m,n.trans (by simp[World.setCell]),λk j=>(o k j).trans (Bg _ _ _ _ j),λB w0 i s=>q B w0 i (s.setCell (p:=⟨g,a.length,none⟩) i v)⟩
theorem Rq{m:Array Oper}{rest:List Oper}{d:Oper}{o:Act}{w:World}{Q:Exit->Act->World->Prop}(E:d.guard=none)(f:TypeId)(x y:Operand)(r:d.op=.store f x y)
 (g:Nat) (a i:Array Value) (t:TypeId) (u:o.eval x=Qp g 0) (v:o.eval y=.agg a)
 (e:Qg w g i t) (s:i.size=a.size) (q:(Tryz.prog.info? f).map (·.size)=some a.size) (n:a.all (·.oneCell')=true)
 (h:∀b,Qg b g a t->b.heap.size=w.heap.size->(∀k,k≠g->b.heap[k]?=w.heap[k]?)->(∀(B:Nat)(w0:World),B<=g->Below B w0 w->Below B w0 b)->wpList Tryz.prog m Q rest (o.put d.dst undef) b) :
 wpList Tryz.prog m Q (d::rest) o w:=by
 have p:∀j,j<a.size->(w.cell? ⟨g,0+j,none⟩).isSome=true/\w.frozen? ⟨g,0+j,none⟩=false:=λj F=>by
  rw[DC,Ae e,Ah e,Oh Q0]
  exact⟨rfl,rfl⟩
 refine wpList_store_mid E f x y r g 0 a u v p q n ?_;obtain⟨z,A,C,D⟩:=zli (g:=g) (t:=t) a.toList w [] i.toList (by simpa using e) (by simpa using s.symm)
 exact h _ (by simpa using z) A C D
def Eg(x:NP):List NP->List NP
 | []=>[x]
 |y::l=>if Cf x y then x::y::l else y::Eg x l
def QE(l:List NP):Prop:=l.Pairwise λa b=>Cf a b=true
theorem OD(x:NP)(l:List NP):(Eg x l).Perm (x::l):=by
 induction l with
 |nil=>exact KL _
 | cons y l a =>
   rw[Eg]
   by_cases h:Cf x y=true
   ·rw[if_pos h]
   ·rw[if_neg h]
    exact(a.cons y).trans (QW _ _ _)
theorem AY{x z:NP}{l:List NP}:z∈Eg x l↔z=x\/z∈l:=by
 rw[(OD x l).mem_iff,CZ]
theorem Tz(x:NP)(l:List NP):(Eg x l).length=l.length+1:=by
 have:=(OD x l).length_eq;simpa using this
theorem ztc{a b:NP}(h:a.2≠b.2)(d:Cf a b=false):Cf b a=true:=by
 rw[OZ] at d;rw[Kr];omega
theorem znp{x:NP}{l:List NP}(d:QE l)(f:∀y∈l,y.2≠x.2):QE (Eg x l):=by
 induction l with
 |nil=>exact SK _ _
 | cons y l g =>
   rw[Eg];have b:=IM.1 d
   by_cases h:Cf x y=true
   ·rw[if_pos h]
    refine IM.2 ⟨λz a=>?_,d⟩;rcases CZ.1 a with rfl|a
    ·exact h
    ·exact TS h (b.1 z a)
   ·rw[if_neg h]
    refine IM.2 ⟨λz a=>?_,g b.2 λz a=>f z (by simp[a])⟩
    rcases AY.1 a with rfl|a
    ·exact ztc (λe=>f y Q6 e.symm) (by simpa using h)
    ·exact b.1 z a
def Gu:List NP->List NP
 | []=>[]
 |x::l=>Eg x (Gu l)
theorem LC(l:List NP):(Gu l).Perm l:=by
 induction l with
 |nil=>exact KL _
 |cons x l a=>rw[Gu];exact(OD x _).trans (a.cons x)
def Be(l:List NP):Prop:=(l.map (·.2)).Nodup
theorem Be.perm{l m:List NP}(h:Be l)(a:m.Perm l):Be m:=(a.map (λx:NP=>x.2)).nodup_iff.2 h
theorem Be.cons{x:NP}{l:List NP}:Be (x::l)↔(∀y∈l,y.2≠x.2)/\Be l:=by
 unfold Be;rw[Dz,List.nodup_cons]
 constructor
 ·rintro⟨a,b⟩
  exact⟨λy d e=>a (C8.2 ⟨y,d,e⟩),b⟩
 ·rintro⟨a,b⟩
  refine⟨λf=>?_,b⟩;obtain⟨y,d,e⟩:=C8.1 f;exact a y d e
theorem zqT{l:List NP}(h:Be l):QE (Gu l):=by
 induction l with
 |nil=>exact List.Pairwise.nil
 | cons x l e =>
   obtain⟨a,b⟩:=Be.cons.1 h;rw[Gu];exact znp (e b) λy d=>a y ((LC l).mem_iff.1 d)
theorem YL{s h:List NP}{a:NP}(u:QE s)(d:h.Perm s)(w:Be s)(f:0<h.length)(q:∀j,j<h.length->Cf (gP h j) (gP h 0)=false):∃r,s=gP h 0::r:=by
 cases s with
 | nil =>
   have:=d.length_eq;simp at this;subst this;simp at f
 | cons b r =>
   have n:b∈h:=d.mem_iff.2 Q6
   have p:gP h 0∈h:=by unfold gP;rw[Az f];exact Et _
   have v:gP h 0∈b::r:=d.mem_iff.1 p;rcases CZ.1 v with e|t
   ·exact⟨r,by rw[e]⟩
   ·have m:=(IM.1 u).1 _ t
    obtain⟨j,i,o⟩:=QV n;have g:=q j i;have k:gP h j=b:=by unfold gP;rw[Az i,o];rfl
    rw[k,m] at g;cases g
def C9:Nat->List NP->Nat->Nat->Nat
 |0,_,_,_=>0
 |_+1,[],_,_=>0
 |_+1,[_],_,_=>0
 |n+1,a::b::r,m,x=>if x=a.2\/x=b.2 then C9 n (Eg (a.1+b.1,m) r) (m+1) m+1 else C9 n (Eg (a.1+b.1,m) r) (m+1) x
def DF(w:List Nat):List NP:=w.zipIdx
def Dl(w:List Nat):List Nat:=(List.range w.length).map (C9 w.length (Gu (DF w)) w.length)
def FV:Nat->List NP->Nat->List NP
 |0,_,_=>[]
 |_+1,[],_=>[]
 |_+1,[_],_=>[]
 |n+1,a::b::r,m=>(a.1+b.1,m)::FV n (Eg (a.1+b.1,m) r) (m+1)
structure ER(s:List NP)(m:Nat):Prop where
 sort:QE s
 nums:Be s
 lt:∀x∈s,x.2<m
 pos:∀x∈s,1<=x.1
theorem ER.step{a b:NP}{r:List NP}(h:ER (a::b::r) n):ER (Eg (a.1+b.1,n) r) (n+1):=by
 obtain⟨i,j,e,g⟩:=h;have m:=(IM.1 (IM.1 i).2).2;have k:=(Be.cons.1 (Be.cons.1 j).2).2;refine⟨znp m λy f=>?_,?_,λx d=>?_,λx d=>?_⟩
 ·have:=e y (by simp[f]);show y.2≠n;omega
 ·refine Be.perm (Be.cons.2 ⟨λy f=>?_,k⟩) (OD _ _)
  have:=e y (by simp[f]);show y.2≠n;omega
 ·rcases AY.1 d with rfl|d
  ·show n<n+1;omega
  ·have:=e x (by simp[d]);omega
 ·rcases AY.1 d with rfl|d
  ·have:=g a Q6;show 1<=a.1+b.1;omega
  ·exact g x (by simp[d])
theorem X8(n:Nat):∀(s:List NP)(m:Nat),∀y∈FV n s m,m<=y.2:=by
 induction n with
 |zero=>intro s m y d;simp[FV] at d
 | succ n e =>
   intro s m y d
   match s,d with
   | [],d=>simp[FV] at d
   | [x],d=>simp[FV] at d
   | a::b::r,d =>
     rw[FV] at d;rcases CZ.1 d with rfl|d
     ·exact Af _
     ·have:=e _ _ y d;omega
theorem zxx(n:Nat):∀(s:List NP)(m:Nat),ER s m->∀(c:NP),c.2<m->(∀x∈s,∀y∈s,x≠y->c.1<=x.1+y.1)->∀y∈FV n s m,Cf c y=true:=by
 induction n with
 |zero=>intro s m _ c _ _ y d;simp[FV] at d
 | succ n j =>
   intro s m h c u f y d
   match s,h,f,d with
   | [],_,_,d=>simp[FV] at d
   | [x],_,_,d=>simp[FV] at d
   | a::b::r,h,f,d =>
     rw[FV] at d
     have k:a≠b:=λe=>by
      have:=(Be.cons.1 h.nums).1 b Q6
      rw[e] at this;exact this rfl
     have t:=f a Q6 b Q6 k
     rcases CZ.1 d with rfl|d
     ·rw[Kr];simp only;omega
     ·refine j _ _ h.step c Q0 (λx g z i o=>?_) y d
      have v:=h.step.pos;rcases AY.1 g with rfl|p
      ·simp only;omega
      ·rcases AY.1 i with rfl|q
       ·simp only;omega
       ·exact f x (by simp[p]) z (by simp[q]) o
theorem ER.least{a b:NP}{r:List NP}(h:ER (a::b::r) n){x:NP}(g:x∈r):b.1<=x.1/\a.1<=b.1/\Cf b x=true/\Cf a x=true/\Cf a b=true:=by
 obtain⟨d,i⟩:=IM.1 h.sort;obtain⟨j,m⟩:=IM.1 i;have e:=j x g;have f:=d b Q6
 have k:=d x (by simp[g])
 refine⟨?_,?_,e,k,f⟩
 ·rw[Kr] at e;omega
 ·rw[Kr] at f;omega
theorem zr3{a b:NP}{r:List NP}(f:Nat)(h:ER (a::b::r) n):∀y∈FV f (Eg (a.1+b.1,n) r) (n+1),Cf (a.1+b.1,n) y=true:=by
 refine zxx f _ _ h.step (a.1+b.1,n) (Kj n) λx d z e j=>?_;rcases AY.1 d with rfl|d
 ·simp only;omega
 ·rcases AY.1 e with rfl|e
  ·simp only;omega
  ·have g:=h.least d
   have i:=h.least e;simp only;omega
theorem Xw(n:Nat):∀(s:List NP)(m:Nat),ER s m->s.length<=n->2<=s.length->∀y∈s,∃p∈FV n s m,C9 n s m y.2=C9 n s m p.2+1/\y.1<p.1:=by
 induction n with
 |zero=>intro s m _ f e;omega
 | succ n k =>
   intro s m h f e y d
   match s,h,f,e,d with
   | [],_,_,e,_=>simp at e
   | [x],_,_,e,_=>simp at e
   | a::b::r,h,f,e,d =>
     have v:=h.lt a Q6
     have z:=h.lt b Q6
     have w:=h.pos a Q6
     have A:=h.pos b Q6
     have g:C9 (n+1) (a::b::r) m m=C9 n (Eg (a.1+b.1,m) r) (m+1) m:=by
      rw[C9,if_neg Q0]
     rcases CZ.1 d with rfl|d
     ·refine⟨(y.1+b.1,m),by rw[FV];simp,?_,by simp only;omega⟩
      simp only;rw[g,C9,if_pos (.inl rfl)]
     ·rcases CZ.1 d with rfl|d
      ·refine⟨(a.1+y.1,m),by rw[FV];simp,?_,by simp only;omega⟩
       simp only;rw[g,C9,if_pos (.inr rfl)]
      ·have j:(Eg (a.1+b.1,m) r).length=r.length+1:=Tz _ _
       have C:0<r.length:=List.length_pos_of_mem d;obtain⟨p,i,t,u⟩:=k _ _ h.step (by rw[j];simp at f;omega) Q0 y (AY.2 (.inr d))
       have B:=X8 n _ _ p i;have o:y.2≠a.2:=(Be.cons.1 h.nums).1 y (by simp[d])
       have q:y.2≠b.2:=(Be.cons.1 (Be.cons.1 h.nums).2).1 y d;refine⟨p,by rw[FV];simp[i],?_,u⟩
       rw[C9,C9,if_neg (by simp[o,q]),if_neg Q0,t]
theorem zvs(n:Nat):∀(s:List NP)(m:Nat),ER s m->s.length<=n->∀x y:NP,(x∈s\/x∈FV n s m)->(y∈s\/y∈FV n s m)->Cf x y=true->C9 n s m y.2<=C9 n s m x.2:=by
 induction n with
 | zero =>
   intro s m _ j x y g _ _;have:s=[]:=Ey Q0
   subst this;simp[FV] at g
 | succ n E =>
   intro s m h j x y g k v
   match s,h,j,g,k with
   | [],_,_,g,_=>simp[FV] at g
   | [z],_,_,g,k=>simp[C9]
   | a::b::r,h,j,g,k =>
     have H:=h.lt a Q6
     have J:=h.lt b Q6
     have I:=h.pos a Q6
     have K:=h.pos b Q6
     have A:(Eg (a.1+b.1,m) r).length=r.length+1:=Tz _ _;have w:=zr3 n h;have u:=E _ _ h.step (by rw[A];simp at j;omega)
     have q:∀z:NP,(z∈a::b::r\/z∈FV (n+1) (a::b::r) m)->(z=a\/z=b)/\C9 (n+1) (a::b::r) m z.2=C9 n (Eg (a.1+b.1,m) r) (m+1) m+1\/(z∈Eg (a.1+b.1,m) r\/z∈FV n (Eg (a.1+b.1,m) r) (m+1))/\C9 (n+1) (a::b::r) m z.2=C9 n (Eg (a.1+b.1,m) r) (m+1) z.2:=by
      intro z e;rw[FV,CZ,CZ,CZ] at e;rcases e with(rfl|rfl|e)|rfl|e
      ·exact .inl ⟨.inl rfl,by rw[C9,if_pos (.inl rfl)]⟩
      ·exact .inl ⟨.inr rfl,by rw[C9,if_pos (.inr rfl)]⟩
      ·have F:z.2≠a.2:=(Be.cons.1 h.nums).1 z (by simp[e])
       have G:z.2≠b.2:=(Be.cons.1 (Be.cons.1 h.nums).2).1 z e;exact .inr ⟨.inl (AY.2 (.inr e)),by rw[C9,if_neg (by simp[F,G])]⟩
      ·exact .inr ⟨.inl (AY.2 (.inl rfl)),by rw[C9,if_neg (by simp only;omega)]⟩
      ·have:=X8 n _ _ z e
       exact .inr ⟨.inr e,by rw[C9,if_neg Q0]⟩
     rcases q x g with⟨f,o⟩|⟨f,o⟩
     ·rcases q y k with⟨d,i⟩|⟨d,i⟩
      ·rw[o,i];exact Af _
      ·rw[o,i]
       rcases d with d|d
       ·by_cases D:r=[]
        ·subst D
         have:y=(a.1+b.1,m):=by simpa [Eg] using d
         rw[this];exact M3 _
        ·have N:0<r.length:=Ga.2 D
         obtain⟨p,C,L,M⟩:=Xw n _ _ h.step (by rw[A];simp at j;omega) Q0 y d
         have:=u (a.1+b.1,m) p (.inl (AY.2 (.inl rfl))) (.inr C) (w p C);simp only at this;omega
       ·have:=u (a.1+b.1,m) y (.inl (AY.2 (.inl rfl))) (.inr d) (w y d)
        simp only at this;omega
     ·rcases q y k with⟨d,i⟩|⟨d,i⟩
      ·exfalso
       have B:Cf b x=true/\Cf a x=true:=by
        have t:Cf b (a.1+b.1,m)=true/\Cf a (a.1+b.1,m)=true:=by
         rw[Kr,Kr];simp only;omega
        rcases f with f|f
        ·rcases AY.1 f with rfl|f
         ·exact t
         ·have:=h.least f
          exact⟨this.2.2.1,this.2.2.2.1⟩
        ·have:=w x f
         exact⟨TS t.1 this,TS t.2 this⟩
       rcases d with rfl|rfl
       ·have:=Ql B.2;rw[v] at this;cases this
       ·have:=Ql B.1;rw[v] at this;cases this
      ·rw[o,i]
       exact u x y f d v
theorem Uq{a:Type}{l m:List a}(f:a->Nat)(h:l.Perm m):(l.map f).sum=(m.map f).sum:=(h.map f).sum_nat
theorem zs3{r:List NP}{a b:NP}(h:ER (a::b::r) n)(F:NP->Nat->Nat):(r.map λx=>F x (C9 (m+1) (a::b::r) n x.2))=r.map λx=>F x (C9 m (Eg (a.1+b.1,n) r) (n+1) x.2):=by
 refine Gl λx d=>?_;have e:x.2≠a.2:=(Be.cons.1 h.nums).1 x (by simp[d])
 have f:x.2≠b.2:=(Be.cons.1 (Be.cons.1 h.nums).2).1 x d;rw[C9,if_neg (by simp[e,f])]
theorem zss(D n:Nat):∀(s:List NP)(m:Nat),ER s m->s.length<=n->s≠[]->(∀x∈s,C9 n s m x.2<=D)->(s.map λx=>2 ^ (D-C9 n s m x.2)).sum=2 ^ D:=by
 induction n with
 | zero =>
   intro s m _ i f;exact absurd (Ey Q0) f
 | succ n v =>
   intro s m h i f j
   match s,h,i,f,j with
   | [],_,_,f,_=>exact absurd rfl f
   | [z],_,_,_,_=>simp[C9]
   | a::b::r,h,i,_,j =>
     have k:(Eg (a.1+b.1,m) r).length=r.length+1:=Tz _ _;have p:=j a Q6
     have o:C9 (n+1) (a::b::r) m a.2=C9 n (Eg (a.1+b.1,m) r) (m+1) m+1:=by rw[C9,if_pos (.inl rfl)]
     have t:C9 (n+1) (a::b::r) m b.2=C9 n (Eg (a.1+b.1,m) r) (m+1) m+1:=by rw[C9,if_pos (.inr rfl)]
     rw[o] at p
     have q:=v _ _ h.step (by rw[k];simp at i;omega) (λe=>by rw[e] at k;simp at k) (λx g=>by
      rcases AY.1 g with rfl|g
      ·simp only;omega
      ·have w:x.2≠a.2:=(Be.cons.1 h.nums).1 x (by simp[g])
       have y:x.2≠b.2:=(Be.cons.1 (Be.cons.1 h.nums).2).1 x g;have:=j x (by simp[g])
       rw[C9,if_neg (by simp[w,y])] at this
       exact this)
     rw[Uq _ (OD _ _),Dz,IL] at q;rw[Dz,Dz,IL,IL,o,t,zs3 h (λ_ d=>2 ^ (D-d)),<-q];simp only;obtain⟨d,u⟩:=Qe (C9 n (Eg (a.1+b.1,m) r) (m+1) m);rw[u] at p |-;rw[show D-d=(D-(d+1))+1 by omega,Jk]
     omega
theorem zqK(w:List Nat)(i x:Nat)(h:w[i]?=some x):(x,i)∈DF w:=by
 unfold DF;rw[List.mem_zipIdx_iff_getElem?];exact h
theorem Wi{y:NP}(h:y∈DF f):f[y.2]?=some y.1:=by
 unfold DF at h;rw[List.mem_zipIdx_iff_getElem?] at h;exact h
theorem PQ(w:List Nat):(DF w).length=w.length:=by simp[DF]
theorem Zu(w:List Nat):Be (DF w):=by
 unfold Be DF;rw[show(λx:NP=>x.2)=Prod.snd from rfl,List.zipIdx_map_snd]
 exact List.nodup_range'
theorem TL(h:∀x∈f,1<=x):ER (Gu (DF f)) f.length:=by
 refine⟨zqT (Zu f),(Zu f).perm (LC _),λx a=>?_,λx a=>?_⟩
 ·have:=Wi ((LC _).mem_iff.1 a)
  exact(Cc.1 this).1
 ·have:=Wi ((LC _).mem_iff.1 a)
  exact h _ (Cn this)
theorem R7(l:List NP):(Gu l).length=l.length:=(LC l).length_eq
def DB(w:List Nat)(i:Nat):Nat:=C9 w.length (Gu (DF w)) w.length i
theorem O5(w:List Nat)(i:Nat)(h:i<w.length):(Dl w)[i]?=some (DB w i):=by
 unfold Dl DB;rw[EA,Ji h];rfl
theorem JA(w:List Nat):(Dl w).length=w.length:=by simp[Dl]
theorem UE(h:f[n]?=some m):(m,n)∈Gu (DF f):=(LC _).mem_iff.2 (zqK f n m h)
theorem zwF(b:∀k∈f,1<=k)(r:2<=f.length){n m k i:Nat}(h:f[n]?=some k)(g:f[m]?=some i)(v:i<=k\/i<=2):DB f n<=DB f m+1:=by
 have a:=TL b;have e:(Gu (DF f)).length=f.length:=by rw[R7,PQ]
 obtain⟨p,d,o,q⟩:=Xw f.length _ _ a (by rw[e];exact Af _) Q0 _ (UE h)
 have t:=b k (Cn h);have u:=X8 _ _ _ p d;have s:=(Cc.1 g).1;have j:=zvs f.length _ _ a (by rw[e];exact Af _) (i,m) p (.inl (UE g)) (.inr d) (by rw[Kr];simp only at q |-;omega)
 simp only at o j;unfold DB;omega
theorem VM(m:∀x∈f,1<=x)(g:f≠[])(D:Nat)(j:∀i,i<f.length->DB f i<=D):((Dl f).map λd=>2 ^ (D-d)).sum=2 ^ D:=by
 have k:=TL m;have a:(Gu (DF f)).length=f.length:=by rw[R7,PQ]
 have b:=zss D f.length _ _ k (by rw[a];exact Af _) (λe=>by rw[e] at a;exact g (Ey a.symm)) (λx n=>by
  have:=Wi ((LC _).mem_iff.1 n);exact j x.2 (Cc.1 this).1)
 rw[Uq _ (LC _)] at b
 have h:(DF f).map (λx=>2 ^ (D-C9 f.length (Gu (DF f)) f.length x.2))=(Dl f).map λd=>2 ^ (D-d):=by
  unfold Dl;rw[Gq];have:(DF f).map (λx=>2 ^ (D-C9 f.length (Gu (DF f)) f.length x.2))=((DF f).map (λx:NP=>x.2)).map λi=>2 ^ (D-C9 f.length (Gu (DF f)) f.length i):=by rw[Gq];rfl
  rw[this];congr 1
  unfold DF;rw[show(λx:NP=>x.2)=Prod.snd from rfl,List.zipIdx_map_snd,List.range_eq_range']
 rw[<-h];exact b
theorem zzj(l:List Nat)(d:Nat)(h:∀x∈l,x=d+1\/x=d):(l.map λx=>2 ^ (d+1-x)).sum+l.count (d+1)=2*l.length:=by
 induction l with
 |nil=>rfl
 | cons x l b =>
   have e:=b λy a=>h y (by simp[a])
   rw[Dz,IL,Od,Bt];rcases h x Q6 with rfl|rfl
   ·simp;omega
   ·rw[show x+1-x=1 by omega]
    simp;omega
theorem zwV(l:List Nat):(l.map λ_=>1).sum=l.length:=by
 induction l with
 |nil=>rfl
 |cons x l a=>rw[Dz,IL,a,Bt];omega
theorem zpS(v:∀x∈f,1<=x)(o:2<=f.length)(u:∀i k,i<f.length->k<f.length->DB f i<=DB f k+1) :
 ∃d,(∀i,i<f.length->DB f i=d+1\/DB f i=d)/\2 ^ d<f.length/\f.length<=2 ^ (d+1)/\(f.length=2 ^ (d+1)->∀i,i<f.length->DB f i=d+1):=by
 obtain⟨b,w,s⟩:∃b,b<f.length/\∀i,i<f.length->DB f i<=DB f b:=by
  have:∀n,0<n->n<=f.length->∃b,b<n/\∀i,i<n->DB f i<=DB f b:=by
   intro n
   induction n with
   |zero=>intro h;omega
   | succ n D =>
     intro _ u;rcases IP n with rfl|m
     ·refine⟨0,Q0,λi a=>?_⟩
      obtain rfl:i=0:=Q0
      exact Af _
     ·obtain⟨j,H,t⟩:=D m Q0
      by_cases A:DB f j<=DB f n
      ·refine⟨n,Q0,λi a=>?_⟩
       by_cases e:i=n
       ·subst e;exact Af _
       ·exact BU (t i Q0) A
      ·refine⟨j,Q0,λi a=>?_⟩
       by_cases e:i=n
       ·subst e;omega
       ·exact t i Q0
  exact this f.length Q0 (Af _)
 have K:0<DB f b:=by
  rcases IP (DB f b) with m|m
  ·exfalso
   have q:=VM v (λe=>by rw[e] at o;simp at o) 0 (λi a=>by have:=s i a;omega)
   have:((Dl f).map λd=>2 ^ (0-d)).sum=(Dl f).length:=by
    have e:((Dl f).map λd=>2 ^ (0-d))=(Dl f).map λ_=>1:=Gl λx _=>by rw[Nat.zero_sub,Nat.pow_zero]
    rw[e,zwV]
   rw[this,JA] at q;omega
  ·exact m
 obtain⟨d,B⟩:∃d,DB f b=d+1:=⟨DB f b-1,Q0⟩
 have y:∀i,i<f.length->DB f i=d+1\/DB f i=d:=λi a=>by
  have g:=s i a;have G:=u b i w a;omega
 have q:=VM v (λe=>by rw[e] at o;simp at o) (d+1) (λi a=>by have:=s i a;omega)
 have F:∀x∈Dl f,x=d+1\/x=d:=λx C=>by
  obtain⟨i,a,p⟩:=QV C;rw[JA] at a;have g:=O5 f i a;rw[Az (by rw[JA];exact a),p] at g
  injection g with g
  rw[g];exact y i a
 have r:=zzj (Dl f) d F;rw[q,JA] at r;have I:0<(Dl f).count (d+1):=List.count_pos_iff.2 (Cn (by rw[<-B];exact O5 f b w))
 have J:(Dl f).count (d+1)<=f.length:=by rw[<-JA];exact Mq
 rw[Jk] at r;refine⟨d,y,Q0,by rw[Jk];omega,λp i a=>?_⟩
 have E:(Dl f).count (d+1)=(Dl f).length:=by rw[JA,p,Jk];rw[p,Jk] at r;omega
 have z:=List.count_eq_length.1 E _ (Cn (O5 f i a));exact z.symm
def JK(p:Int->Bool)(l:List Int):Int:=if l.any p then((l.takeWhile λx=>!p x).length:Nat) else -1
theorem zvP(p:Int->Bool)(l:List Int):decide (0<=JK p l)=l.any p:=by
 unfold JK;split
 ·rename_i h;rw[h];simp
 ·rename_i h
  have:l.any p=false:=by simpa using h
  rw[this];rfl
theorem zks{g:Int}(a:l[n]?=some g)(b:p g=true)(d:∀(j:Nat) y,j<n->l[j]?=some y->p y=false):JK p l=(n:Int):=by
 have k:l.any p=true:=J8.2 ⟨g,Cn a,b⟩;unfold JK;rw[if_pos k];congr 1
 induction l generalizing n with
 |nil=>simp at a
 | cons y l i =>
   cases n with
   | zero =>
     have:y=g:=by simpa using a
     subst this;simp[b]
   | succ n =>
     have f:=d 0 y Q0 rfl
     have e:l[n]?=some g:=by simpa using a
     rw[List.takeWhile_cons,f];simp only[Bool.not_false,L5,Bt];rw[i e (λj z m h=>d (j+1) z Q0 (by simpa using h)) (J8.2 ⟨g,Cn e,b⟩)]
theorem znr(b:∀(j:Nat) y,l[j]?=some y->p y=false):JK p l = -1:=by
 have e:l.any p=false:=by
  rw[GR];intro x d;obtain⟨j,a⟩:=SC d;simp[b j x a]
 unfold JK;rw[e];rfl
theorem YG(w:World)(v:Value)(b:List Int)(p:Int->Bool)(k:Nat)(D:Array Value)(I:Enters Tryz.prog k)(f:Ac w w.heap.size v b)(O:b.length<=281474976710656)
 (u:∀x∈b,∀W,Qb w W->Qk k (#[Qi x]++D) W λe W'=>e=.returned (.bool (p x))/\W=W') :
 Qk 142 #[v,.func (.func k) #[] D] w λe K=>e=.returned (Qi (JK p b))/\Qb w K:=by
 obtain⟨A,P,rfl,L,T⟩:=f.shape;obtain⟨N,r⟩:=Qe b.length;rw[r] at f L |-;have G:=Aa f;have F:=Aa u;have q:=Aa r;have U:N<=281474976710656:=Q0
 clear f u r O;have M:=I;unfold Enters at M
 go_enter Tryz.func142,Tryz.ntmps142
 go_wp2
 go_loopw [8] (λi wr=>∃j:Nat,j<=N/\i=Qi j/\Hid (∀i y,i<j->b[i]?=some y->p y=false)/\Qb w wr) (λi _=>N+1-(intOf i).toNat)
 case atStart=>exact⟨0,BI _,rfl,λi y h=>by omega,Ag _ _⟩
 case round =>
  obtain⟨j,R,rfl,t,d⟩:=hrel
  by_cases E:j<N
  ·obtain⟨g,o,rfl,H,m⟩:=G.out.at j (by rw[q.out];exact E)
   obtain⟨x,n⟩:∃x,b[j]?=some x:=⟨_,Az (by rw[q.out];exact E)⟩
   rw[n] at m;simp only[Es] at m;have V:Qc wr g (o+j) (Qi x):=(d.cell (p:=⟨g,o+j,none⟩) H).trans m;have C:=Aa (F.out x (Cn n) wr d);have B:=Aa n;obtain⟨J,s⟩:=Qe (p x);rw[s] at C;have z:=Aa s;clear m n s
   go_wp2_with fail
   refine C.out.mono ?_;rintro e S ⟨rfl,rfl⟩;cases J with
   | true =>
     go_wp2_with fail
     go_ret
     exact⟨JD (zks B.out z.out t).symm,d⟩
   | false =>
     go_wp2_with fail
     go_roundw
     case rel=>exact⟨j+1,Q0,by go_num,λi y Q a=>(by
      by_cases e:i=j
      ·subst e;rw[B.out] at a;injection a with a;subst a;exact z.out
      ·exact t i y Q0 a),d⟩
     case measure=>simp[intOf];omega
  ·obtain rfl:j=N:=Q0
   go_wp2
   go_ret
   refine⟨JD (znr λi y a=>t i y ?_ a).symm,d⟩;rw[<-q.out];exact(Cc.1 a).1
theorem O1(w:World)(v:Value)(a:List Int)(p:Int->Bool)(k:Nat)(b:Array Value)(j:Enters Tryz.prog k)(g:Ac w w.heap.size v a)(n:a.length<=281474976710656)
 (d:∀x∈a,∀W,Qb w W->Qk k (#[Qi x]++b) W λe W'=>e=.returned (.bool (p x))/\W=W') :
 Qk 82 #[v,.func (.func k) #[] b] w λe m=>e=.returned (.bool (a.any p))/\Qb w m:=by
 have C:=Aa (YG w v a p k b j g n d);have f:=zvP p a;generalize JK p a=z at*
 have h:=Aa f;clear d g f
 go_enter Tryz.func82,Tryz.ntmps82
 go_wp2_with fail
 refine C.out.mono ?_;rintro e o ⟨rfl,i⟩
 go_wp2_with fail
 go_ret
 exact⟨RT h.out,i⟩
end Go.Proofs.YtoejfkeofbdalaaGreatDoor
namespace Go.Proofs.YtoejfkeofbdalaaGreatDoor
variable {l:List UInt8}
def Cr:List UInt8->Nat
 | []=>0
 |c::l=>min 255 (1+(l.takeWhile (· ==c)).length)
theorem OG(c:UInt8)(l:List UInt8):Cr (c::l)=min 255 (1+(l.takeWhile (· ==c)).length):=rfl
theorem MF(h:l≠[]):1<=Cr l:=by
 cases l with
 |nil=>exact absurd rfl h
 |cons c l=>rw[OG];omega
theorem zmz(p:UInt8->Bool)(l:List UInt8):(l.takeWhile p).length<=l.length:=(List.takeWhile_prefix p).length_le
theorem Qx(l:List UInt8):Cr l<=l.length:=by
 cases l with
 |nil=>exact Af _
 | cons c l =>
   have:=zmz (· ==c) l;rw[OG,Bt];omega
theorem WZ(l:List UInt8):Cr l<=255:=by
 cases l with
 |nil=>exact BI _
 |cons c l=>rw[OG];omega
def Ef(l:List UInt8):List (List UInt8) :=
 match h:l with
 | []=>[]
 |c::t=>(c::t).take (Cr (c::t))::Ef ((c::t).drop (Cr (c::t)))
termination_by l.length
decreasing_by
 have:=MF (l:=c::t) Q6
 simp only[D9,Bt];omega
theorem PW:Ef []=[]:=by rw[Ef]
theorem PO(h:l≠[]):Ef l=l.take (Cr l)::Ef (l.drop (Cr l)):=by
 cases l with
 |nil=>exact absurd rfl h
 |cons c t=>rw[Ef]
def Gt(p:List UInt8):List UInt8:=p.take 4++if 4<=p.length then[UInt8.ofNat (p.length-4)] else[]
def D6(l:List UInt8):List UInt8:=(Ef l).flatMap Gt
def Ea(n:Nat):Nat:=if n<4 then n else 5
def Gs(l:List UInt8):Nat:=((Ef l).map λp=>Ea p.length).sum
theorem YS(p:List UInt8):(Gt p).length=Ea p.length:=by
 unfold Gt Ea;rw[AJ,BO];split<;>rename_i h
 ·rw[if_neg Q0,Og];omega
 ·rw[if_pos Q0,D4];omega
theorem TK(l:List UInt8):(D6 l).length=Gs l:=by
 unfold D6 Gs;rw[List.length_flatMap];congr 1
 exact Gl λp _=>YS p
def D8:List UInt8->Nat->UInt8->List UInt8 × Nat
 | [],run,_=>([],run)
 | b::t,run,last =>
   if run=4 then(List.replicate b.toNat last++(D8 t 0 last).1,(D8 t 0 last).2)
   else if 0<run/\b=last then(last::(D8 t (run+1) last).1,(D8 t (run+1) last).2)
   else(b::(D8 t 1 b).1,(D8 t 1 b).2)
theorem zu8(p:UInt8->Bool)(l:List UInt8):∀x r,l.dropWhile p=x::r->p x=false:=by
 induction l with
 |nil=>intro x r h;simp at h
 | cons a l e =>
   intro x r h;rw[List.dropWhile_cons] at h;split at h
   ·exact e x r h
   ·rename_i d
    injection h with b f
    subst b;simpa using d
theorem WY(l:List UInt8):∃c,l.take (Cr l)=List.replicate (Cr l) c/\(Cr l<255->∀d,(l.drop (Cr l))[0]?=some d->d≠c):=by
 cases l with
 |nil=>exact⟨0,rfl,λ_ d h=>by simp at h⟩
 | cons c t =>
   refine⟨c,?_,?_⟩
   ·apply KF
    intro i
    by_cases b:i<Cr (c::t)
    ·rw[Mj b,Ll,if_pos b]
     cases i with
     |zero=>rfl
     | succ i =>
       rw[OG] at b;have f:i<(t.takeWhile (· ==c)).length:=Q0
       have o:=Et f;have k:=List.all_eq_true.1 List.all_takeWhile _ o;rw[Me];obtain⟨r,j⟩:=List.takeWhile_prefix (p:=(· ==c)) (l:=t);rw[<-j,FP f,Az f];rw[FQ] at k;rw[k]
    ·rw[EU (by rw[BO];omega),Ll,if_neg b]
   ·intro v d a
    rw[Kh,Ic] at a;have j:Cr (c::t)=1+(t.takeWhile (· ==c)).length:=by rw[OG] at v |-;omega
    rw[j,Mv,Me] at a;intro e;subst e;have g:t=t.takeWhile (· ==d)++t.dropWhile (· ==d):=(List.takeWhile_append_dropWhile).symm;have m:=zu8 (· ==d) t;obtain⟨w,u⟩:=Qe (t.takeWhile (· ==d));obtain⟨n,s⟩:=Qe (t.dropWhile (· ==d));rw[u] at a g;rw[s] at g m;rw[g,F7 (Af _),Ow] at a;cases n with
    |nil=>simp at a
    | cons x r =>
      have q:x=d:=by simpa using a
      have:=m x r rfl;simp[q] at this
theorem WT(c:UInt8):∀k a (rest:List UInt8),0<a->a+k<=4->D8 (List.replicate k c++rest) a c=(List.replicate k c++(D8 rest (a+k) c).1,(D8 rest (a+k) c).2)
 |0,a,rest,_,_=>rfl
 | k+1,a,rest,h0,h=>by
   rw[Oi,Di,D8,if_neg Q0,if_pos ⟨h0,rfl⟩,WT c k (a+1) rest Q0 Q0]
   rw[show a+1+k=a+(k+1) by omega]
   rfl
theorem ztA(c d:UInt8)(n b:Nat)(rest:List UInt8)(i:1<=n)(j:n<=255)(a:b=0\/b<4/\d≠c) :
 D8 (Gt (List.replicate n c)++rest) b d=(List.replicate n c++(D8 rest (if n<4 then n else 0) c).1,(D8 rest (if n<4 then n else 0) c).2):=by
 have f:∀r:List UInt8,D8 (c::r) b d=(c::(D8 r 1 c).1,(D8 r 1 c).2):=λr=>by
  rw[D8,if_neg Q0,if_neg (by rintro⟨h,e⟩;rcases a with a|⟨_,a⟩;omega;exact a e.symm)]
 unfold Gt;rw[List.take_replicate,Jg]
 by_cases h:n<4
 ·rw[if_neg Q0,if_pos h,Eu,PE Q0]
  obtain⟨k,rfl⟩:∃k,n=k+1:=⟨n-1,Q0⟩
  rw[Oi,Di,f,WT c k 1 rest Q0 Q0,Mv 1 k]
  rfl
 ·rw[if_pos Q0,if_neg h,Fs Q0]
  rw[show List.replicate 4 c=c::List.replicate 3 c from rfl,BN,Di,f,WT c 3 1 _ Q0 Q0]
  rw[show([UInt8.ofNat (n-4)]++rest)=UInt8.ofNat (n-4)::rest from rfl,D8,if_pos rfl]
  have g:(UInt8.ofNat (n-4)).toNat=n-4:=by rw[Ms];omega
  rw[g]
  have e:List.replicate n c=c::(List.replicate 3 c++List.replicate (n-4) c):=by
   rw[List.replicate_append_replicate,<-Oi];congr 1
   omega
  rw[e];simp
theorem Xm:∀(m:Nat)(l:List UInt8)(a:Nat)(f:UInt8),l.length<=m->(a=0\/a<4/\∀d,l[0]?=some d->f≠d)->(D8 (D6 l) a f).1=l/\(D8 (D6 l) a f).2≠4
 | 0,l,a,f,hm,b=>by
   have:l=[]:=Ey Q0
   subst this;unfold D6;rw[PW];exact⟨rfl,by show a≠4;omega⟩
 | m+1,l,a,f,hm,b=>by
   by_cases i:l=[]
   ·subst i
    unfold D6;rw[PW];exact⟨rfl,by show a≠4;omega⟩
   ·have n:=MF i
    have o:=WZ l;have t:=Qx l;obtain⟨c,g,p⟩:=WY l
    have s:D6 l=Gt (List.replicate (Cr l) c)++D6 (l.drop (Cr l)):=by
     unfold D6;rw[PO i,IQ,g]
    have k:l[0]?=some c:=by
     have e:(l.take (Cr l))[0]?=some c:=by rw[g,Ll,if_pos Q0]
     rwa [Mj Q0] at e
    rw[s,ztA c f (Cr l) a _ n o (by
     rcases b with b|⟨b,r⟩
     ·exact .inl b
     ·exact .inr ⟨b,r c k⟩)]
    have j:=Xm m (l.drop (Cr l)) (if Cr l<4 then Cr l else 0) c (by rw[D9];omega) (by
     by_cases h:Cr l<4
     ·rw[if_pos h]
      exact .inr ⟨h,λd q=>(p Q0 d q).symm⟩
     ·rw[if_neg h];exact .inl rfl)
    refine⟨?_,j.2⟩
    show _++_=_
    rw[j.1,<-g,Er]
def zvv(l:List UInt8)(a:Int):List UInt8 × Int :=
 if(D8 l 0 0).2=4 then([],3) else if a<((D8 l 0 0).1.length:Int) then([],4) else((D8 l 0 0).1,0)
theorem Zv(l:List UInt8)(a:Int)(h:(l.length:Int)<=a):zvv (D6 l) a=(l,0):=by
 obtain⟨b,d⟩:=Xm l.length l 0 0 (Af _) (.inl rfl);unfold zvv;rw[if_neg d,b,if_neg Q0]
theorem zzT(l:List UInt8)(k:Nat)(d:k<Cr l):l[k]?=l[0]?:=by
 obtain⟨c,b,_⟩:=WY l
 have h:∀i,i<Cr l->l[i]?=some c:=λi a=>by
  have e:(l.take (Cr l))[i]?=some c:=by rw[b,Ll,if_pos a]
  rwa [Mj a] at e
 rw[h k d,h 0 Q0]
theorem zzR(l:List UInt8)(h:Cr l<l.length)(b:Cr l<255):l[Cr l]?≠l[0]?:=by
 obtain⟨c,f,g⟩:=WY l;cases l with
 |nil=>simp at h
 | cons a t =>
   have i:=MF (l:=a::t) Q6
   have e:((a::t).take (Cr (a::t)))[0]?=some c:=by rw[f,Ll,if_pos Q0]
   rw[Mj Q0] at e
   rw[e];intro d;refine g b c ?_ rfl;rw[Kh,Ic];exact d
end Go.Proofs.YtoejfkeofbdalaaGreatDoor
namespace Go.Proofs.YtoejfkeofbdalaaGreatDoor
open Go.RowKit Go.Shelf
variable {d:Func} {e f g:TypeId} {p q r:Tmp}
theorem zqR(h:d.results=#[.cell p e,.tmp q])(b:Array Value)(P:Program)(w:World)(a:Addr)(v:Value)(g:b.getD p undef=.pointer (some a))(f:(loadVar e a).run P w=.ok v w) :
 (results d b).run P w=.ok (.tuple #[v,b.getD q undef]) w:=by
 have i:b[p]?.getD undef=.pointer (some a):=by simpa using g
 simp[results,h,i,asAddr,f]
theorem M7(h:d.results=#[.tmp q,.cell p e])(b:Array Value)(P:Program)(w:World)(a:Addr)(v:Value)(g:b.getD p undef=.pointer (some a))(f:(loadVar e a).run P w=.ok v w) :
 (results d b).run P w=.ok (.tuple #[b.getD q undef,v]) w:=by
 have i:b[p]?.getD undef=.pointer (some a):=by simpa using g
 simp[results,h,i,asAddr,f]
theorem TD(h:d.results=#[.tmp q,.cell p e,.tmp r])(b:Array Value)(P:Program)(w:World)(a:Addr)(v:Value)(g:b.getD p undef=.pointer (some a))(f:(loadVar e a).run P w=.ok v w) :
 (results d b).run P w=.ok (.tuple #[b.getD q undef,v,b.getD r undef]) w:=by
 have i:b[p]?.getD undef=.pointer (some a):=by simpa using g
 simp[results,h,i,asAddr,f]
theorem zpF{e:Func}(h:e.results=#[.cell p f,.cell q g,.tmp r])(d:Array Value)(P:Program)(w:World)(a b:Addr)(v u:Value)(k:d.getD p undef=.pointer (some a))(m:d.getD q undef=.pointer (some b))(i:(loadVar f a).run P w=.ok v w)(j:(loadVar g b).run P w=.ok u w) :
 (results e d).run P w=.ok (.tuple #[v,u,d.getD r undef]) w:=by
 have n:d[p]?.getD undef=.pointer (some a):=by simpa using k
 have o:d[q]?.getD undef=.pointer (some b):=by simpa using m
 simp[results,h,n,o,asAddr,i,j]
theorem VO{e:Func}{s:Tmp}(h:e.results=#[.tmp s,.cell p f,.cell q g,.tmp r])(d:Array Value)(P:Program)(w:World)(a b:Addr)(v u:Value)(k:d.getD p undef=.pointer (some a))(m:d.getD q undef=.pointer (some b))(i:(loadVar f a).run P w=.ok v w)(j:(loadVar g b).run P w=.ok u w) :
 (results e d).run P w=.ok (.tuple #[d.getD s undef,v,u,d.getD r undef]) w:=by
 have n:d[p]?.getD undef=.pointer (some a):=by simpa using k
 have o:d[q]?.getD undef=.pointer (some b):=by simpa using m
 simp[results,h,n,o,asAddr,i,j]
theorem PR(k:Nat)(w:World)(a b c:Value)(h:Qg w k #[a,b,c] 36):(loadVar 36 ⟨k,0,none⟩).run Tryz.prog w=.ok (.agg #[a,b,c]) w:=by
 have d:=A8 h;have e:=AA h;have f:=Bk h
 go_simp
theorem JO(k:Nat)(w:World)(a b:Value)(h:Qg w k #[a,b] 44):(loadVar 44 ⟨k,0,none⟩).run Tryz.prog w=.ok (.agg #[a,b]) w:=by
 have d:=A8 h;have e:=AA h
 go_simp
theorem O9(k:Nat)(w:World)(a b c d e f g:Value)(h:Qg w k #[a,b,c,d,e,f,g] 39):(loadVar 39 ⟨k,0,none⟩).run Tryz.prog w=.ok (.agg #[a,b,c,d,e,f,g]) w:=by
 have i:=A8 h;have j:=AA h;have m:=Bk h;have n:=CY h;have o:=De h;have p:=Df h;have q:=ES h
 go_simp
