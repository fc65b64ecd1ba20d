import Derived.Test.YtoejfkeofbdalaaGreatDoorM10
set_option linter.all false
set_option maxRecDepth 100000
set_option maxHeartbeats 8000000
namespace Go.Proofs.YtoejfkeofbdalaaGreatDoor
open Go.RowKit Go.Shelf
attribute [local go_sem] Oper.semAt_some
variable {f:List Nat} {i n:Nat} {l:List Int} {w:World} {x:Value}
abbrev KC:=Nat × Nat × Value
def Po(x:KC):Array Value:=#[.agg #[Qi (x.1:Nat),.int .u64 (x.2.1:Nat),x.2.2]]
def MO(l:List Nat)(a:Nat)(x:KC)(W:World):Prop:=x.1∈EI l 20/\x.2.1=2*Cg l (x.1-1)/\Ac W W.heap.size x.2.2 (ints (En l x.1))/\∀g o n c,x.2.2=Qs g o n c->a<=g
theorem zAn(h:Ad w n x l):∀g o b c,x=Qs g o b c->n<=g:=by
 rintro g o b c rfl;rcases h.2 with⟨a,_⟩|⟨k,e,f,a,d,_⟩
 ·cases a
 ·injection a with a
  injection a with a
  injection a with a
  omega
def Cj(l:List Nat)(a:List KC)(k:Nat):Prop:=a.map (·.1)=EI l k
theorem Cj.zero(l:List Nat):Cj l [] 0:=rfl
theorem Cj.no{a:List KC}(h:Cj f a n)(b:f.count (n+1)=0):Cj f a (n+1):=by
 unfold Cj at*
 rw[h,R5,if_neg Q0,Eu]
theorem Cj.yes{a:List KC}(h:Cj f a n)(b:0<f.count (n+1))(q:Nat × Value):Cj f (a++[(n+1,q)]) (n+1):=by
 unfold Cj at*
 rw[D3,h,R5,if_pos b];rfl
theorem Cj.len{c:List KC}(h:Cj f c n)(e:0<f.count (n+1))(g:n<20):c.length<(EI f 20).length:=by
 have a:=VH f (show n+1<=20 from g)
 rw[R5,if_pos e] at a;have b:=a.length_le;unfold Cj at h;have d:=Co List.length h;rw[Da] at d;rw[AJ] at b;simp at b;omega
theorem Cj.pre{a:List KC}(h:Cj f a n)(b:n<=20):a.map (·.1)<+: EI f 20:=by
 unfold Cj at h;rw[h];exact VH f b
theorem ZW(w:World)(A:Option Addr)(n c:Nat) :
 Qk 173 #[.slice A n c] w λe a=>e=.returned (.func (.func 229) #[] #[.pointer (some ⟨w.heap.size,0,none⟩)])/\w.alloc (.cells #[.slice A n c] 67)=a:=by
 have Cw:=Cw
 go_enter Tryz.func173,Tryz.ntmps173
 go_wp2
 go_ret
 exact⟨rfl,rfl⟩
theorem zrX{l:List Nat}(h:¬ l[i]?.getD 0=n)(a:i<l.length):IR l n (i+1)=IR l n i:=by
 rw[VI,if_neg (λe=>h (by rw[e];rfl)),Eu]
theorem zrA{l:List Nat}(h:l[i]?.getD 0=n)(a:i<l.length):IR l n (i+1)=IR l n i++[i]:=by
 rw[VI,if_pos (by rw[Az a] at h |-;simpa using h)]
theorem zgZ(l:List Nat)(n i:Nat):(IR l n i).length<=i:=by
 unfold IR;have:=List.length_filter_le (λs=>l[s]? ==some n) (List.range i);simpa using this
theorem zy6{m k:Nat}{y:Value}(h:Ad w n x l)(j:m<n:=by omega):Ad (w.setCell ⟨m,k,none⟩ y) n x l:=by
 refine⟨h.1,?_⟩;rcases h.2 with f|⟨a,g,i,b,c,d,e⟩
 ·exact .inl f
 ·exact .inr ⟨a,g,i,b,c,(Bg w ⟨m,k,none⟩ y a (by show a≠m;omega)).trans d,e⟩
theorem zx6(l:List Nat)(i:Nat):ints (l++[i])=ints l++[(i:Int)]:=by simp[ints]
theorem zfB{i:Array Oper}{rest:List Oper}{e:Oper}{o:Act}{Q:Exit->Act->World->Prop}(D:e.guard=none)(s x:Operand)
 (r:e.op=.call { callee:=.builtin .append,args:=#[s,x],argTypes:=#[67,67] })
 (d:Nat) (v:Value) (a:List Int) (z:o.eval s=v) (H:Ad w d v a) (k:Nat) (y:Int) (A:o.eval x=Qs k 0 1 1) (t:Qg w k #[Qi y] 3)
 (J:a.length<=1099511627776) (I:d<=w.heap.size)
 (h:∀q c b,Ad b d (.slice q (a.length+1) c) (a++[y])->w.grownBy b v.ownBlock->wpListIn Fence.wide n Tryz.prog i Q rest (o.put e.dst (.slice q (a.length+1) c)) b) :
 wpListIn Fence.wide n Tryz.prog i Q (e::rest) o w:=by
 obtain⟨B,p,E,F,G⟩:=Ie OH;refine wpListIn_append_own _ D s x 67 r d 3 B (Qi 0) 1 8 Oj p E F G rfl Q5 v a.length (C4 a) z H ⟨k,0,none⟩ 1 1 [Qi y] A rfl (λj u f=>?_) (by simp[Value.oneCell']) (by unfold maxLen;omega) Q0 I ?_
 ·match j,f with
  | 0,f =>
    simp at f;subst f;rw[RQ,DC,Ae t];rfl
 ·intro C b l m _
  have g:Ad b d C (a++[y]):=by
   unfold Ad;rw[AJ,V8];exact l
  obtain⟨q,c,rfl⟩:=g.shape;rw[AJ] at*
  exact h q c b g m
theorem zvD(n:Nat)(hn:3<=n)(b1 b b0 lo:Nat)(l:List Nat)(hl:Code l)(S:Nat->Prop)(J K:List KC->World->Prop)(v:Value)(W:World)(U:Ac W b0 v (ints l))(a0:Qc W b 0 v)
 (d1:∀k,S k->b0<=k/\k≠b/\k<W.heap.size)
 (u:∀s A C,J s A->Qb A C->J s C) (g4:∀s A C,K s A->Qb A C->K s C)
 (b6:∀a x E,J a E->a.length<(EI l 20).length->MO l lo x E->YieldAt Fence.wide (n-1) Tryz.prog b1 (Po x) E λe r=>(e=.returned (.bool true)/\J (a++[x]) r/\Ao S E r/\E.heap.size<=r.heap.size)\/(e=.returned (.bool false)/\K (a++[x]) r))
 (g6:lo<=W.heap.size) (h0:J [] W) :
 CallsIn Fence.wide n Tryz.prog 229 #[.func (.yield b1) #[] #[],.pointer (some ⟨b,0,none⟩)] W λe r=>(∃v,e=.returned v)/\((∃xs,xs.map (·.1)=EI l 20/\J xs r)\/(∃a,a.map (·.1)<+: EI l 20/\K a r)):=by
 obtain⟨A,ca,rfl,e5,g5⟩:=U.shape;have c5:=Bj l;obtain⟨N,O⟩:=Qe l.length;rw[c5,O] at U a0 e5;have f9:N<=258:=by rw[<-O];exact hl.most
 have y:=Aa O;have d9:=Aa U;have d8:=Aa a0;have a8:=Aa d1;have b2:=Aa u;have d7:=Aa b6;have b7:=Aa hl;clear U a0 d1 u b6 O c5 hl;refine Mw Tryz.func229 rfl trivial ?_ rfl;simp only[Tryz.ntmps229,F6,Bt,D4,Nat.reduceAdd,Nat.reduceSub,GM,GL,GQ,GN,C6,Di];have g2:1<=n:=Q0
 gi_wp2_with fail
 gi_loopw [3,4] (λpv nv wr=>∃k:Nat,∃a,k<=20/\nv=Qi ((k+1:Nat):Int)/\pv=.int .u64 (Cg l k:Nat)/\Cj l a k/\J a wr/\Ao S W wr/\W.heap.size<=wr.heap.size) (λ_ nv _=>22-(intOf nv).toNat)
 case atStart=>exact⟨0,[],BI _,rfl,rfl,Cj.zero l,h0,Ao.refl _ _,Af _⟩
 case round =>
  obtain⟨k,a,P,rfl,rfl,T,u,M,f0⟩:=hrel;clear h0
  by_cases a5:k<20
  ·have a1:=M.cell (b:=b) (λh=>(a8.out b h).2.1 rfl) d8.out
   have e8:Hid (Cg l (k+1)=2*Cg l k+l.count (k+1)):=rfl
   have e9:Cg l k<=1048576:=by
    have F:=U8 l b7.out.fits b7.out.room k P;exact BU F (BU (Jj Q0 P) Q5)
   obtain⟨m,hm⟩:=Qe (k+1);have f6:m<=20:=Q0
   have e6:1<=m:=Q0
   have h6:decide ((m:Int)<=20)=true:=by rw[Fj];omega
   have c7:m-1=k:=Q0
   rw[hm];obtain⟨p,hp⟩:=Qe (Cg l k);rw[hp] at e9 e8 |-;obtain⟨q,hq⟩:=Qe (2*p);have g8:IntKind.u64.wrap ((p:Int)*2)=(q:Int):=by rw[Nb];omega
   have g7:q<=2097152:=Q0
   have b4:=Aa hq;have b3:=Aa hp;have c:=Aa hm;have e2:=Aa c7
   have d2:∀o:Obj,Qc (wr.alloc o) b 0 (.slice A N ca):=λo=>by
    obtain⟨cs,ty,fz,F⟩:=Qm a1;exact(KG (w:=wr) (GV wr o b (Aj F))).trans a1
   clear hp hq hm c7 a5 a1
   gi_wp2_with fail
   have c6:Qg (wr.alloc (.cells #[Qi (m:Int),.int .u64 (q:Int),.slice none 0 0] 288)) wr.heap.size #[Qi (m:Int),.int .u64 (q:Int),.slice none 0 0] 288:=Am _ _ _ rfl;have b8:=Aa c6;have c0:=Aa ((Ag wr.heap.size wr).alloc (Af _) (.cells #[Qi (m:Int),.int .u64 (q:Int),.slice none 0 0] 288));clear c6;obtain⟨f,rfl⟩:∃f:World,f=wr:=⟨_,rfl⟩
   gi_loopw [19] (λiv wr=>∃i:Nat,∃z,i<=N/\iv=Qi i/\Qg wr f.heap.size #[Qi (m:Int),.int .u64 (q:Int),z] 288/\Ad wr (f.heap.size+1) z (ints (IR l m i))/\Qb f wr) (λiv _=>N+1-(intOf iv).toNat)
   case atStart=>exact⟨0,_,BI _,rfl,b8.out,Ad.nil _ _,c0.out⟩
   case round =>
    obtain⟨i,z,hi,rfl,hh,j,Z⟩:=hrel;have d:=Aa hh;have B:=Aa j;have t:=Aa Z;have f4:=Z.size;have f1:=zgZ l m i;clear hh j Z b8 c0
    by_cases I:i<N
    ·obtain⟨g,o,rfl,hg,hx⟩:=d9.out.at i (by rw[Bj,y.out];exact I)
     have d0:(ints l)[i]?.getD 0=((l[i]?.getD 0:Nat):Int):=by simp[ints,Az (show i<l.length by rw[y.out];exact I)]
     rw[d0] at hx;have a6:=M.cell (b:=g) (λh=>by have:=(a8.out g h).1;omega) hx
     have f3:Qc wr g (o+i) (Qi ((l[i]?.getD 0:Nat):Int)):=by
      obtain⟨cs,ty,fz,F⟩:=Qm a6;exact(t.out.cell (p:=⟨g,o+i,none⟩) (Aj F)).trans a6
     obtain⟨x,a7⟩:=Qe (l[i]?.getD 0);rw[a7] at f3;have b9:=Aa a7;have k2:=(Ae d.out 2).trans rfl;have f2:=Ah d.out 2;have a5:=Aj d.out;clear hx d0 a6 a7 d2
     by_cases V:x=m
     ·have e4:((x:Int)==(m:Int))=true:=by rw[FQ];omega
      have Y:=Aa (zrA (l:=l) (n:=m) (i:=i) (by rw[b9.out];exact V) (by rw[y.out];exact I))
      clear V
      gi_wp2_with
       (gi_at_builtin
        refine zfB rfl _ _ rfl (f.heap.size+1) _ (ints (IR l m i)) rfl (B.out.alloc _) wr.heap.size i rfl (Am _ _ _ rfl) (by rw[Bj];omega) Q4 ?_
        intro g1 g0 w1 d5 a2;have f8:=Aa d5;have a4:Qg (wr.alloc (.cells #[Qi (i:Int)] 3)) f.heap.size #[Qi (m:Int),.int .u64 (q:Int),z] 288:=Bb _ d.out;have H:Qg w1 f.heap.size #[Qi (m:Int),.int .u64 (q:Int),z] 288:=(a2.block _ (Aj a4) (λe=>by have:=Dm B.out e.symm;omega)).trans a4
        have c1:Qb f w1:=(t.out.alloc Q0 _).grown a2 Q4 (λk P=>by have:=Dm B.out P;omega)
        have e1:=Aa c1;have e0:=Aa H;have f2:=Ah H 2;have k3:=(Ae H 2).trans rfl;have h2:=Aj H;clear a2 d5 a4 H c1)
      go_roundw
      case rel=>exact⟨i+1,_,Q0,by go_num,by simpa using Ak e0.out 2 _,by rw[Y.out,zx6];exact zy6 f8.out,e1.out.setCell (p:=⟨f.heap.size,2,none⟩) (Af _) _⟩
      case measure=>simp[intOf];omega
     ·have e4:((x:Int)==(m:Int))=false:=by rw[Ez];omega
      have Y:=Aa (zrX (l:=l) (n:=m) (i:=i) (by rw[b9.out];exact V) (by rw[y.out];exact I))
      clear V
      gi_wp2_with fail
      go_roundw
      case rel=>exact⟨i+1,z,Q0,by go_num,d.out,by rw[Y.out];exact B.out,t.out⟩
      case measure=>simp[intOf];omega
    ·obtain rfl:i=N:=Q0
     have j:=B.out;have d4:IR l m i=En l m:=by unfold En IR;rw[y.out]
     rw[d4] at j;obtain⟨R,Q,rfl⟩:=j.shape;have c4:=Nq l m;rw[Bj] at d j;rw[c4] at d j;have a9:=Aa j;obtain⟨C,L⟩:=Qe (l.count m);rw[L] at d a9;have D:=Aa L;have h5:C<=258:=by rw[<-L];exact BU Mq (by rw[y.out];exact f9)
     have k0:=(Ae d.out 0).trans rfl;have k1:=(Ae d.out 1).trans rfl;have k2:=(Ae d.out 2).trans rfl;have a5:=Aj d.out
     have c8:Hid (Cg l m=q+C):=by
      show _=_
      rw[<-c.out,Cg,b3.out,c.out,D.out,b4.out]
     clear j B d4 L c4 d2 I f1
     by_cases c2:C=0
     ·subst c2
      have X:=Aa (T.no (by rw[c.out];exact D.out))
      gi_wp2_with fail
      refine⟨(λ_ h=>by cases h),?_⟩
      gi_wp2_with fail
      go_roundw
      case rel=>exact⟨k+1,a,by have:=c.out;omega,by rw[c.out];go_num,by rw[c.out,c8.out];rfl,X.out,b2.out a f wr u t.out,M.below t.out,BU f0 f4⟩
      case measure=>simp[intOf];omega
     ·have g3:(0:Int)<(C:Int):=Q0
      have c3:=b2.out a f wr u t.out;have d3:=T.len (by rw[c.out,D.out];omega) (by have:=c.out;omega)
      have c9:MO l lo (m,q,.slice R C Q) wr:=⟨(Rx l 20 m).2 ⟨e6,f6,by rw[D.out];omega⟩,by rw[e2.out,b3.out];exact b4.out.symm,a9.out.is,λg o n d6 h=>by have:=zAn a9.out g o n d6 h;omega⟩
      obtain⟨fn,h4,h7,h1,hy,b5⟩:=d7.out a (m,q,.slice R C Q) wr c3 d3 c9;simp only[Po] at hy;have X:=Aa (T.yes (by rw[c.out,D.out];omega) (q,.slice R C Q))
      clear c3 d3 c9 c2
      gi_wp2_with fail
      refine b5.mono ?_;rintro e r (⟨rfl,e3,a3,g9⟩|⟨rfl,f5⟩)
      ·have e7:¬ S f.heap.size:=λh=>by have:=(a8.out _ h).2.2;omega
       have G:=a3.cells e7 d.out;have k0:=(Ae G 0).trans rfl;have k1:=(Ae G 1).trans rfl;have k2:=(Ae G 2).trans rfl;have h3:=Aj G;have f7:=Aa ((M.below t.out).trans a3);clear G hy b5 a3 u
       gi_wp2_with fail
       go_roundw
       case rel=>exact⟨k+1,a++[(m,q,.slice R C Q)],by have:=c.out;omega,by rw[c.out];go_num,by rw[c.out,c8.out];rfl,by have:=X.out;rw[c.out] at this |-;exact this,e3,f7.out,Q0⟩
       case measure=>simp[intOf];omega
      ·gi_wp2_with fail
       refine BV (Dw rfl _ _ _) rfl ?_;exact⟨⟨_,rfl⟩,.inr ⟨_,by have:=X.out.pre (by have:=c.out;omega);rw[c.out] at this;exact this,f5⟩⟩
  ·obtain rfl:k=20:=Q0
   gi_wp2_with fail
   exact Fu (Dw rfl _ _ _) rfl ⟨⟨_,rfl⟩,.inl ⟨a,T,u⟩⟩
theorem zkz(n:Nat)(s:3<=n)(b B:Nat)(l:List Nat)(r:Code l)(e:Nat->Prop)(v:Value)(a:World)(t:Ac a B v (ints l))(m:B<=a.heap.size)(g:Qc a b 0 v)
 (f:∀k,e k->B<=k/\k≠b/\k<a.heap.size) :
 XM n 229 #[.pointer (some ⟨b,0,none⟩)] Po (MO l a.heap.size) (Ao e) (λu=>u.map (·.1)=EI l 20) (λz=>z.map (·.1)<+: EI l 20) (EI l 20).length a :=
 λy J h W c o w q i=>by
  have x:b<a.heap.size:=by
   obtain⟨A,D,C,j⟩:=Qm g;exact Aj j
  exact zvD n s y b B a.heap.size l r e J h v W (t.below c m) ((c.cell (p:=⟨b,0,none⟩) x).trans g) (λk d=>⟨(f k d).1,(f k d).2.1,Iy (f k d).2.2 c.size⟩) o w q c.size i
theorem YD:Enters Tryz.prog 229:=enters_of Tryz.func229 Q2 rfl
theorem zn7(l:List Nat)(n:Nat):(En l n).Nodup:=List.nodup_range.sublist List.filter_sublist
theorem zxY(l:List Nat)(n i s:Nat)(h:(En l n)[i]?=some s):Gv l s=2*Cg l (n-1)+i/\l[s]?=some n:=by
 have a:=(zmF l n s).1 (Cn h);have c:=TR l n s a;have b:=(Cc.1 h).1;have:=(Td b (zn7 l n)).1 (h.trans c.symm);refine⟨?_,a⟩;unfold Gv;rw[a,this];rfl
theorem TC{v:World}{b:Option Nat}(h:Ac w w.heap.size x l)(a:w.grownBy v b)(p:∀r,b=some r->∃o:Obj,Qh w r o/\o.isCells=false):Ac v v.heap.size x l:=by
 obtain⟨d,A,t,q,e,f,j⟩:=h;refine⟨d,A,t,q,e,f,λn=>?_⟩;obtain⟨g,o,k,u,m⟩:=j n;exact⟨g,o,k,Iy u a.size,λi c s=>cell_kept (m i c s) a p⟩
theorem WO{c:Type}(g:Nat)(t:TypeId)(f:c->Array Value):Own (λs W=>Qg W g (f s) t):=λs X Y j a h i=>by
 refine(h.block g (Aj a) (λd=>?_)).trans a;obtain⟨o,b,e⟩:=i g d.symm;rw[show X.heap[g]?=_ from a] at b
 cases b
 cases e
end Go.Proofs.YtoejfkeofbdalaaGreatDoor
namespace Go.Proofs.YtoejfkeofbdalaaGreatDoor
open Go.RowKit Go.Shelf
attribute [local go_sem] Oper.semAt_some
def KZ(l:List Nat)(p:Nat->Bool)(j:Nat):Value :=
 if j%2=0 then .int .i64 ((if p (j / 2) then l[j / 2]?.getD 0 else 0:Nat):Int) else .int .u64 ((if p (j / 2) then Gv l (j / 2) else 0:Nat):Int)
def EC(l:List Nat)(p:Nat->Bool):Array Value:=(Array.range (l.length*2)).map (KZ l p)
theorem zno(l:List Nat)(p:Nat->Bool):(EC l p).size=l.length*2:=by simp[EC]
theorem MC(l:List Nat)(p:Nat->Bool)(j:Nat)(h:j<l.length*2):(EC l p)[j]?=some (KZ l p j):=by simp[EC,h]
theorem RH(l:List Nat)(p:Nat->Bool)(j:Nat)(h:¬ j<l.length*2):(EC l p)[j]?=none:=IK (by rw[zno];omega)
theorem ZS{f:List Nat}{p q:Nat->Bool}(h:∀s,s<f.length->p s=q s):EC f p=EC f q:=by
 apply KK
 intro j
 by_cases a:j<f.length*2
 ·rw[MC _ _ _ a,MC _ _ _ a]
  unfold KZ;rw[h (j / 2) Q0]
 ·rw[RH _ _ _ a,RH _ _ _ a]
theorem zuB(l:List Nat):EC l (λ_=>false)=madeCells #[Qi 0,.int .u64 0] (l.length*2):=by
 apply KK
 intro j
 by_cases a:j<l.length*2
 ·rw[MC _ _ _ a]
  unfold KZ;rcases QQ j with h|h
  ·simp[madeCells,a,h]
  ·simp[madeCells,a,h]
 ·rw[RH _ _ _ a,IK (by rw[size_madeCells];omega)]
theorem zwA(l:List Nat)(p:Nat->Bool)(s:Nat)(d:s<l.length) :
 ((EC l p).setIfInBounds (s*2) (Qi ((l[s]?.getD 0:Nat):Int))).setIfInBounds (s*2+1) (.int .u64 (Gv l s:Int))=EC l (λt=>p t ||t ==s):=by
 apply KK
 intro j;rw[MU,MU,MV,zno]
 by_cases a:j<l.length*2
 ·rw[MC _ _ _ a,MC _ _ _ a]
  by_cases b:s*2+1=j
  ·subst b
   rw[if_pos rfl,if_pos a];unfold KZ;rw[if_neg Q0,show(s*2+1)/ 2=s by omega]
   simp
  ·rw[if_neg b]
   by_cases c:s*2=j
   ·subst c
    rw[if_pos rfl,if_pos a];unfold KZ;rw[if_pos Q0,show s*2 / 2=s by omega]
    simp
   ·rw[if_neg c]
    unfold KZ;have:(j / 2 ==s)=false:=by rw[Ez];omega
    simp[this]
 ·rw[RH _ _ _ a,RH _ _ _ a,if_neg Q0,if_neg Q0]
def NT(l:List Nat)(a:List Nat)(s:Nat):Bool:=decide (l[s]?.getD 0∈a)
def Kv(l:List Nat)(a:List Nat)(n i s:Nat):Bool:=NT l a s ||decide (s∈(En l n).take i)
theorem zpk(l a:List Nat)(n:Nat):Kv l a n 0=NT l a:=by funext s;simp[Kv]
theorem zoH(l a:List Nat)(n i t:Nat)(h:(En l n)[i]?=some t):Kv l a n (i+1)=λs=>Kv l a n i s ||s ==t:=by
 funext s
 unfold Kv;rw[G7,h,Bool.or_assoc];congr 1
 rw[Ki];simp
theorem zq0(l a:List Nat)(n:Nat):EC l (Kv l a n (l.count n))=EC l (NT l (a++[n])):=ZS λs b=>by
 unfold Kv NT;rw[BR (by rw[Nq];exact Af _),Ki]
 simp only[J5,Fj,zmF,FZ,Li];rw[Az b];simp
theorem zoz(l:List Nat)(c:JX l):EC l (NT l (EI l 20))=EC l (λ_=>true):=ZS λs b=>by
 unfold NT;rw[Fj,Rx,Az b];have a:=Et b;have:=c _ a;exact⟨this.1,this.2,List.count_pos_iff.2 a⟩
theorem ztK:(Tryz.prog.info? 216).map (λi=>(i.zero,i.size,i.bytes))=some (some (.agg #[Qi 0,.int .u64 0]),2,16):=Q2
theorem zjW(l:List Nat)(N:Nat)(a:l.length=N)(g:N<=1000000):∀W,(Instr.makeSlice 212 (Qi (N:Int)) (Qi (N:Int))).run Tryz.prog W=.ok (Qs W.heap.size 0 N N) (W.alloc (.cells (EC l λ_=>false) 216)):=λW=>by
 obtain⟨c,b,d,e,f⟩:=Ie ztK;have:=run_make (P:=Tryz.prog) W 212 216 c (.agg #[Qi 0,.int .u64 0]) Tryz.underlying212 b d .i64 .i64 N N Q0 Q0 (by rw[f];omega) Q0
 rw[e,EM,<-a] at this;rw[zuB,<-a];exact this
def zu1(w:World)(v:Value)(l:List Nat):Prop:=∃g c,v=Qs g 0 l.length c/\Qg w g (EC l λ_=>true) 216
theorem zxu(w:World)(v:Value)(l:List Nat)(G:Ac w w.heap.size v (ints l))(Q:Code l) :
 Qk 123 #[v] w λe H=>∃b9,e=.returned (.tuple #[b9,Qi 0])/\zu1 H b9 l/\Qb w H:=by
 obtain⟨A,d,rfl,f4,h8⟩:=G.shape;have a7:=Bj l;obtain⟨N,E⟩:=Qe l.length;rw[a7,E] at f4 G |-;have i6:N<=258:=by rw[<-E];exact Q.most
 have c2:Hid (Qk 31 #[.slice A N d] w λe H=>e=.returned (Qi 0)/\Qb w H):=by
  have:=RI w _ _ G (by rw[a7];omega)
  rw[Q.ok] at this;exact this
 have f7:=zjW l N E Q0
 have e1:=Aa G;have a2:=Aa E;have T:=Aa Q;obtain⟨D,g7⟩:∃D:Nat,8<=D:=⟨8,Q0⟩
 have f2:1<=D:=Q0
 clear G E Q a7;refine(Em (n:=D)).1 ?_;refine Lr Tryz.func123 rfl trivial ?_ rfl;simp only[Tryz.ntmps123,F6,Bt,D4,Nat.reduceAdd,Nat.reduceSub,GM,GL,GQ,GN,C6,Di]
 gi_wp2_with fail
 refine⟨trivial,(Em.2 c2.out).mono ?_⟩;rintro e a ⟨rfl,c7⟩;have S:=Aa c7;clear c7 c2
 gi_wp2_with fail
 refine⟨trivial,(Em.2 (ZW _ A N d)).mono ?_⟩;rintro e H ⟨rfl,rfl⟩
 gi_wp2_with fail
 obtain⟨g,hg⟩:=Qe a.heap.size;have b5:w.heap.size<=g:=by rw[<-hg];exact S.out.size
 have t:Qb w (((a.alloc (.cells (EC l λ_=>false) 216)).alloc (.cells #[Qs a.heap.size 0 N N] 212)).alloc (.cells #[.slice A N d] 67)) :=
  ((S.out.alloc S.out.size _).alloc Q4 _).alloc Q4 _
 have I:Qg (((a.alloc (.cells (EC l λ_=>false) 216)).alloc (.cells #[Qs a.heap.size 0 N N] 212)).alloc (.cells #[.slice A N d] 67)) a.heap.size (EC l λ_=>false) 216:=Bb _ (Bb _ (Am _ _ _ rfl));have J:Qg (((a.alloc (.cells (EC l λ_=>false) 216)).alloc (.cells #[Qs a.heap.size 0 N N] 212)).alloc (.cells #[.slice A N d] 67)) (a.heap.size+1) #[.slice (some ⟨a.heap.size,0,none⟩) N N] 212:=Bb _ (Am _ _ _ Q6)
 have K:Qg (((a.alloc (.cells (EC l λ_=>false) 216)).alloc (.cells #[Qs a.heap.size 0 N N] 212)).alloc (.cells #[.slice A N d] 67)) (a.heap.size+1+1) #[.slice A N d] 67:=Am _ _ _ Q6
 have V:(((a.alloc (.cells (EC l λ_=>false) 216)).alloc (.cells #[Qs a.heap.size 0 N N] 212)).alloc (.cells #[.slice A N d] 67)).heap.size=a.heap.size+3:=by simp
 rw[hg] at t I J K V |-;generalize((a.alloc (.cells (EC l λ_=>false) 216)).alloc (.cells #[Qs g 0 N N] 212)).alloc (.cells #[.slice A N d] 67)=y at*
 have Y:=e1.out.below t (Af _);clear hg S f7
 refine Xh (n:=D) f2 (gf:=229) (lb:=#[.pointer (some ⟨g+1+1,0,none⟩)]) rfl YD (encs:=Po) (λ_=>rfl) (MO l y.heap.size) (λk=>k=g)
  (zkz (D-1) Q0 (g+1+1) w.heap.size l T.out (λk=>k=g) (.slice A N d) y Y t.size ((Ae K 0).trans rfl) (λk hk=>by subst hk;exact⟨b5,Q0,Q0⟩)) (Ag _ _)
  (λf W=>(Qg W g (EC l (NT l (f.map (·.1)))) 216/\Boxed W (g+1) 212 (Qs g 0 N N))/\Qb w W)
  (λ_ _ _=>False)
  (I1 (I1 (Ko (WO g _ (λf:List KC=>EC l (NT l (f.map (·.1))))) _) (Ko (boxed_own _ _ (λ_=>Qs g 0 N N)) _)) (Nj (Af _) Q0))
  (λ_ _ _ _ _ h _ _=>h)
  ⟨⟨by rw[I];congr 2,J⟩,t⟩
  (λx a3 W=>∃lb,lb≠g/\a3 = { tmps:=#[.slice A N d,undef,.slice none 0 0,Qi 0,Qi 0,.pointer (some ⟨g+1,0,none⟩),.pointer (some ⟨lb,0,none⟩),undef,undef,.slice A N d,Qi 0,Qi 0,.bool false,undef,.slice A N d,Qi (N:Nat),.slice (some ⟨g,0,none⟩) N N,.slice A N d,.func (.func 229) #[] #[.pointer (some ⟨g+1+1,0,none⟩)],.agg #[Qi (x.1:Nat),.int .u64 (x.2.1:Nat),x.2.2],undef,undef,undef,undef,undef,undef,undef,undef,undef,undef,undef,undef,undef,undef,undef,undef,undef,undef,undef,undef,undef],defers:=[] } /\
    Qg W lb #[Qi (x.1:Nat),.int .u64 (x.2.1:Nat),x.2.2] 288/\MO l y.heap.size x W)
  (λx a3 s W e2 f9 h c9 hr=>by
    obtain⟨lb,P,h2,h3,h4,h5,h6,h7⟩:=h;exact⟨lb,P,h2,WO lb _ (λ_:Unit=>_) () W e2 f9 h3 c9 (λr e=>(hr r e).2),h4,h5,TC h6 c9 (λr e=>(hr r e).2),h7⟩)
  ?assign ?body ?done ?stop
 case assign =>
  intro d8 f x W g6 hi b0 d2 B;obtain⟨⟨F,hb⟩,o⟩:=hi;obtain⟨n,q,v⟩:=x;have i1:=Aj F;have P:W.heap.size≠g:=Q0
  clear d2 I J K V Y t;obtain⟨L,M,j,O⟩:n∈EI l 20/\q=2*Cg l (n-1)/\Ac W W.heap.size v (ints (En l n))/\∀g a1 a0 c,v=Qs g a1 a0 c->y.heap.size<=g:=b0;obtain⟨sq,sc,rfl,b1,_⟩:=j.shape;have U:Hid (MO l y.heap.size (n,q,.slice sq (ints (En l n)).length sc) W):=⟨L,M,j,O⟩;have d9:=Aa B;clear B L M j O;simp only[Po]
  gi_wp2_with fail
  have a6:Qb W (W.alloc (.cells #[Qi (n:Nat),.int .u64 (q:Nat),.slice sq (ints (En l n)).length sc] 288)):=(Ag _ W).alloc (Af _) _
  exact d9.out _ _ ((Ti W _).from _) ((Ao.refl _ _).below a6) ⟨⟨Bb _ F,hb.alloc _⟩,o.trans (a6.mono o.size)⟩
   ⟨W.heap.size,P,rfl,Am _ _ _ rfl,U.out.1,U.out.2.1,TC U.out.2.2.1 (TE a6) (λr e=>by cases e),U.out.2.2.2⟩
 case body =>
  rintro d8 f x a3 W ⟨⟨z,Z⟩,o⟩ ⟨lb,f8,rfl,u,b0⟩ d2 g5;obtain⟨n,q,v⟩:=x;obtain⟨L,M,j,O⟩:n∈EI l 20/\q=2*Cg l (n-1)/\Ac W W.heap.size v (ints (En l n))/\∀g a1 a0 c,v=Qs g a1 a0 c->y.heap.size<=g:=b0;have i5:=(Rx l 20 n).1 L
  have i2:q<=1048576:=by
   have P:=U8 l T.out.fits T.out.room (n-1) Q0
   have h2:2 ^ (n-1)<=2 ^ 19:=Jj Q0 Q0
   have h3:(2:Nat)^ 19=524288:=Q5
   omega
  obtain⟨sq,sc,rfl,b1,_⟩:=j.shape;have a8:=Nq l n;have d5:=Yl l n;rw[Bj] at j u b1 |-;rw[a2.out] at d5;obtain⟨C,a4⟩:=Qe ((En l n).length);rw[a4] at j u a8 b1 d5 |-;have c4:=Aa a4;have e4:=Aa j;have e5:=Aa O;have e9:=Aa V;have e0:=Aa M;have e6:=Aa u;have g0:=Aa Z;have e7:=Aa a8;have hd:1<=D-1-1:=Q0
  have k0:=(Ae u 0).trans rfl;have k1:=(Ae u 1).trans rfl;have k2:=(Ae u 2).trans rfl;have d7:Qg W g (EC l (Kv l (f.map (·.1)) n 0)) 216:=by rw[zpk];exact z
  have d6:=Aa d7;clear u Z L M j O a4 a8 z d7 I J K Y t g5 V
  gi_wp2_with fail
  gi_loopw [23] (λiv wr=>∃i:Nat,i<=C/\iv=Qi i/\Qg wr g (EC l (Kv l (f.map (·.1)) n i)) 216/\Ao (λk=>k=g) W wr/\KeepsOthers W wr/\Qb w wr) (λiv _=>C+1-(intOf iv).toNat)
  case atStart=>exact⟨0,BI _,rfl,d6.out,Ao.refl _ _,KeepsOthers.refl _,o⟩
  case round =>
   obtain⟨i,hi,rfl,F,X,d1,c8⟩:=hrel;have m:=Aa F;have a5:=Aa X;have c6:=Aa d1;have c5:=Aa c8;have b7:=X.cells f8 e6.out;have b6:=X.cells (show ¬ g+1=g by omega) g0.out
   clear k0 k1 k2 X d1 o c8 F d6
   by_cases d0:i<C
   ·obtain⟨g2,o2,rfl,h9,hx⟩:=e4.out.at i (by rw[Bj,c4.out];exact d0)
    have f5:∃s,(En l n)[i]?=some s:=⟨_,Az (by rw[c4.out];exact d0)⟩
    obtain⟨s,R⟩:=f5;have d4:(ints (En l n))[i]?.getD 0=(s:Int):=by simp[ints,R]
    rw[d4] at hx;obtain⟨d3,b4⟩:=zxY l n i s R;have b2:s<l.length:=(Cc.1 b4).1;have i3:s<N:=by rw[<-a2.out];exact b2
    have g4:g2≠g:=by
     have:=e5.out g2 o2 _ _ rfl;have h0:=e9.out;omega
    have i4:=a5.out.cell (b:=g2) g4 hx;have k0:=(Ae b7 0).trans rfl;have k1:=(Ae b7 1).trans rfl;have kb:=(Ae b6 0).trans rfl;have b3:=zwA l (Kv l (f.map (·.1)) n i) s b2;rw[<-zoH l (f.map (·.1)) n i s R] at b3;have b8:=Ak (Ak m.out (s*2) (Qi ((l[s]?.getD 0:Nat):Int))) (s*2+1) (.int .u64 (Gv l s:Int));rw[b3,d3,<-e0.out,show l[s]?.getD 0=n by rw[b4];rfl] at b8
    have g3:=Aa b8;have c0:=(Ae m.out (s*2)).trans (MC _ _ _ Q0)
    have c1:=(Ae m.out (s*2+1)).trans (MC _ _ _ Q0)
    have f0:=Ah m.out (s*2);have f1:=Ah m.out (s*2+1);have i0:=Aj m.out;generalize KZ l (Kv l (f.map (·.1)) n i) (s*2)=g8 at*
    generalize KZ l (Kv l (f.map (·.1)) n i) (s*2+1)=g9 at*
    clear b7 b6 hx d4 R d3 b4 b2 b8 b3
    gi_wp2_with fail
    go_roundw
    case rel=>exact⟨i+1,Q0,by go_num,g3.out,(a5.out.set rfl _).set rfl _,(c6.out.trans (FO _ _ _)).trans (FO _ _ _),(c5.out.setCell (p:=⟨g,_,none⟩) b5 _).setCell (p:=⟨g,_,none⟩) b5 _⟩
    case measure=>simp[intOf];omega
   ·obtain rfl:i=C:=Q0
    have a9:=m.out;rw[e7.out,zq0] at a9;have e8:=Aa a9;clear a9
    gi_wp2_with fail
    exact⟨c6.out.from _,a5.out,⟨by rw[D3];exact e8.out,b6⟩,c5.out⟩
 case done =>
  rintro c3 xs W h1 e3 ⟨⟨z,Z⟩,o⟩ B;have f3:xs.map (·.1)=EI l 20:=e3;rw[f3,zoz l T.out.fits] at z;have hc:=(Ae Z 0).trans rfl;have g1:=Aa z;have f6:c3≠g:=Q0
  clear z I J K Y t
  gi_wp2_with fail
  refine⟨Q6,.inl ⟨_,_,rfl,J9 B,?_⟩⟩
  exact⟨_,results_tmp2 rfl _ _ _,_,rfl,⟨g,N,by rw[a2.out];rfl,(GK (λe=>f6 e.symm)).trans g1.out⟩,o.trans (Kn (w:=w) (Af _) W c3 _ _ Q0 B rfl rfl)⟩
 case stop =>
  rintro D c f W _ _ h _;exact h.elim
end Go.Proofs.YtoejfkeofbdalaaGreatDoor
namespace Go.Proofs.YtoejfkeofbdalaaGreatDoor
open Go.RowKit
variable {n:Nat} {t:TypeId} {w:World}
theorem BL.place{v:World}{h:Array Value}{c:List (Nat × Array Value × TypeId)}(b:BL w v [] ((n,h,t)::c))(d:w.heap.size<=n)(e:∀p∈c,p.1≠n)(i:Nat)(u:Value) :
 BL w (v.setCell ⟨n,i,none⟩ u) [] ((n,h.setIfInBounds i u,t)::c):=by
 refine⟨⟨b.bel.setCell (p:=⟨n,i,none⟩) d u,λp a=>by simp at a⟩,λp a=>?_⟩
 rcases CZ.1 a with rfl|a
 ·exact Ak (b.blk 0 rfl) i u
 ·exact(Bg _ _ _ _ (e p a)).trans (b.2 p (J6 _ a))
def Pf(a:List (List Bool))(j:Nat):Value :=
 if j%2=0 then .string (Ba (a[j / 2]?.getD [])) else .int .i64 (((a[j / 2]?.getD []).length:Nat):Int)
def Jv(a:List (List Bool))(M:Nat):Array Value:=(Array.range (M*2)).map (Pf a)
theorem Ww(a:List (List Bool))(M:Nat):(Jv a M).size=M*2:=by simp[Jv]
theorem Qn(a:List (List Bool))(M:Nat)(j:Nat)(h:j<M*2):(Jv a M)[j]?=some (Pf a j):=by simp[Jv,h]
theorem Ue(a:List (List Bool))(M:Nat)(j:Nat)(h:¬ j<M*2):(Jv a M)[j]?=none:=IK (by rw[Ww];omega)
theorem zuQ(M:Nat):Jv [] M=madeCells #[.string ⟨#[]⟩,Qi 0] (M*2):=by
 apply KK
 intro j
 by_cases a:j<M*2
 ·rw[Qn _ _ _ a]
  unfold Pf;rcases QQ j with h|h
  ·simp[madeCells,a,h];rfl
  ·simp[madeCells,a,h]
 ·rw[Ue _ _ _ a,IK (by rw[size_madeCells];omega)]
theorem zw7(c:List (List Bool))(b:List Bool)(M i:Nat)(h:i<M)(g:c.length=i) :
 ((Jv c M).setIfInBounds (i*2) (.string (Ba b))).setIfInBounds (i*2+1) (Qi ((b.length:Nat):Int))=Jv (c++[b]) M:=by
 apply KK
 intro j;rw[MU,MU,MV,Ww]
 by_cases a:j<M*2
 ·rw[Qn _ _ _ a,Qn _ _ _ a]
  by_cases e:i*2+1=j
  ·subst e
   rw[if_pos rfl,if_pos a];unfold Pf;rw[if_neg Q0,show(i*2+1)/ 2=i by omega]
   simp[<-g]
  ·rw[if_neg e]
   by_cases f:i*2=j
   ·subst f
    rw[if_pos rfl,if_pos a];unfold Pf;rw[if_pos Q0,show i*2 / 2=i by omega]
    simp[<-g]
   ·rw[if_neg f]
    unfold Pf
    have:(c++[b])[j / 2]?=c[j / 2]?:=by
     rcases Gb (j / 2) c.length with d|d
     ·rw[FP d]
     ·rw[EU d,EU Q4]
    rw[this]
 ·rw[Ue _ _ _ a,Ue _ _ _ a,if_neg Q0,if_neg Q0]
theorem zwZ(a:List (List Bool)):(Jv a a.length).toList=DW (a.map Dp):=by
 apply KF
 intro j;rw[Lj]
 by_cases d:j<a.length*2
 ·rw[Qn _ _ _ d]
  have e:j / 2<a.length:=Q0
  have f:(a.map Dp)[j / 2]?=some (Dp a[j / 2]):=by simp[e]
  obtain⟨b,c⟩:=YK (a.map Dp) (j / 2) _ f;unfold Pf;rw[Az e];rcases QQ j with h|h
  ·rw[if_pos h]
   rw[show j / 2*2=j by omega] at b
   rw[b];rfl
  ·rw[if_neg Q0]
   rw[show j / 2*2+1=j by omega] at c
   rw[c];rfl
 ·rw[Ue _ _ _ d,EU (by rw[Yh,Da];omega)]
theorem zlR{m:Nat}{C:List (List Bool)}(h:Qg w n (Jv C m) t)(b:C.length=m)(a:m<=maxLen):MI w w.heap.size (Qs n 0 m m) (C.map Dp):=by
 subst b;unfold MI;rw[Da];have d:=Ww C C.length;refine⟨by rw[Yh,Da],_,_,rfl,Af _,a,λ_=>⟨n,0,rfl,Aj h,λj c=>?_⟩⟩
 rw[Ae h,DC,<-zwZ,Lj];exact id
theorem Nn{c:Func}{p q:Tmp}{d:TypeId}(h:c.results=#[.cell p d,.tmp q])(b:Array Value)(P:Program)(w:World)(a:Addr)(v:Value)(f:b.getD p undef=.pointer (some a))(e:(loadVar d a).run P w=.ok v w) :
 (results c b).run P w=.ok (.tuple #[v,b.getD q undef]) w:=by
 have g:b[p]?.getD undef=.pointer (some a):=by simpa using f
 simp[results,h,g,asAddr,e]
theorem TG(k:Nat)(w:World)(a b:Value)(h:Qg w k #[a,b] 50):(loadVar 50 ⟨k,0,none⟩).run Tryz.prog w=.ok (.agg #[a,b]) w:=by
 have c:=(Ae h 0).trans rfl;have d:=(Ae h 1).trans rfl
 go_simp
theorem zmD:(Tryz.prog.info? 50).map (λi=>(i.zero,i.size,i.bytes))=some (some (.agg #[.string ⟨#[]⟩,Qi 0]),2,24):=Q2
theorem zkV(M:Nat)(f:M<=1000000):∀W,(Instr.makeSlice 106 (Qi (M:Int)) (Qi (M:Int))).run Tryz.prog W=.ok (Qs W.heap.size 0 M M) (W.alloc (.cells (Jv [] M) 50)):=λW=>by
 obtain⟨b,a,c,d,e⟩:=Ie zmD;have:=run_make (P:=Tryz.prog) W 106 50 b (.agg #[.string ⟨#[]⟩,Qi 0]) Tryz.underlying106 a c .i64 .i64 M M Q0 Q0 (by rw[e];omega) Q0
 rw[d,EM] at this;rw[zuQ];exact this
def MH(l:List Nat)(m:List Int):List Bool × Int:=if ∀x∈m,0<=x/\x<l.length then(Gw l (m.map Int.toNat),0) else([],5)
def Kt(l:List Nat)(m:List Int)(i:Nat):List (List Bool):=(m.take i).map λx=>IW l x.toNat
theorem zmd(l:List Nat)(m:List Int)(i s:Nat)(h:m[i]?=some (s:Int)):Kt l m (i+1)=Kt l m i++[IW l s]:=by
 unfold Kt;rw[G7,h];simp
theorem zjL(l:List Nat)(m:List Int)(i:Nat)(h:i<=m.length):(Kt l m i).length=i:=by simp[Kt];omega
theorem zpL(l:List Nat)(m:List Int):(Kt l m m.length).flatten=Gw l (m.map Int.toNat):=by
 unfold Kt Gw;rw[Gp,List.flatMap_def,Gq];rfl
theorem zys(w:World)(v1 v2:Value)(l:List Nat)(m:List Int)(r:Ac w w.heap.size v1 (ints l))(F:Code l)(j:Ac w w.heap.size v2 m)(O:m.length<=1000000)(hr:JL m) :
 Qk 62 #[v1,v2] w λe c=>e=.returned (.tuple #[.agg #[.string (Ba (MH l m).1),Qi ((MH l m).1.length:Nat)],Qi (MH l m).2])/\Qb w c:=by
 obtain⟨b2,ca,rfl,b8,d8⟩:=r.shape;obtain⟨d3,d4,rfl,b9,d9⟩:=j.shape;have a4:=Bj l;obtain⟨N,E⟩:=Qe l.length;obtain⟨M,L⟩:=Qe m.length;have I:Hid (∀W,Qb w W->Qk 123 #[.slice b2 (ints l).length ca] W λe c=>∃u,e=.returned (.tuple #[u,Qi 0])/\zu1 c u l/\Qb W c):=λW b4=>zxu W _ l (DS r b4) F;rw[L] at O b9 j |-;rw[a4,E] at I b8 |-;have e4:N<=258:=by rw[<-E];exact F.most
 have G:=zkV M O;have a2:=Aa G;have b6:=Aa j;have q:=Aa E;have o:=Aa L;have Q:=Aa F;have b3:=Aa hr;clear r j E F a4 G hr L
 go_enter Tryz.func62,Tryz.ntmps62
 go_wp2_with fail
 refine(I.out _ ((Ag _ w).alloc (Af _) _)).mono ?_;rintro e w1 ⟨_,rfl,⟨g,cg,rfl,hg⟩,a3⟩;have y:=Aa (((BL.nil w).box #[.string ⟨#[]⟩,Qi 0] 50 w.heap.size rfl).fresh a3 hg);rw[q.out];clear a3 I hg;have G:=a2.out
 go_wp2_with fail
 obtain⟨f,T⟩:=Qe w1.heap.size;have Y:=Aa (y.out.box (Jv [] M) 50 f T.symm);have g1:=y.out.lt 0 rfl;have g2:=y.out.lt 1 rfl;have g3:=y.out.size;rw[T] at g1 g2 g3 |-;have n1:¬ g=f:=Q0
 have n2:¬ f=g:=Q0
 clear G a2 y T
 go_loopw [25] (λP wr=>∃i:Nat,i<=M/\P=Qi i/\(∀x∈m.take i,0<=x/\x<l.length)/\BL w wr [] [(f,Jv (Kt l m i) M,50),(g,EC l λ_=>true,216),(w.heap.size,#[.string ⟨#[]⟩,Qi 0],50)]) (λP _=>M+1-(intOf P).toNat)
 case atStart=>exact⟨0,BI _,rfl,λx d=>by simp at d,Y.out⟩
 case round =>
  obtain⟨i,hi,rfl,a9,a0⟩:=hrel;have HE:=Aa a0;have D:=Aa a9;have t:=zjL l m i (by rw[o.out];exact hi)
  have b0:=HE.out.cellv 2 rfl 0 _ rfl;have b1:=HE.out.cellv 2 rfl 1 _ rfl;have d5:=HE.out.frozen 2 rfl 0;have d6:=HE.out.frozen 2 rfl 1;have d7:=HE.out.lt 2 rfl;clear a0 a9 Y
  by_cases R:i<M
  ·have j:=HE.out.old b6.out
   obtain⟨g4,o4,rfl,e0,d⟩:=j.at i (by rw[o.out];exact R)
   obtain⟨x,k⟩:∃x,m[i]?=some x:=⟨_,Az (by rw[o.out];exact R)⟩
   rw[k,Es] at d;have c2:=b3.out x (Cn k);clear j
   by_cases H:0<=x/\x<N
   ·obtain⟨s,rfl⟩:∃s:Nat,x=s:=⟨x.toNat,Q0⟩
    have c3:s<N:=Q0
    obtain⟨n,A⟩:∃n,l[s]?=some n:=⟨_,Az (by rw[q.out];exact c3)⟩
    have c6:=Q.out.fits n (Cn A);have c8:=zqq Q.out A;have c7:2 ^ n<=2 ^ 20:=Jj Q0 c6.2
    have b7:(2:Nat)^ 20=1048576:=Q5
    have X:Hid (∀W,Qk 19 #[.agg #[.string ⟨#[]⟩,Qi 0],.int .u64 (Gv l s:Nat),Qi (n:Nat)] W λe c=>e=.returned (.tuple #[.agg #[.string (Ba (IW l s)),Qi ((IW l s).length:Nat)],Qi 0])/\Qb W c):=λW =>
     Sc W (Gv l s) n (IW l s) (by unfold IW;rw[A];rfl) Q0 Q0
    have Z:Hid (∀{W:World},BL w W [] [(f,Jv (Kt l m i) M,50),(g,EC l λ_=>true,216),(w.heap.size,#[.string ⟨#[]⟩,Qi 0],50)]->Qc W g (s*2) (Qi (n:Nat))):=λh=>by
     refine h.cellv 1 rfl (s*2) _ ?_;rw[MC _ _ _ (by rw[q.out];omega)]
     unfold KZ;rw[if_pos Q0,show s*2 / 2=s by omega,A]
     rfl
    have J:Hid (∀{W:World},BL w W [] [(f,Jv (Kt l m i) M,50),(g,EC l λ_=>true,216),(w.heap.size,#[.string ⟨#[]⟩,Qi 0],50)]->Qc W g (s*2+1) (.int .u64 (Gv l s:Nat))):=λh=>by
     refine h.cellv 1 rfl (s*2+1) _ ?_;rw[MC _ _ _ (by rw[q.out];omega)]
     unfold KZ;rw[if_neg Q0,show(s*2+1)/ 2=s by omega]
     rfl
    have U:=zw7 (Kt l m i) (IW l s) M i R t;rw[<-zmd l m i s k] at U;have c5:=Aa U
    have b5:Hid (∀x∈m.take (i+1),0<=x/\x<l.length):=λx d=>by
     rw[G7,k,FZ] at d;rcases d with d|d
     ·exact D.out x d
     ·simp at d
      rw[q.out];omega
    have k0:=Z.out HE.out;have k1:=J.out HE.out;clear k c2 H A c8 c7 b7 U t D;obtain⟨v,r⟩:=Qe (Gv l s);rw[r] at k1 X J;generalize c4:IW l s=a1 at*
    clear r c4
    go_wp2_with fail
    refine wp_region_noPanic ?_;refine wp_region_held_drew (S:=(λc=>Qc c g (s*2) (Qi (n:Nat))/\Qc c g (s*2+1) (.int .u64 (v:Nat)))) Q2 ?_ (λa8=>?_)
    ·(refine⟨?_,?_⟩<;>(go_simp;try assumption))
    refine EX (v:=?_) 0 (by simp only[JM,Lh];rfl) Q2 (λ_ _ _ h=>h) Q7 Q3 ?_ ?_
    rotate_left
    ·(intro w a;(try dsimp only at a);go_simp;try with_reducible rfl)
    try simp only[Act.put,AO,AR,AL]
    refine EX (v:=?_) 1 Q1 Q2 (λ_ _ _ h=>h) Q7 Q3 ?_ ?_
    rotate_left
    ·(intro w a;(try dsimp only at a);go_simp;try with_reducible rfl)
    try simp only[Act.put,AO,AR,AL]
    refine EX (v:=?_) 2 Q1 Q2 (λ_ _ _ h=>h) Q7 Q3 ?_ ?_
    rotate_left
    ·(intro w a;(try dsimp only at a);go_simp;try with_reducible rfl)
    try simp only[Act.put,AO,AR,AL]
    refine EX (v:=?_) 3 Q1 Q2 (λ_ _ _ h=>h) Q7 Q3 ?_ ?_
    rotate_left
    ·(intro w a;(try dsimp only at a);go_simp;try with_reducible rfl)
    try simp only[Act.put,AO,AR,AL]
    refine EX (v:=?_) 4 Q1 Q2 (λ_ _ _ h=>h) Q7 Q3 ?_ ?_
    rotate_left
    ·(intro w a;(try dsimp only at a);go_simp;try with_reducible rfl)
    try simp only[Act.put,AO,AR,AL]
    refine EX (v:=?_) 5 Q1 Q2 (λ_ _ _ h=>h) Q7 Q3 ?_ ?_
    rotate_left
    ·(intro w a;(try dsimp only at a);go_simp;try with_reducible rfl)
    try simp only[Act.put,AO,AR,AL]
    refine EX (v:=?_) 6 Q1 Q2 (λ_ _ _ h=>h) Q7 Q3 ?_ ?_
    rotate_left
    ·(intro w a;(try dsimp only at a);go_simp;try with_reducible rfl)
    try simp only[Act.put,AO,AR,AL]
    refine EX (v:=?_) 7 Q1 Q2 (λ_ _ _ h=>h) Q7 Q3 ?_ ?_
    rotate_left
    ·(intro w a;(try dsimp only at a);go_simp;try with_reducible rfl)
    try simp only[Act.put,AO,AR,AL]
    refine EX (v:=?_) 8 Q1 Q2 (λ_ _ _ h=>h) Q7 Q3 ?_ ?_
    rotate_left
    ·(intro w a;(try dsimp only at a);go_simp;try with_reducible rfl)
    try simp only[Act.put,AO,AR,AL]
    refine EX (v:=?_) 9 Q1 Q2 (λ_ _ _ h=>h) Q7 Q3 ?_ ?_
    rotate_left
    ·(intro w a;(try dsimp only at a);go_simp;try with_reducible rfl)
    try simp only[Act.put,AO,AR,AL]
    refine EX (v:=?_) 10 Q1 Q2 (λ_ _ _ h=>h) Q7 Q3 ?_ ?_
    rotate_left
    ·(intro w a;(try dsimp only at a);go_simp;try with_reducible rfl)
    try simp only[Act.put,AO,AR,AL]
    refine EX (v:=?_) 11 Q1 Q2 (λ_ _ _ h=>h) Q7 Q3 ?_ ?_
    rotate_left
    ·(intro w a;(try dsimp only at a);go_simp;try with_reducible rfl)
    try simp only[Act.put,AO,AR,AL]
    refine EX (v:=?_) 12 Q1 Q2 (λ_ _ _ h=>h) Q7 Q3 ?_ ?_
    rotate_left
    ·(intro w a;(try dsimp only at a);go_simp;try with_reducible rfl)
    try simp only[Act.put,AO,AR,AL]
    refine Jp 13 Q1 Q2 Q7 (λK z=>?_)
    go_simp
    go_at_call 19
    refine(X.out _).mono ?_;rintro e w8 ⟨rfl,C⟩;have b:=Aa (HE.out.drew.step C);clear C;have k0:=Z.out b.out;have k1:=J.out b.out;have c0:=b.out.cellv 0 rfl (i*2) _ (Qn _ _ _ Q0)
    have c1:=b.out.cellv 0 rfl (i*2+1) _ (Qn _ _ _ Q0)
    have f0:=b.out.frozen 0 rfl (i*2);have f1:=b.out.frozen 0 rfl (i*2+1);have e1:=b.out.lt 0 rfl;refine z.out _ _ ?_ (λa8=>?_)
    ·(refine⟨?_,?_⟩<;>(go_simp;try assumption))
    clear z K
    try simp only[Act.put,AO,AR,AL]
    refine EX (v:=?_) 14 Q1 Q2 (λ_ _ _ h=>h) Q7 Q3 ?_ ?_
    rotate_left
    ·(intro w a;(try dsimp only at a);go_simp;try with_reducible rfl)
    try simp only[Act.put,AO,AR,AL]
    refine EX (v:=?_) 15 Q1 Q2 (λ_ _ _ h=>h) Q7 Q3 ?_ ?_
    rotate_left
    ·(intro w a;(try dsimp only at a);go_simp;try with_reducible rfl)
    try simp only[Act.put,AO,AR,AL]
    refine EX (v:=?_) 16 Q1 Q2 (λ_ _ _ h=>h) Q7 Q3 ?_ ?_
    rotate_left
    ·(intro w a;(try dsimp only at a);go_simp;try with_reducible rfl)
    try simp only[Act.put,AO,AR,AL]
    refine EX (v:=?_) 17 Q1 Q2 (λ_ _ _ h=>h) Q7 Q3 ?_ ?_
    rotate_left
    ·(intro w a;(try dsimp only at a);go_simp;try with_reducible rfl)
    try simp only[Act.put,AO,AR,AL]
    refine Jp 18 Q1 Q2 Q7 (λK z=>?_)
    go_simp
    skip
    refine z.out _ _ ?_ (λa8=>?_)
    ·(refine⟨?_,?_⟩<;>(go_simp;try assumption))
    clear z K
    try simp only[Act.put,AO,AR,AL]
    refine wpAnyH_done Q2 ?_ _
    refine NoPanic.normal ?_
    go_wp2_with fail
    go_roundw
    case rel=>exact⟨i+1,Q0,by go_num,b5.out,by
     have h2:=(b.out.place Q0 (λp B=>by simp at B;rcases B with rfl|rfl<;>simp<;>omega) (i*2) (.string (Ba a1))).place Q0 (λp B=>by simp at B;rcases B with rfl|rfl<;>simp<;>omega) (i*2+1) (Qi ((a1.length:Nat):Int))
     rw[c5.out] at h2;exact h2⟩
    case measure=>simp[intOf];omega
   ·have a6:Hid (MH l m=([],5)):=by
     show _=_
     unfold MH;rw[if_neg];intro h;have:=h x (Cn k);rw[q.out] at this;exact H this
    clear k t D
    by_cases e2:x<0
    ·clear H
     go_wp2_with fail
     refine BV (Nn rfl _ _ _ ⟨w.heap.size,0,none⟩ _ rfl (TG _ _ _ _ (PX (HE.out.blk 2 rfl) _ _))) rfl ?_;exact⟨by rw[a6.out];rfl,(HE.out.bel.setCell (p:=⟨w.heap.size,0,none⟩) (Af _) _).setCell (p:=⟨w.heap.size,1,none⟩) (Af _) _⟩
    ·have e3:(N:Int)<=x:=Q0
     clear H
     go_wp2_with fail
     refine BV (Nn rfl _ _ _ ⟨w.heap.size,0,none⟩ _ rfl (TG _ _ _ _ (PX (HE.out.blk 2 rfl) _ _))) rfl ?_;exact⟨by rw[a6.out];rfl,(HE.out.bel.setCell (p:=⟨w.heap.size,0,none⟩) (Af _) _).setCell (p:=⟨w.heap.size,1,none⟩) (Af _) _⟩
  ·obtain rfl:i=M:=Q0
   have c9:Hid (MH l m=(Gw l (m.map Int.toNat),0)):=by
    show _=_
    unfold MH;rw[if_pos];have:=D.out;rw[<-o.out,Gp] at this;exact this
   have a5:=Yx Q.out.fits (m.map Int.toNat);rw[Da,o.out] at a5;have a7:=zlR (HE.out.blk 0 rfl) t (BU O Q5)
   have V:Hid (Qk 20 #[Qs f 0 i i] wr λe c =>
    e=.returned (.tuple #[.agg #[.string (Ba (Gw l (m.map Int.toNat))),Qi ((Gw l (m.map Int.toNat)).length:Nat)],Qi 0])/\Qb wr c) :=
    UT wr _ (Kt l m i) _ (by rw[<-o.out];exact zpL l m) a7 (by rw[t];omega)
   clear a7 t D a5;generalize Gw l (m.map Int.toNat)=d2 at*
   go_wp2_with fail
   refine V.out.mono ?_;rintro e w8 ⟨rfl,C⟩;have b:=Aa (HE.out.step C);have c0:=b.out.cellv 2 rfl 0 _ rfl;have c1:=b.out.cellv 2 rfl 1 _ rfl;have d0:=b.out.frozen 2 rfl 0;have d1:=b.out.frozen 2 rfl 1;have dl:=b.out.lt 2 rfl;clear C V
   go_wp2_with fail
   refine BV (Nn rfl _ _ _ ⟨w.heap.size,0,none⟩ _ rfl (TG _ _ _ _ (PX (b.out.blk 2 rfl) _ _))) rfl ?_;exact⟨by rw[c9.out];rfl,(b.out.bel.setCell (p:=⟨w.heap.size,0,none⟩) (Af _) _).setCell (p:=⟨w.heap.size,1,none⟩) (Af _) _⟩
