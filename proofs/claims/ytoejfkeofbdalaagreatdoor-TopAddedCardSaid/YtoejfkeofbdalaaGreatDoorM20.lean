import Derived.Test.YtoejfkeofbdalaaGreatDoorM03
import Derived.Deep.RegionHeld3
import Derived.Deep.RegionLaw
import Derived.BigRegion
import Derived.Deep.CutRange
import Derived.Deep.DeepCutAuto
set_option linter.all false
set_option maxRecDepth 100000
set_option maxHeartbeats 8000000
namespace Go.Proofs.YtoejfkeofbdalaaGreatDoor
open Go.RowKit
variable {a i j k m n:Nat} {u v w:World} {x y:Value}
def UY(x:NP):List Value:=[Qi (x.1:Int),Qi (x.2:Int)]
def Fw(h:List NP):List Value:=h.flatMap UY
theorem zhG(h:List NP):(Fw h).length=h.length*2:=by
 induction h with
 |nil=>rfl
 | cons x h a =>
   have e:Fw (x::h)=UY x++Fw h:=by simp[Fw]
   rw[e,AJ,a,Bt];simp[UY];omega
theorem PT(x:NP)(h:List NP):Fw (x::h)=Qi (x.1:Int)::Qi (x.2:Int)::Fw h:=rfl
theorem zhK(a b:List NP):Fw (a++b)=Fw a++Fw b:=by simp[Fw]
theorem zl3(h:List NP):∀j,j<h.length->(Fw h)[j*2]?=some (Qi ((gP h j).1:Int))/\(Fw h)[j*2+1]?=some (Qi ((gP h j).2:Int)):=by
 induction h with
 |nil=>intro j a;simp at a
 | cons x h b =>
   intro j a;rw[PT];cases j with
   |zero=>simp[gP]
   | succ j =>
     have:=b j (by simpa using a)
     have e:gP (x::h) (j+1)=gP h j:=by simp[gP]
     rw[e,show(j+1)*2=j*2+1+1 by omega]
     simp only[Me];exact this
theorem zlP(h:List NP)(x:NP):∀j,j<h.length->((Fw h).set (j*2) (Qi (x.1:Int))).set (j*2+1) (Qi (x.2:Int))=Fw (h.set j x):=by
 induction h with
 |nil=>intro j a;simp at a
 | cons y h b =>
   intro j a;rw[PT];cases j with
   |zero=>simp[PT]
   | succ j =>
     have:=b j (by simpa using a)
     rw[show(j+1)*2=j*2+1+1 by omega,AL,AL,AL,AL,this,AL,PT]
theorem zjB(h:List NP)(m:Nat):(Fw h).take (m*2)=Fw (h.take m):=by
 induction h generalizing m with
 |nil=>simp[Fw]
 | cons x h a =>
   cases m with
   |zero=>simp[Fw]
   | succ m =>
     rw[PT,show(m+1)*2=m*2+1+1 by omega,Ra,Ra,a,Ra,PT]
theorem zlh(h:List NP):∀u∈Fw h,u.oneCell'=true:=by
 intro u a;simp only[Fw,SB] at a;obtain⟨x,_,b⟩:=a;simp[UY] at b;rcases b with rfl|rfl<;>rfl
def Aw(w:World)(a:Nat)(v:Value)(h:List NP):Prop:=w.ownsRow a 245 2 v h.length (Fw h)
theorem Aw.nil(w:World)(a:Nat):Aw w a (.slice none 0 0) []:=GU _ _ _ _
theorem Aw.below{h:List NP}(b:Aw w n x h)(a:Qb w v):Aw v n x h:=Cd b a
theorem Aw.alloc{h:List NP}(a:Aw w n x h)(o:Obj):Aw (w.alloc o) n x h:=World.ownsRow.alloc a o
theorem Aw.shape{h:List NP}(b:Aw w n x h):∃q c,x=.slice q h.length c:=by
 rcases b.2 with⟨rfl,a⟩|⟨g,d,e,rfl,_⟩
 ·rw[a];exact⟨_,_,rfl⟩
 ·exact⟨_,_,rfl⟩
theorem Aw.place{h:List NP}(c:Aw w n x h)(v:0<h.length) :
 ∃g b,x=Qs g 0 h.length b/\h.length<=b/\b<=maxLen/\n<=g/\g<w.heap.size/\(∃e,Qg w g e 245)/\(∀j,j<h.length->Qc w g (j*2) (Qi ((gP h j).1:Int))/\Qc w g (j*2+1) (Qi ((gP h j).2:Int)))/\(∀j,w.frozen? ⟨g,j,none⟩=false)/\
  (∀(j:Nat)(a:NP),j<h.length->Aw ((w.setCell ⟨g,j*2,none⟩ (Qi (a.1:Int))).setCell ⟨g,j*2+1,none⟩ (Qi (a.2:Int))) n x (h.set j a))/\
  (∀m,m<=h.length->Aw w n (Qs g 0 m b) (h.take m)):=by
 have y:=c;rcases c.2 with⟨rfl,t⟩|⟨g,b,e,rfl,l,i,r,p,q,s⟩
 ·omega
 ·refine⟨g,b,rfl,r,p,l,Aj i,⟨e,i⟩,λj k=>?_,λj=>Vu c j,λj a k=>?_,λm u=>?_⟩
  ·obtain⟨f,d⟩:=zl3 h j k
   exact⟨(SQ c (j*2) Q0).trans f,(SQ c (j*2+1) Q0).trans d⟩
  ·have f:=(SN c (j*2) (Qi (a.1:Int))).1
   have d:=(SN f (j*2+1) (Qi (a.2:Int))).1;rw[zlP h a j k] at d;unfold Aw;rw[Jm];exact d
  ·unfold Aw
   have o:(h.take m).length=m:=by rw[BO];omega
   rw[o];refine⟨by rw[zhG,o],.inr ⟨g,b,e,rfl,l,i,Q0,p,q,?_⟩⟩
   rw[<-zjB,<-s,List.take_take,Fs Q0]
theorem VU{h:List NP}(c:Aw w n x h){m:Nat}(a:x.ownBlock=some m):n<=m:=by
 rcases c.2 with⟨rfl,_⟩|⟨g,d,e,rfl,b,_⟩
 ·simp[Value.ownBlock] at a
 ·obtain rfl:g=m:=by simpa [Value.ownBlock] using a
  exact b
theorem zuU:(Tryz.prog.info? 245).map (λi=>(i.zero,i.size,i.bytes))=some (some (.agg #[Qi 0,Qi 0]),2,16):=Q2
theorem zzx{x:NP}(h:Qg w n #[Qi (x.1:Int),Qi (x.2:Int)] 245):Rd w (n+1) 2 (Qs n 0 1 1) 1 (Fw [x]):=by
 refine⟨rfl,_,1,rfl,Af _,by simp[maxLen],λ_=>⟨n,0,rfl,Kj _,λi u a=>?_⟩⟩
 have e:Fw [x]=[Qi (x.1:Int),Qi (x.2:Int)]:=rfl;rw[e] at a;rw[DC,Ae h,<-a];simp
theorem zhL{i:Array Oper}{a:Oper}{o:Act}{K:Act->World->Prop}{Q:Exit->Act->World->Prop}{E:Prop}(B:a.guard=none)(s x:Operand)
 (p:a.op=.call { callee:=.builtin .append,args:=#[s,x],argTypes:=#[247,247] })
 (e:Nat) (v:Value) (h:List NP) (r:o.eval s=v) (G:Aw w e v h)
 (k:Nat) (y:NP) (u:o.eval x=Qs k 0 1 1) (q:Qg w k #[Qi (y.1:Int),Qi (y.2:Int)] 245)
 (J:h.length<=1000000) (I:e<=w.heap.size)
 (n:∀g c b,Aw b e (Qs g 0 (h.length+1) c) (h++[y])->w.grownBy b v.ownBlock->(some g=v.ownBlock\/g=w.heap.size)->K (o.put a.dst (Qs g 0 (h.length+1) c)) b) :
 if Region.wanted a (yielded i o.tmps)=true then Oper.wp Tryz.prog a o w K Q else E:=by
 have t:Region.wanted a (yielded i o.tmps)=true:=by simp[Region.wanted,B]
 rw[if_pos t];obtain⟨z,m,C,D,F⟩:=Ie zuU;obtain⟨A,b,H,j,l,d⟩:=Ru (P:=Tryz.prog) w e 247 a.type 245 z (.agg #[Qi 0,Qi 0]) 2 16 Tryz.underlying247 m C D F rfl Q5 v h.length (Fw h) G (k+1) 1 _ (Fw [y]) (zzx q) (zlh _) (by unfold maxLen;omega) Q0 I
 unfold Oper.wp execOp;simp only[p,resolve,invoke,builtin,Ml,Mk,KH,MZ,Dz,Jl,r,u,H]
 have f:Aw b e A (h++[y]):=by
  unfold Aw;rw[AJ,zhK];exact j
 obtain⟨g,c,rfl,_⟩:=f.place Q6
 rw[AJ] at*
 refine hK _ _ (n g c b f l ?_);rcases d with d|d
 ·exact .inl d
 ·refine .inr ?_
  simpa [Value.ownBlock] using d
where
 hK {K:Act->World->Prop} (a:Act) (w:World) (h:K a w):K a w:=h
structure AF(qb:Nat)(w w':World):Prop where
 bel:Below qb w w'
 size:w.heap.size<=w'.heap.size
 other:∀k cs t,t≠245->k≠qb->Qg w k cs t->Qg w' k cs t
theorem AF.refl(a:Nat)(w:World):AF a w w:=⟨Ag _ _,Af _,λ_ _ _ _ _ h=>h⟩
theorem AF.trans(h:AF n w v)(g:AF n v u):AF n w u:=⟨h.bel.trans g.bel,BU h.size g.size,λk a t b c d=>g.other k a t b c (h.other k a t b c d)⟩
theorem AF.below(b:n<=w.heap.size)(a:Qb w v):AF n w v:=⟨a.mono b,a.size,λk c t _ _ h=>(a.block k (Aj h)).trans h⟩
theorem AF.set(l:n<m)(f:∃c,Qg w m c 245)(i:Nat)(u:Value):AF n w (w.setCell ⟨m,i,none⟩ u) :=
 ⟨(Ag _ _).setCell (p:=⟨m,i,none⟩) Q4 u,by simp[World.setCell],λk h t d j b=>by
   have g:k≠m:=λe=>by
    subst e;obtain⟨c,a⟩:=f;rw[b] at a;injection a with a
    injection a with _ a
    exact d a
   rw[Bg _ _ _ _ g];exact b⟩
theorem AF.setq(i:Nat)(u:Value):AF n w (w.setCell ⟨n,i,none⟩ u) :=
 ⟨(Ag _ _).setCell (p:=⟨n,i,none⟩) (Af _) u,by simp[World.setCell],λk c t d a b=>by
   rw[Bg _ _ _ _ a];exact b⟩
theorem AF.grown{h:List NP}(d:Aw w m x h)(o:n<m)(i:n<=w.heap.size)(c:w.grownBy v x.ownBlock):AF n w v :=
 ⟨(Ag _ _).grown c i (λk g=>by have:=VU d g;omega),c.size,λk j t f l b=>by
   refine(c.block k (Aj b) λe=>?_).trans b;obtain⟨p,a⟩:=Gr d e.symm;rw[b] at a;injection a with a
   injection a with _ a
   exact f a⟩
structure Eo(w:World)(qb:Nat)(h:List NP):Prop where
 ex:∃v,Qg w qb #[v,.func (.func 139) #[] #[]] 249/\Aw w (qb+1) v h
theorem znR(w:World)(a b:NP) :
 Qk 139 #[.agg #[Qi (a.1:Int),Qi (a.2:Int)],.agg #[Qi (b.1:Int),Qi (b.2:Int)]] w λe n=>e=.returned (.bool (Cf a b))/\Qb w n:=by
 obtain⟨c,g⟩:=a;obtain⟨d,h⟩:=b;have j:Qb w ((w.alloc (.cells #[Qi (c:Int),Qi (g:Int)] 245)).alloc (.cells #[Qi (d:Int),Qi (h:Int)] 245)):=((Ag _ _).alloc (Af _) _).alloc Q6 _
 have i:=Aa j;clear j
 by_cases k:c<d
 ·have f:Hid (Cf (c,g) (d,h)=true):=by show _=_;rw[Kr];exact .inl k
  go_enter Tryz.func139,Tryz.ntmps139
  go_wp2
  go_ret
  exact⟨by rw[f.out];simp,i.out⟩
 ·by_cases l:c=d
  ·subst l
   by_cases m:g<h
   ·have f:Hid (Cf (c,g) (c,h)=true):=by show _=_;rw[Kr];exact .inr ⟨rfl,m⟩
    go_enter Tryz.func139,Tryz.ntmps139
    go_wp2
    go_ret
    exact⟨by rw[f.out];simp,i.out⟩
   ·have f:Hid (Cf (c,g) (c,h)=false):=by show _=_;rw[OZ];simp;omega
    go_enter Tryz.func139,Tryz.ntmps139
    go_wp2
    go_ret
    exact⟨by rw[f.out];simp,i.out⟩
  ·have f:Hid (Cf (c,g) (d,h)=false):=by show _=_;rw[OZ];simp;omega
   have p:((c:Int)==(d:Int))=false:=by rw[Ez];omega
   have o:d<c:=Q0
   go_enter Tryz.func139,Tryz.ntmps139
   go_wp2
   go_ret
   exact⟨by rw[f.out];simp,i.out⟩
theorem Eo.row{h:List NP}(e:Eo w n h)(d:0<h.length):∃g a,Qg w n #[Qs g 0 h.length a,.func (.func 139) #[] #[]] 249/\Aw w (n+1) (Qs g 0 h.length a) h:=by
 obtain⟨v,c,b⟩:=e.ex;obtain⟨g,a,rfl,_⟩:=b.place d;exact⟨g,a,c,b⟩
theorem Eo.up{h:List NP}(e:Eo w n h)(b:Qb w v):Eo v n h:=by
 obtain⟨c,a,d⟩:=e.ex;exact⟨c,(b.block _ (Aj a)).trans a,d.below b⟩
theorem znU(a:Qb v u)(h:Qb w v):Qb w u:=h.trans (a.mono h.size)
theorem zzD{h:List NP}(b:Qg w n #[x,.func (.func 139) #[] #[]] 249)(a:Aw w (n+1) y h):Eo (w.setCell ⟨n,0,none⟩ y) n h :=
 ⟨y,by have:=Ak b 0 y;simpa using this,Oa a (grownBy_setCell' w n y) (by
   cases hb:y.ownBlock with
   |none=>exact .inl rfl
   | some k =>
     refine .inr λe=>?_;have:=VU a hb;injection e with e
     omega)⟩
theorem Aw.put{h:List NP}(e:Aw w n (Qs m 0 k i) h)(j:Nat)(x:NP)(d:j<h.length) :
 Aw ((w.setCell ⟨m,j*2,none⟩ (Qi (x.1:Int))).setCell ⟨m,j*2+1,none⟩ (Qi (x.2:Int))) n (Qs m 0 k i) (h.set j x):=by
 obtain⟨f,o,c,_,_,_,_,_,_,_,b,_⟩:=e.place Q0
 injection c with a g l
 injection a with a
 injection a with a
 subst a;exact b j x d
theorem Np(h:∃a,Qg w n a 245)(i:Nat)(u:Value):∃a,Qg (w.setCell ⟨n,i,none⟩ u) n a 245:=by
 obtain⟨a,b⟩:=h;exact⟨_,Ak b i u⟩
theorem zx4{h:List NP}{c b:NP}(z:Qg w n #[Qs m 0 k i,.func (.func 139) #[] #[]] 249)
 (y:Aw w (n+1) (Qs m 0 k i) h) (v:j<h.length) (x:a<h.length) (s:gP h j=c) (t:gP h a=b) (d:n<m) (l:∃B,Qg w m B 245) :
 Eo (((((w.setCell ⟨m,j*2,none⟩ (Qi (b.1:Int))).setCell ⟨m,j*2+1,none⟩ (Qi (b.2:Int))).setCell ⟨m,a*2,none⟩ (Qi (c.1:Int))).setCell ⟨m,a*2+1,none⟩ (Qi (c.2:Int))).drew) n (I6 h j a)/\
 AF n w (((((w.setCell ⟨m,j*2,none⟩ (Qi (b.1:Int))).setCell ⟨m,j*2+1,none⟩ (Qi (b.2:Int))).setCell ⟨m,a*2,none⟩ (Qi (c.1:Int))).setCell ⟨m,a*2+1,none⟩ (Qi (c.2:Int))).drew):=by
 subst s t;have q:=y.put j (gP h a) v;have r:=q.put a (gP h j) (by rw[Jm];exact x)
 have C:n≠m:=Q0
 refine⟨⟨_,?_,r⟩,?_⟩
 ·have e:∀(W:World)(g:Nat)(u:Value),(W.setCell ⟨m,g,none⟩ u).heap[n]?=W.heap[n]?:=λW g u=>Bg _ _ _ _ C
  show(((((w.setCell _ _).setCell _ _).setCell _ _).setCell _ _)).heap[n]?=_
  rw[e,e,e,e];exact z
 ·have o:=Np l (j*2) (Qi ((gP h a).1:Int))
  have p:=Np o (j*2+1) (Qi ((gP h a).2:Int));have A:=Np p (a*2) (Qi ((gP h j).1:Int));have f:=(((AF.set d l (j*2) (Qi ((gP h a).1:Int))).trans (AF.set d o (j*2+1) (Qi ((gP h a).2:Int)))).trans (AF.set d p (a*2) (Qi ((gP h j).1:Int)))).trans (AF.set d A (a*2+1) (Qi ((gP h j).2:Int)));exact⟨f.bel.drew,f.size,f.other⟩
theorem zqn(w:World)(d:Nat)(h:List NP)(x:NP)(hq:Eo w d h)(z:Ci h)(hl:h.length<=1000) :
 Qk 140 #[Qp d 0,.agg #[Qi (x.1:Int),Qi (x.2:Int)]] w λe H=>e=.returned (.tuple #[])/\∃c,Ci c/\c.Perm (x::h)/\Eo H d c/\AF d w H:=by
 obtain⟨v,a9,b2⟩:=hq.ex;obtain⟨q0,c0,rfl⟩:=b2.shape;obtain⟨f,j⟩:=x;have e0:=Aa a9;have e1:=Aa b2;have f7:=Aj a9;have d5:=Aa z;clear a9 b2 z hq
 go_enter Tryz.func140,Tryz.ntmps140
 go_wp2_with fail
 obtain⟨X,a4⟩:=Qe w.heap.size;have O:Qg (w.alloc (.cells #[Qi (f:Int),Qi (j:Int)] 245)) X #[Qi (f:Int),Qi (j:Int)] 245:=Am _ _ _ a4.symm;have B:=Aa (Bb (.cells #[Qi (f:Int),Qi (j:Int)] 245) e0.out);have I:=Aa (e1.out.alloc (.cells #[Qi (f:Int),Qi (j:Int)] 245));have b9:Hid (Qb w (w.alloc (.cells #[Qi (f:Int),Qi (j:Int)] 245))):=(Ag _ _).alloc (Af _) _;have d1:(w.alloc (.cells #[Qi (f:Int),Qi (j:Int)] 245)).heap.size=X+1:=by simp[a4]
 generalize w.alloc (.cells #[Qi (f:Int),Qi (j:Int)] 245)=V at*
 have e3:=Aa O;have f9:=(Ae O 0).trans rfl;have g0:=(Ae O 1).trans rfl;have q:=(Ae B.out 0).trans rfl;rw[a4] at f7 |-;clear O
 go_cut [6] (λs6 wx=>s6=Qp d 0/\Eo wx d (h++[(f,j)])/\AF d w wx)
 case first =>
  go_region_law
   (refine zhL Q7 _ _ Q7 (d+1) _ h Q7 (I.out.alloc _) (X+1) (f,j) Q7 (Am _ _ _ d1.symm) Q0 Q4 ?_
    intro g g8 w2 d3 o g3;have R:=(o.block d Q4 (λe=>by have:=VU I.out e.symm;omega)).trans (Bb _ B.out)
    have i8:=(Ae R 0).trans rfl;have h8:=Ah R 0;have e5:=Aa R;have g5:=Aa d3;have e4:=Aa o;clear R d3 o g3)
  all_goals
   go_wp2_with fail
   go_meet
   have f4:AF d w V:=AF.below Q0 b9.out
   have f3:AF d V w2:=(AF.below Q0 ((Ag _ V).alloc (Af _) _).drew).trans (AF.grown ((I.out.alloc _).below (Ag _ _).drew) (Kj _) Q4 e4.out)
   exact⟨rfl,zzD e5.out (by have:=g5.out;exact this),(f4.trans f3).trans (AF.setq 0 _)⟩
 case rest =>
  obtain⟨rfl,b8,b5⟩:=hcut;have a2:=Aa b8;have c2:=Aa b5;clear b8 b5 B I b9 e3 f9 g0 q d1;have Q:(h++[(f,j)]).length=h.length+1:=by simp
  have Y:=Le.start d5.out (f,j);have b7:(h++[(f,j)]).Perm ((f,j)::h):=MW;obtain⟨N,b6⟩:=Qe h.length;rw[b6] at Q Y hl;have s:=Aa Y;have r:=Aa b7;generalize h++[(f,j)]=h1 at*
  obtain⟨g,a3,n,t⟩:=a2.out.row Q0
  rw[Q] at n;have q:=(Ae n 0).trans rfl;have f8:IntKind.i64.wrap ((N:Int)+1-1)=(N:Int):=by rw[AU _ Q0];omega
  clear Y b7 n t b6
  go_wp2_with fail
  go_loopw [4] (λiv wr=>∃(i:Nat)(c:List NP),iv=Qi i/\i<N+1/\c.length=N+1/\Hid (Le c i)/\Hid (c.Perm ((f,j)::h))/\Hid (Eo wr d c)/\Hid (AF d w wr)) (λiv _=>(intOf iv).toNat)
  case atStart=>exact⟨N,h1,by go_num,Q0,Q,s,r,a2,c2⟩
  case round =>
   clear s r a2 c2 q Q f8;obtain⟨i,c,rfl,hi,P,s,r,T,b3⟩:=hrel
   by_cases h0:0<i
   ·obtain⟨k,hk⟩:=Qe ((i-1)/ 2)
    have i5:k<i:=Q0
    have i1:(0:Int)<=(i:Int):=Q0
    have i2:(i:Int)<(N:Int)+1:=Q0
    have i3:(0:Int)<=(k:Int):=Q0
    have i4:(k:Int)<(N:Int)+1:=Q0
    have h9:((i:Int)-1).tdiv 2=(k:Int):=by rw[QR Q0];omega
    have i6:IntKind.i64.wrap ((i:Int)-1)=(i:Int)-1:=AU _ Q0
    have i7:IntKind.i64.wrap (k:Int)=(k:Int):=AU _ Q0
    obtain⟨g,a3,n,t⟩:=T.out.row Q0
    have f6:=t.place Q0
    obtain⟨d6,g2,y,g6,g7,i0,o,c8,a6,D,c9,_⟩:=f6;rw[P] at y n t;injection y with m f2 a5
    injection m with m
    injection m with m
    subst m;subst a5;rw[P] at g6;unfold maxLen at g7;obtain⟨J,K⟩:=a6 i Q0
    obtain⟨L,M⟩:=a6 k Q0
    have c3:=D (i*2);have c4:=D (i*2+1);have c5:=D (k*2);have c6:=D (k*2+1);have q:=(Ae n 0).trans rfl;have b0:=(Ae n 1).trans rfl;have S:=Aj n;have u:Hid (∀W,Qk 139 #[.agg #[Qi ((gP c i).1:Int),Qi ((gP c i).2:Int)],.agg #[Qi ((gP c k).1:Int),Qi ((gP c k).2:Int)]] W λe H=>e=.returned (.bool (Cf (gP c i) (gP c k)))/\Qb W H):=λW=>znR W _ _;have B:=Aa n;have d7:=Aa t;have g9:=Aa c8;have h2:=Aa c9
    have C:Hid (∀{l:World},Qb wr l->Qc l d 0 (Qs g 0 (N+1) a3)/\Qc l d 1 (.func (.func 139) #[] #[])/\Qc l g (i*2) (Qi ((gP c i).1:Int))/\Qc l g (i*2+1) (Qi ((gP c i).2:Int))/\Qc l g (k*2) (Qi ((gP c k).1:Int))/\Qc l g (k*2+1) (Qi ((gP c k).2:Int))):=λh =>
     ⟨(h.cell (p:=⟨d,0,none⟩) S).trans q,(h.cell (p:=⟨d,1,none⟩) S).trans b0,(h.cell (p:=⟨g,i*2,none⟩) o).trans J,(h.cell (p:=⟨g,i*2+1,none⟩) o).trans K,(h.cell (p:=⟨g,k*2,none⟩) o).trans L,(h.cell (p:=⟨g,k*2+1,none⟩) o).trans M⟩
    have d0:Qb wr wr:=Ag _ _;obtain⟨a,Z⟩:=Qe (gP c i);obtain⟨b,hb⟩:=Qe (gP c k);rw[Z] at J K u C;rw[hb] at L M u C;have F:=Aa Z;have G:=Aa hb;have a0:=Aa hk;obtain⟨d4,hr⟩:=Qe (Cf a b);rw[hr] at u;have b4:=Aa hr;clear n t c8 a6 D c9 Z hb hk hr
    go_wp2_with fail
    go_region_held3 (λl=>Qc l d 0 (Qs g 0 (N+1) a3)/\Qc l d 1 (.func (.func 139) #[] #[])/\Qc l g (i*2) (Qi (a.1:Int))/\Qc l g (i*2+1) (Qi (a.2:Int))/\Qc l g (k*2) (Qi (b.1:Int))/\Qc l g (k*2+1) (Qi (b.2:Int)))
     ((first|exact C.out d0.drew|exact C.out A.out|fail))
     ((first
       |(go_at_call 139
         refine(u.out _).mono ?_;rintro e w8 ⟨rfl,c7⟩;have A:=Aa (znU c7 d0.drew);clear c7)
       |fail))
    all_goals
     have c1:=Aa (b3.out.trans (AF.below (KI S) A.out));cases d4 with
     | false =>
       have U:Hid (Ci c):=s.out.done (.inr (by rw[a0.out,F.out,G.out];exact b4.out))
       have a1:=Aa (T.out.up A.out);clear J K L M q b0 c3 c4 c5 c6
       go_wp2_with fail
       refine BV (v:=.tuple #[]) (Dw rfl _ _ _) rfl ?_;exact⟨rfl,c,U.out,r.out,a1.out,c1.out⟩
     | true =>
       have e2:Hid (Le (I6 c i k) k):=by
        have:=s.out.step h0 (by rw[a0.out,F.out,G.out];exact b4.out)
        rw[a0.out] at this;exact this
       have d9:Hid ((I6 c i k).Perm ((f,j)::h)):=(Z8 c i k Q0 Q0 Q0).trans r.out
       have f5:(I6 c i k).length=N+1:=by rw[OC,P]
       have a7:=d7.out.below A.out;have a8:=(A.out.block d S).trans B.out;obtain⟨d6,g2,y,_,_,_,j0,d2,b1,E,g4,_⟩:=a7.place Q0
       rw[P] at y;injection y with m f2 a5
       injection m with m
       injection m with m
       subst m;subst a5;have h3:=E (i*2);have h4:=E (i*2+1);have h5:=E (k*2);have h6:=E (k*2+1);obtain⟨e6,e7⟩:=b1 i Q0
       obtain⟨e8,e9⟩:=b1 k Q0
       rw[F.out] at e6 e7;rw[G.out] at e8 e9;have h7:=(Ae a8 0).trans rfl;have n1:¬ i*2=k*2:=Q0
       have n2:¬ i*2+1=k*2:=Q0
       have n3:¬ i*2=k*2+1:=Q0
       have n4:¬ i*2+1=k*2+1:=Q0
       have n5:¬ k*2=i*2:=Q0
       have n6:¬ k*2+1=i*2:=Q0
       have n7:¬ k*2=i*2+1:=Q0
       have n8:¬ k*2+1=i*2+1:=Q0
       have n9:¬ g=d:=Q0
       have i9:¬ d=g:=Q0
       have a1:=Aa a8;have d8:=Aa a7;have g1:=Aa d2;clear J K L M q b0 c3 c4 c5 c6 b1 E g4 a8 a7 d2 u C
       go_wp2_with fail
       go_region
       go_wp2_with fail
       obtain⟨f1,f0⟩:=zx4 a1.out d8.out (show i<c.length by omega) (show k<c.length by omega) F.out G.out Q0 g1.out
       go_roundw
       case rel=>exact⟨k,I6 c i k,by go_num,Q0,f5,e2,d9,f1,c1.out.trans f0⟩
       case measure=>simp[intOf];omega
   ·obtain rfl:i=0:=Q0
    have z:=s.out.done (.inl rfl);have U:=Aa z;clear z
    go_wp2_with fail
    go_end0
    exact⟨rfl,c,U.out,r.out,T.out,b3.out⟩
theorem Aw.same{w':World}{h:List NP}(b:Aw w n (Qs m 0 k i) h)(j:w'.heap[m]?=w.heap[m]?):Aw w' n (Qs m 0 k i) h:=by
 refine⟨b.1,?_⟩;rcases b.2 with⟨e,_⟩|⟨p,o,l,e,f,g,rest⟩
 ·cases e
 ·injection e with a c d
  injection a with a
  injection a with a
  subst a;exact .inr ⟨m,o,l,by rw[c,d],f,j.trans g,rest⟩
theorem zmU(k:Nat)(w:World)(a b:Value)(h:Qg w k #[a,b] 245):(loadVar 245 ⟨k,0,none⟩).run Tryz.prog w=.ok (.agg #[a,b]) w:=by
 have c:=(Ae h 0).trans rfl;have d:=(Ae h 1).trans rfl
 go_simp
theorem zv5{t:TypeId}(h:Qg w n #[x,y] t)(a b:Value):Qg ((w.setCell ⟨n,0,none⟩ a).setCell ⟨n,1,none⟩ b) n #[a,b] t:=by
 have c:=Ak (Ak h 0 a) 1 b;simpa using c
theorem zuk{h:List NP}{f b:NP}
 (y:Aw w (n+1) (Qs m 0 k i) h) (v:j<h.length) (x:a<h.length) (t:gP h j=f) (u:gP h a=b) (d:n<m) (l:∃A,Qg w m A 245) (W:World)
 (s:W=(((((w.setCell ⟨m,j*2,none⟩ (Qi (b.1:Int))).setCell ⟨m,j*2+1,none⟩ (Qi (b.2:Int))).setCell ⟨m,a*2,none⟩ (Qi (f.1:Int))).setCell ⟨m,a*2+1,none⟩ (Qi (f.2:Int))).drew)) :
 Aw W (n+1) (Qs m 0 k i) (I6 h j a)/\AF n w W/\∀c,c≠m->W.heap[c]?=w.heap[c]?:=by
 subst s t u;have q:=y.put j (gP h a) v;have r:=q.put a (gP h j) (by rw[Jm];exact x)
 refine⟨r,?_,λc e=>?_⟩
 ·have o:=Np l (j*2) (Qi ((gP h a).1:Int))
  have p:=Np o (j*2+1) (Qi ((gP h a).2:Int));have z:=Np p (a*2) (Qi ((gP h j).1:Int));have g:=(((AF.set d l (j*2) (Qi ((gP h a).1:Int))).trans (AF.set d o (j*2+1) (Qi ((gP h a).2:Int)))).trans (AF.set d p (a*2) (Qi ((gP h j).1:Int)))).trans (AF.set d z (a*2+1) (Qi ((gP h j).2:Int)));exact⟨g.bel.drew,g.size,g.other⟩
 ·show(((((w.setCell _ _).setCell _ _).setCell _ _).setCell _ _)).heap[c]?=_
  rw[Bg _ _ _ _ e,Bg _ _ _ _ e,Bg _ _ _ _ e,Bg _ _ _ _ e]
set_option maxHeartbeats 12800000 in
theorem zvO(w:World)(c:Nat)(h:List NP)(hq:Eo w c h)(hh:Ci h)(hl:h.length<=1000)(V:0<h.length) :
 Qk 141 #[Qp c 0] w λe a2=>e=.returned (.agg #[Qi ((gP h 0).1:Int),Qi ((gP h 0).2:Int)])/\∃b,Ci b/\(gP h 0::b).Perm h/\Eo a2 c b/\AF c w a2:=by
 obtain⟨K,b2⟩:=Qe (w.alloc (.cells #[Qi 0,Qi 0] 245));obtain⟨l,b6⟩:=Qe w.heap.size;have b0:Qb w K:=by rw[<-b2];exact(Ag _ _).alloc (Af _) _
 have h6:Qg K l #[Qi 0,Qi 0] 245:=by rw[<-b2];exact Am _ _ _ b6.symm
 have l5:K.heap.size=l+1:=by rw[<-b2,<-b6];simp
 have i5:c<l:=by
  obtain⟨v,B,_⟩:=hq.ex;have:=Aj B;omega
 have e4:Hid (AF c w K):=AF.below Q0 b0
 obtain⟨g,m,i6,d8⟩:=hq.row V
 have o8:g<l:=by
  have:=d8.place V;obtain⟨Q,Z,n,-,-,-,p1,-⟩:=this;injection n with d W y
  injection d with d
  injection d with d
  omega
 have M:=(b0.block c Q0).trans i6
 have b7:=d8.below b0;obtain⟨N,T⟩:∃N,h.length=N+1:=⟨h.length-1,Q0⟩
 rw[T] at M b7 hl;have l3:=b7.place Q0
 obtain⟨Q,Z,n,n1,n2,o7,G,H,s,t,-,-⟩:=l3;rw[T] at n n1;injection n with d W y
 injection d with d
 injection d with d
 subst d;subst y;unfold maxLen at n2;have a3:=Aa (zsl h V);have b9:=Aa (Ei.start hh V);have i4:(Ii h).length=N:=by rw[YU];omega
 obtain⟨a,ha⟩:=Qe (gP h 0);obtain⟨z,hz⟩:=Qe (gP h N);obtain⟨c5,c6⟩:=s 0 Q0
 obtain⟨f7,f8⟩:=s N Q0
 rw[ha] at c5 c6 a3 |-;rw[hz] at f7 f8;have j3:Ii h=(h.set 0 z).take N:=by unfold Ii;rw[T,Mm,hz]
 have e6:=Aa j3;have g3:=t (0*2);have g4:=t (0*2+1);have X:=(Ae M 0).trans rfl;have Y:=(Ae M 1).trans rfl;have k8:=Ah M 0;have f0:=Aa M;have f5:=Aa b7;have c0:=Aa H;have f3:=Aa h6;have d0:c<g:=Q0
 have p6:IntKind.i64.wrap ((N:Int)+1-1)=(N:Int):=by rw[AU _ Q0];omega
 have p7:IntKind.i64.wrap (N:Int)=(N:Int):=AU _ Q0
 have p2:(0:Int)<=(N:Int):=Q0
 have p3:(N:Int)<(N:Int)+1:=Q0
 have p4:(0:Int)<(N:Int)+1:=Q0
 rw[Rj] at c5 g3;rw[Rj,DC] at c6 g4;have D:=Aa T;have j5:=Aa hz;clear M b7 hq s t hh j3 V H ha hz T i6 d8 b0 h6
 go_enter Tryz.func141,Tryz.ntmps141
 go_wp2_with fail
 have n4:=Aa b6;clear b2 b6
 go_cut [3,4] (λs3 s4 wx=>s3=Qp (l+1) 0/\s4=Qi (N:Int)/\Qg wx (l+1) #[Qi (a.1:Int),Qi (a.2:Int)] 245/\Qb K wx)
 case first =>
  go_region
  all_goals
   go_wp2_with fail
   go_meet
   exact⟨rfl,rfl,Am _ _ _ l5.symm,((Ag _ K).alloc (Af _) _).drew⟩
 case rest =>
  obtain⟨rfl,rfl,e1,S⟩:=hcut;have b4:=(S.block c Q0).trans f0.out
  have d4:=f5.out.below S;have i9:=(S.block l Q0).trans f3.out
  obtain⟨Q,Z,n,-,-,-,q4,j2,d6,d7,-,-⟩:=d4.place (by have:=D.out;omega)
  rw[D.out] at n;injection n with d W y
  injection d with d
  injection d with d
  subst d;subst y;obtain⟨f9,g0⟩:=d6 0 (by have:=D.out;omega)
  obtain⟨g1,g2⟩:=d6 N (by have:=D.out;omega)
  have g5:=d7 (0*2);have g6:=d7 (0*2+1);have l6:=(Ae b4 0).trans rfl;have l7:=(Ae b4 1).trans rfl;rw[j5.out] at g1 g2;rw[Rj] at f9 g5;rw[Rj,DC] at g0 g6;have n9:¬ g=c:=Q0
  have j1:¬ c=g:=Q0
  have r:=Aa e1;have e2:=Aa S;have f1:=Aa b4;have e8:=Aa d4;have f4:=Aa i9;have d5:=Aa j2;clear e1 S b4 d4 i9 j2 d6 d7 c5 c6 f7 f8 g3 g4 X Y k8 G
  go_wp2_with fail
  go_region
  have h1:Aw (((wc.setCell ⟨g,0,none⟩ (Qi (z.1:Int))).setCell ⟨g,1,none⟩ (Qi (z.2:Int))).drew) (c+1) (Qs g 0 (N+1) m) (h.set 0 z):=by
   have:=e8.out.put 0 z (by have:=D.out;omega)
   rw[Rj,DC] at this;exact this
  have g8:AF c wc (((wc.setCell ⟨g,0,none⟩ (Qi (z.1:Int))).setCell ⟨g,1,none⟩ (Qi (z.2:Int))).drew):=by
   have t1:=Np d5.out 0 (Qi (z.1:Int));have k4:=(AF.set d0 d5.out 0 (Qi (z.1:Int))).trans (AF.set d0 t1 1 (Qi (z.2:Int)));exact⟨k4.bel.drew,k4.size,k4.other⟩
  have b1:∀k,k≠g->(((wc.setCell ⟨g,0,none⟩ (Qi (z.1:Int))).setCell ⟨g,1,none⟩ (Qi (z.2:Int))).drew).heap[k]?=wc.heap[k]?:=λk hk=>by
   show((wc.setCell _ _).setCell _ _).heap[k]?=_
   rw[Bg _ _ _ _ hk,Bg _ _ _ _ hk]
  generalize(((wc.setCell ⟨g,0,none⟩ (Qi (z.1:Int))).setCell ⟨g,1,none⟩ (Qi (z.2:Int))).drew)=E at*
  have b3:=(b1 c j1).trans f1.out;have i8:=(b1 l Q0).trans f4.out
  have j0:=(b1 (l+1) Q0).trans r.out
  have l9:=(Ae b3 0).trans rfl;have l8:=Ah b3 0;obtain⟨Q,Z,n,-,-,-,-,-,-,-,-,h7⟩:=h1.place (by rw[Jm];have:=D.out;omega)
  rw[Jm,D.out] at n;injection n with d W y
  injection d with d
  injection d with d
  subst d;subst y;have c8:=h7 N (by rw[Jm];have:=D.out;omega)
  rw[<-e6.out] at c8
  have h3:Hid (Qg (E.setCell ⟨c,0,none⟩ (Qs g 0 N m)) c #[.slice (some ⟨g,0,none⟩) N m,.func (.func 139) #[] #[]] 249):=by
   show _=_
   have:=Ak b3 0 (Qs g 0 N m);simpa using this
  have c9:Hid (Aw (E.setCell ⟨c,0,none⟩ (Qs g 0 N m)) (c+1) (Qs g 0 N m) (Ii h)) :=
   Oa c8 (grownBy_setCell' E c (Qs g 0 N m)) (.inr (by simp[Value.ownBlock];omega))
  have h5:Hid (Qg (E.setCell ⟨c,0,none⟩ (Qs g 0 N m)) l #[Qi 0,Qi 0] 245):=(Bg _ _ _ _ (show l≠c by omega)).trans i8
  have h9:Hid (Qg (E.setCell ⟨c,0,none⟩ (Qs g 0 N m)) (l+1) #[Qi (a.1:Int),Qi (a.2:Int)] 245):=(Bg _ _ _ _ (show l+1≠c by omega)).trans j0
  have g9:Hid (AF c w (E.setCell ⟨c,0,none⟩ (Qs g 0 N m))):=((e4.out.trans (AF.below Q0 e2.out)).trans g8).trans (AF.setq 0 _)
  clear b1 h1 g8 b3 i8 j0 h7 c8 f9 g0 g1 g2 g5 g6 l6 l7 f1 e8 f4 r d5 e2 e4 f3 c0 f5 f0 e6
  go_wp2_with fail
  generalize E.setCell ⟨c,0,none⟩ (Qs g 0 N m)=n3 at*
  have A:=Ii h;have d2:=i4;obtain⟨h0,i2⟩:=Qe (Ii h);rw[i2] at c9 a3 b9 d2;clear i2 i4 l9 l8 A
  go_loopw [5] (λiv wr=>∃(i:Nat)(b:List NP),iv=Qi i/\i<=N/\b.length=N/\Hid (Ei b i)/\Hid ((a::b).Perm h)/\Hid (Qg wr c #[Qs g 0 N m,.func (.func 139) #[] #[]] 249)/\Hid (Aw wr (c+1) (Qs g 0 N m) b)/\Hid (Qg wr l #[Qi 0,Qi 0] 245)/\Hid (Qg wr (l+1) #[Qi (a.1:Int),Qi (a.2:Int)] 245)/\Hid (AF c w wr)) (λiv _=>N+1-(intOf iv).toNat)
  case atStart=>exact⟨0,h0,rfl,BI _,d2,b9,a3,h3,c9,h5,h9,g9⟩
  case round =>
   clear h3 c9 h5 h9 g9 b9 a3 d2;obtain⟨i,b,rfl,hi,d1,b8,e0,x,C,o,r,I⟩:=hrel;have p8:IntKind.i64.wrap (2*(i:Int))=2*(i:Int):=AU _ Q0
   have p9:IntKind.i64.wrap (2*(i:Int)+1)=2*(i:Int)+1:=AU _ Q0
   have q0:IntKind.i64.wrap (2*(i:Int)+2)=2*(i:Int)+2:=AU _ Q0
   go_wp2_with fail
   go_loopw [6,7] (λfv kv wr=>∃(f k:Nat),fv=Qi f/\kv=Qi k/\2*i+1<=k/\k<=2*i+3/\(f=i\/2*i+1<=f/\f<k/\f<N/\Cf (gP b f) (gP b i)=true)/\Hid (∀j,2*i+1<=j->j<k->j<N->Cf (gP b j) (gP b f)=false)/\Hid (Qg wr c #[Qs g 0 N m,.func (.func 139) #[] #[]] 249)/\Hid (Aw wr (c+1) (Qs g 0 N m) b)/\Hid (Qg wr l #[Qi 0,Qi 0] 245)/\Hid (Qg wr (l+1) #[Qi (a.1:Int),Qi (a.2:Int)] 245)/\Hid (AF c w wr)) (λ_ kv _=>2*i+4-(intOf kv).toNat)
   case atStart=>exact⟨i,2*i+1,rfl,by go_num,Q0,Q0,.inl rfl,λj A h2=>by omega,x,C,o,r,I⟩
   case round =>
    clear x C o r I;obtain⟨f,k,rfl,rfl,l1,o9,U,O,x,C,o,r,I⟩:=hrel
    by_cases i3:k<=2*i+2/\k<N
    ·as_aux_lemma =>
     obtain⟨q7,n0⟩:=i3;have o5:f<N:=Q0
     have o1:0<N:=Q0
     obtain⟨Q,Z,n,-,-,-,G,H,s,t,-,-⟩:=C.out.place Q0
     rw[d1] at n;injection n with d W y
     injection d with d
     injection d with d
     subst d;subst y;obtain⟨a8,a9⟩:=s k Q0
     obtain⟨a6,a7⟩:=s f Q0
     have X:=(Ae x.out 0).trans rfl;have Y:=(Ae x.out 1).trans rfl;have b5:=Aj x.out;have q8:(0:Int)<=(k:Int):=Q0
     have q9:(k:Int)<(N:Int):=Q0
     have m0:(0:Int)<=(f:Int):=Q0
     have m9:(f:Int)<(N:Int):=Q0
     have p0:(k:Int)<=2*(i:Int)+2:=Q0
     have q1:IntKind.i64.wrap ((k:Int)+1)=(k:Int)+1:=AU _ Q0
     have a1:Hid (∀a0,Qk 139 #[.agg #[Qi ((gP b k).1:Int),Qi ((gP b k).2:Int)],.agg #[Qi ((gP b f).1:Int),Qi ((gP b f).2:Int)]] a0 λe a2=>e=.returned (.bool (Cf (gP b k) (gP b f)))/\Qb a0 a2):=λa0=>znR a0 _ _
     have a5:Hid (∀{q:World},Qb wr q->Qc q c 0 (Qs g 0 N m)/\Qc q c 1 (.func (.func 139) #[] #[])/\Qc q g (k*2) (Qi ((gP b k).1:Int))/\Qc q g (k*2+1) (Qi ((gP b k).2:Int))/\Qc q g (f*2) (Qi ((gP b f).1:Int))/\Qc q g (f*2+1) (Qi ((gP b f).2:Int))):=λh =>
      ⟨(h.cell (p:=⟨c,0,none⟩) b5).trans X,(h.cell (p:=⟨c,1,none⟩) b5).trans Y,(h.cell (p:=⟨g,k*2,none⟩) G).trans a8,(h.cell (p:=⟨g,k*2+1,none⟩) G).trans a9,(h.cell (p:=⟨g,f*2,none⟩) G).trans a6,(h.cell (p:=⟨g,f*2+1,none⟩) G).trans a7⟩
     have i7:Qb wr wr:=Ag _ _;obtain⟨u,F⟩:=Qe (gP b k);obtain⟨v,B⟩:=Qe (gP b f);rw[F] at a8 a9 a1 a5;rw[B] at a6 a7 a1 a5 O U;obtain⟨j4,hr⟩:=Qe (Cf u v);rw[hr] at a1;have P:=Aa F;have J:=Aa B;have a4:=Aa hr;have d9:=Aa U;clear H s t F B hr U
     go_wp2_with fail
     go_region_held3 (λq=>Qc q c 0 (Qs g 0 N m)/\Qc q c 1 (.func (.func 139) #[] #[])/\Qc q g (k*2) (Qi (u.1:Int))/\Qc q g (k*2+1) (Qi (u.2:Int))/\Qc q g (f*2) (Qi (v.1:Int))/\Qc q g (f*2+1) (Qi (v.2:Int)))
      ((first|exact a5.out i7.drew|exact a5.out L.out|fail))
      ((first
        |(go_at_call 139
          refine(a1.out _).mono ?_;rintro e w8 ⟨rfl,g7⟩;have L:=Aa (znU g7 i7.drew);clear g7)
        |fail))
     all_goals
      have e5:=Aa (I.out.trans (AF.below (KI b5) L.out));have e9:=Aa ((L.out.block c b5).trans x.out);have e7:=Aa (C.out.below L.out);have f2:=Aa ((L.out.block l (Aj o.out)).trans o.out);have f6:=Aa ((L.out.block (l+1) (Aj r.out)).trans r.out);cases j4 with
      | true =>
        have d3:k=i\/2*i+1<=k/\k<k+1/\k<N/\Cf (gP b k) (gP b i)=true:=by
         refine .inr ⟨l1,Q0,n0,?_⟩
         rw[P.out];rcases d9.out with e|⟨_,_,_,e⟩
         ·rw[<-e,J.out];exact a4.out
         ·exact TS a4.out e
        have c4:Hid (∀j,2*i+1<=j->j<k+1->j<N->Cf (gP b j) (gP b k)=false):=λj A h2 R=>by
         by_cases e:j=k
         ·subst e;rw[OZ];omega
         ·rw[P.out]
          exact Un (Ql a4.out) (O.out j A Q0 R)
        clear a8 a9 a6 a7 X Y
        go_wp2_with fail
        go_roundw
        case rel=>exact⟨k,k+1,rfl,by go_num,Q0,Q0,d3,c4,e9,e7,f2,f6,e5⟩
        case measure=>simp[intOf];omega
      | false =>
        have d3:f=i\/2*i+1<=f/\f<k+1/\f<N/\Cf (gP b f) (gP b i)=true:=by
         rcases d9.out with e|⟨A,h2,R,h4⟩
         ·exact .inl e
         ·exact .inr ⟨A,Q0,R,by rw[J.out];exact h4⟩
        have c4:Hid (∀j,2*i+1<=j->j<k+1->j<N->Cf (gP b j) (gP b f)=false):=λj A h2 R=>by
         by_cases e:j=k
         ·subst e;rw[P.out,J.out];exact a4.out
         ·rw[J.out];exact O.out j A Q0 R
        clear a8 a9 a6 a7 X Y
        go_wp2_with fail
        go_roundw
        case rel=>exact⟨f,k+1,rfl,by go_num,Q0,Q0,d3,c4,e9,e7,f2,f6,e5⟩
        case measure=>simp[intOf];omega
    ·as_aux_lemma =>
     have c3:Hid (∀j,0<j->j<b.length->(j-1)/ 2=i->Cf (gP b j) (gP b f)=false):=λj h0 A h2=>O.out j Q0 Q0 Q0
     have e3:Hid (2*(i:Int)+2<(k:Int)\/(k:Int)<=2*(i:Int)+2/\(N:Int)<=(k:Int)):=by
      show _\/_
      omega
     clear i3 O
     by_cases i1:f=i
     ·subst i1
      have j6:Hid (Ci b):=b8.out.done c3.out;have x0:=(Ae r.out 0).trans rfl;have x1:=(Ae r.out 1).trans rfl;have r0:=(Ae o.out 0).trans rfl;have r1:=(Ae o.out 1).trans rfl;have q2:=Ah o.out 0;have q3:=Ah o.out 1;have p5:=Aj o.out;have l4:=zv5 o.out (Qi (a.1:Int)) (Qi (a.2:Int));have k2:=Aa l4
      have k1:Hid (Eo ((wr.setCell ⟨l,0,none⟩ (Qi (a.1:Int))).setCell ⟨l,1,none⟩ (Qi (a.2:Int))) c b) :=
       ⟨Qs g 0 N m,by rw[Bg _ _ _ _ (show c≠l by omega),Bg _ _ _ _ (show c≠l by omega)];exact x.out,C.out.same (by rw[Bg _ _ _ _ (show g≠l by omega),Bg _ _ _ _ (show g≠l by omega)])⟩
      have j9:Hid (AF c w ((wr.setCell ⟨l,0,none⟩ (Qi (a.1:Int))).setCell ⟨l,1,none⟩ (Qi (a.2:Int)))) :=
       (I.out.trans (AF.set i5 ⟨_,o.out⟩ 0 _)).trans (AF.set i5 (Np ⟨_,o.out⟩ 0 _) 1 _)
      rcases e3.out with c1|⟨c1,c2⟩
      all_goals
       go_wp2_with fail
       refine BV (L7 rfl _ _ _ ⟨l,0,none⟩ _ rfl (zmU _ _ _ _ k2.out)) rfl ?_;exact⟨rfl,b,j6.out,e0.out,k1.out,j9.out⟩
     ·obtain⟨o2,o3,o4,i0⟩:2*i+1<=f/\f<k/\f<N/\Cf (gP b f) (gP b i)=true:=by
       rcases U with e|e
       ·exact absurd e i1
       ·exact e
      have o6:((f:Int)==(i:Int))=false:=by rw[Ez];omega
      have j8:Hid (Ei (I6 b i f) f):=b8.out.step Q0 Q0 Q0 i0 c3.out
      have k0:Hid ((a::I6 b i f).Perm h):=((Z8 b i f Q0 Q0 Q0).cons a).trans e0.out
      have l2:(I6 b i f).length=N:=by rw[OC,d1]
      obtain⟨Q,Z,n,-,-,-,G,H,s,t,-,-⟩:=C.out.place Q0
      rw[d1] at n;injection n with d W y
      injection d with d
      injection d with d
      subst d;subst y;obtain⟨u,F⟩:=Qe (gP b i);obtain⟨v,B⟩:=Qe (gP b f);obtain⟨k6,k7⟩:=s i Q0
      obtain⟨k3,k5⟩:=s f Q0
      rw[F] at k6 k7;rw[B] at k3 k5;have P:=Aa F;have J:=Aa B;have n7:=t (i*2);have n8:=t (i*2+1);have n5:=t (f*2);have n6:=t (f*2+1);have o0:=(Ae x.out 0).trans rfl;have q5:(0:Int)<=(i:Int):=Q0
      have q6:(i:Int)<(N:Int):=Q0
      have m0:(0:Int)<=(f:Int):=Q0
      have m9:(f:Int)<(N:Int):=Q0
      have m1:¬ i*2=f*2:=Q0
      have m2:¬ i*2+1=f*2:=Q0
      have m3:¬ i*2=f*2+1:=Q0
      have m4:¬ i*2+1=f*2+1:=Q0
      have m5:¬ f*2=i*2:=Q0
      have m6:¬ f*2+1=i*2:=Q0
      have m7:¬ f*2=i*2+1:=Q0
      have m8:¬ f*2+1=i*2+1:=Q0
      have c0:=Aa H;clear H s t U i0 F B b8 c3;rcases e3.out with c1|⟨c1,c2⟩
      all_goals
       go_wp2_with fail
       go_region
       go_wp2_with fail
       obtain⟨j7,h8⟩:=Qe ((((((wr.setCell ⟨g,i*2,none⟩ (Qi (v.1:Int))).setCell ⟨g,i*2+1,none⟩ (Qi (v.2:Int))).setCell ⟨g,f*2,none⟩ (Qi (u.1:Int))).setCell ⟨g,f*2+1,none⟩ (Qi (u.2:Int))).drew));obtain⟨l0,k9,c7⟩:=zuk C.out (show i<b.length by omega) (show f<b.length by omega) P.out J.out d0 c0.out j7 h8.symm
       rw[h8]
       go_roundw
       case rel=>exact⟨f,I6 b i f,rfl,Q0,l2,j8,k0,(c7 c j1).trans x.out,l0,(c7 l Q0).trans o.out,(c7 (l+1) Q0).trans r.out,I.out.trans k9⟩
       case measure=>simp[intOf];omega
