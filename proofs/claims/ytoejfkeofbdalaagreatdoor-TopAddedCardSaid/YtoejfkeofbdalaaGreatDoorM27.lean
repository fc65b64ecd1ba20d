import Derived.Test.YtoejfkeofbdalaaGreatDoorM21
import Derived.Test.YtoejfkeofbdalaaGreatDoorM13
import Derived.Test.YtoejfkeofbdalaaGreatDoorM11
import Derived.Test.YtoejfkeofbdalaaGreatDoorM15
set_option linter.all false
set_option maxRecDepth 100000
set_option maxHeartbeats 8000000
namespace Go.Proofs.YtoejfkeofbdalaaGreatDoor
open Go.RowKit Go.Shelf
attribute [local go_sem] Oper.semAt_some
variable {l:List Int} {m:Nat} {w:World}
def GI(w:World)(b B:Nat)(m:List Int)(a:List Ch)(W:World):Prop:=∃(L:List SV)(v:Value),L.map (·.2)=a.map (λx=>Cv m x.1)/\Qg W B #[v] 113/\AC W b v L/\Qb w W
theorem GI.own{base:Nat}{D:Nat}(j:w.heap.size<=D):OwnFrom D (GI w base m l):=λs X Y p n b c=>by
 obtain⟨L,v,h,a,i,d⟩:=n;refine⟨L,v,h,(b.block m (Aj a) (λg=>?_)).trans a,i.quiet b λr e=>(c r e).2,d.grown b d.size (λr e=>BU j (c r e).1)⟩;obtain⟨_,o,f,k⟩:=c m g.symm;rw[a] at f;cases f
 cases k
theorem zp5{P:Program}{a:Array Oper}{Q:Exit->Act->World->Prop}{b:Region.Mode}{S:World->Prop}(i j:Nat){e f:Oper}{n:Nat}{c:Array Bool}{o:Act}{w:World}(k:a[i]?=some e)(l:a[j]?=some f)
 (m:Region.ready b a c=[i,j]) (p:Region.wanted e (yielded a o.tmps)=true) (q:Region.wanted f (yielded a o.tmps)=true)
 (g:∀K:Act->World->Prop,Shut (∀o w,S w->(S w->wpAnyH P b a Q S n (c.setIfInBounds i true) o w)->K o w)->Oper.wp P e o w K Q)
 (h:∀K:Act->World->Prop,Shut (∀o w,S w->(S w->wpAnyH P b a Q S n (c.setIfInBounds j true) o w)->K o w)->Oper.wp P f o w K Q) :
 wpAnyH P b a Q S (n+1) c o w :=
 wpAnyH_ready m Q6 (AllReadyH.cons k (λK d=>by rw[if_pos p];exact g K d) (AllReadyH.cons l (λK d=>by rw[if_pos q];exact h K d) AllReadyH.nil))
theorem Wd{v u f M:World}{n k i j g:Nat}{I:List Ch}{L:List SV}{x:Value}{A z R:Option Addr}(O:L.map (·.2)=I.map (λK=>Cv l K.1))(W:Qg v m #[x] 113)(a2:AC v n x L)(G:Qb w v)(a0:n<=v.heap.size)
 (B:Below v.drew.heap.size v.drew u) (C:(u.alloc (.cells #[.slice A (Cv l k).length j] 67)).grownBy f x.ownBlock)
 (D:(u.alloc (.cells #[.slice A (Cv l k).length j] 67)).ownsRow n 67 1 x L.length (L.map (·.1)))
 (X:AC f n (.slice z (L.length+1) g) (L++[(.slice A (Cv l k).length j,Cv l k)])) (V:Qg f m #[x] 113) (U:i=L.length+1) (Y:w.heap.size=m) (a4:n=m+3) {a:Act} :
 ownPostG M.heap.size (Ao (λk=>k=m\/n<=k)) (GI w n m l) (λ_ _ _=>False) (I++[(k,.slice R (Cv l k).length (Cv l k).length)]) v Exit.normal a (f.setCell ⟨m,0,none⟩ (.slice z i g)):=by
 subst U;have a1:=Aj W;have a3:v.heap.size<=u.heap.size:=B.size
 have Q:KeepsOthers v (f.setCell ⟨m,0,none⟩ (.slice z (L.length+1) g)):=by
  refine((((KeepsOthers.drew v).trans (Vv (TE B) (λJ o e=>by cases e))).trans (Ti u _)).trans (Vv C (λJ o N y=>?_))).trans (FO _ _ _)
  obtain⟨c,P⟩:=Gr D N;rw[P] at y;injection y with y
  subst y;rfl
 refine⟨Q.from _,λb E t F H h=>?_,L++[(.slice A (Cv l k).length j,Cv l k)],_,?_,?_,X.far Q0,?_⟩
 ·have S:b≠m:=λe=>H (.inl e)
  have Z:b<n:=by
   rcases Gb b n with d|d
   ·exact d
   ·exact absurd (.inr d) H
  have T:=Aj h;have q:Qh u b (.cells E t F):=(B.block b T).trans h;have s:Qh (u.alloc (.cells #[.slice A (Cv l k).length j] 67)) b (.cells E t F):=Bb _ q;exact(Bg _ _ _ _ S).trans ((C.block b (Aj s) (λe=>by have:=Dm D e.symm;omega)).trans s)
 ·rw[D3,D3,O]
  rfl
 ·have:=Ak V 0 (.slice z (L.length+1) g)
  simpa using this
 ·have d:Qb w u:=G.drew.trans (B.mono G.size)
  have q:=d.alloc d.size (.cells #[.slice A (Cv l k).length j] 67);have s:=q.grown C q.size (λr e=>by have:=Dm D e;omega)
  exact s.setCell (p:=⟨m,0,none⟩) (by show w.heap.size<=m;omega) _
def N7(m:List Int):List (List Int):=(List.range (Cs m.length)).map (Cv m)
theorem ZE(w:World)(v:Value)(m:List Int)(V:Ac w w.heap.size v m)(hm:m.length<=1000000) :
 Qk 61 #[v] w λe a4=>∃(L:List SV)(q:Option Addr)(c:Nat),e=.returned (.slice q L.length c)/\AC a4 w.heap.size (.slice q L.length c) L/\L.map (·.2)=N7 m/\Qb w a4:=by
 obtain⟨A,y,rfl,d0,e7⟩:=V.shape;obtain⟨D,e2⟩:∃D:Nat,8<=D:=⟨8,Q0⟩
 have c5:1<=D:=Q0
 have b0:=Aa V;obtain⟨N,a3⟩:=Qe m.length;rw[a3] at V d0 b0;have e0:=Aa a3;rw[a3];clear V;refine(Em (n:=D)).1 ?_;refine Lr Tryz.func61 rfl trivial ?_ rfl;simp only[Tryz.ntmps61,F6,Bt,D4,Nat.reduceAdd,Nat.reduceSub,GM,GL,GQ,GN,C6,Di]
 gi_wp2_with fail
 refine⟨trivial,(Em.2 (zvo _ A N y)).mono ?_⟩;rintro e a4 ⟨rfl,rfl⟩
 gi_wp2_with fail
 obtain⟨B,Q⟩:=Qe w.heap.size;have b1:Qb w (((w.alloc (.cells #[.slice none 0 0] 113)).alloc (.cells #[.slice A N y] 67)).alloc (.cells #[Qi 10] 3)):=(((Ag _ _).alloc (Af _) _).alloc Q6 _).alloc Q4 _
 have X:Qg (((w.alloc (.cells #[.slice none 0 0] 113)).alloc (.cells #[.slice A N y] 67)).alloc (.cells #[Qi 10] 3)) w.heap.size #[.slice none 0 0] 113:=Bb _ (Bb _ (Am _ _ _ rfl));have Y:Qg (((w.alloc (.cells #[.slice none 0 0] 113)).alloc (.cells #[.slice A N y] 67)).alloc (.cells #[Qi 10] 3)) (w.heap.size+1) #[.slice A N y] 67:=Bb _ (Am _ _ _ Q6)
 have Z:Qg (((w.alloc (.cells #[.slice none 0 0] 113)).alloc (.cells #[.slice A N y] 67)).alloc (.cells #[Qi 10] 3)) (w.heap.size+1+1) #[Qi 10] 3:=Am _ _ _ Q6
 have c9:(((w.alloc (.cells #[.slice none 0 0] 113)).alloc (.cells #[.slice A N y] 67)).alloc (.cells #[Qi 10] 3)).heap.size=w.heap.size+3:=by simp
 rw[Q] at X Y Z c9 |-;generalize((w.alloc (.cells #[.slice none 0 0] 113)).alloc (.cells #[.slice A N y] 67)).alloc (.cells #[Qi 10] 3)=c2 at*
 have a0:=b0.out.below b1 (Af _);rw[Q] at a0;obtain⟨s,a8⟩:∃s,s=B+3:=⟨_,rfl⟩;have c6:B<s:=Q0
 have d3:m.length<=1000000:=hm;have a7:=zv6 (D-1) Q0 (B+1) (B+1+1) B m d3 (λk=>k=B\/s<=k) (.slice A N y) c2 a0 Q0 ((Ae Y 0).trans rfl) ((Ae Z 0).trans rfl) (λk I=>by rcases I with I|I<;>omega)
 refine Xh (n:=D) c5 (gf:=172) (lb:=#[.pointer (some ⟨B+1,0,none⟩),.pointer (some ⟨B+1+1,0,none⟩)]) rfl zme (encs:=Pq) (λ_=>rfl) (NS m B) (λk=>k=B\/s<=k)
  a7 (Ag _ _) (GI w s B m) (λ_ _ _=>False) (GI.own Q0) (λ_ _ _ _ _ h _ _=>h)
  ⟨[],.slice none 0 0,rfl,X,AC.nil _ _,b1⟩
  (λx a1 W=>a1 = { tmps:=#[.slice A N y,undef,.pointer (some ⟨B,0,none⟩),x.2,.slice A N y,.func (.func 172) #[] #[.pointer (some ⟨B+1,0,none⟩),.pointer (some ⟨B+1+1,0,none⟩)],x.2,undef,undef,undef,undef,undef,undef],defers:=[] }/\NS m B x W)
  (λx a1 d9 W e1 e8 h d1 hr=>⟨h.1,h.2.1,znq h.2.2.1 d1 (λa9 e=>(hr a9 e).2),h.2.2.2⟩)
  ?assign ?body ?done ?stop
 case assign =>
  intro c1 b9 x W K hi d4 d2 b;obtain⟨k,v⟩:=x;simp only[Pq]
  gi_wp2_with fail
  exact b _ _ (Pz _ _) (Ao.refl _ _) hi ⟨rfl,d4⟩
 case body =>
  rintro c1 b9 x a1 W ⟨L,l,H,t,C,P⟩ ⟨rfl,I,a2,q1,b8⟩ d2 e9;obtain⟨k,vx⟩:=x
  dsimp only at I a2 b8
  subst b8;have J:=Aj t;have b3:Qc W.drew B 0 l:=Ae t 0;have b2:Ac W.drew W.drew.heap.size (.slice q1 (Cv m k).length (Cv m k).length) (Cv m k):=a2
  have b6:0<(Cv m k).length:=by
   rw[RC];have:=(Qv m.length k).2 I;omega
  have e6:s<=W.heap.size:=Q0
  have e4:L.length<=1000000:=by
   have:=Co List.length H;rw[Da,Da] at this;have h2:Cs m.length<=1000000:=by unfold Cs;omega
   omega
  clear X Y Z a0 a7 a2
  gi_wp2_with fail
  refine Ye (S:=λ_=>True) Q2 Q2 (λ_=>?_) trivial
  refine EX (v:=?_) 1 Q1 Q2 (λ_ _ _ h=>h) Q7 trivial ?_ ?_
  rotate_left
  ·(intro w e5;go_simp;try with_reducible rfl)
  try simp only[Act.put,AO,AR,AL]
  refine zp5 0 2 (by simp only[JM,Lh];rfl) Q1 Q2 Q7 Q7 (λK b=>?_) (λK b=>?_)
  ·go_simp
   refine b.out _ _ trivial (λ_=>?_);clear b K
   try simp only[Act.put,AO,AR,AL]
   refine Jp 2 Q1 Q2 Q7 (λK b=>?_)
   go_simp
   refine(WD _ _ (Cv m k) b2 b6 (by rw[RC];omega)).mono ?_
   rintro e d ⟨j,f,rfl,M,o⟩;have R:Qc d B 0 l:=(o.cell (p:=⟨B,0,none⟩) J).trans b3;have a6:=o.size;rw[show W.drew.heap.size=W.heap.size from rfl] at a6 M
   have c8:Qc (d.alloc (.cells #[.slice j (Cv m k).length f] 67)) B 0 l:=(((Ag d.heap.size d).alloc (Af _) (.cells #[.slice j (Cv m k).length f] 67)).cell (p:=⟨B,0,none⟩) (by show B<_;omega)).trans R
   refine b.out _ _ trivial (λ_=>?_);clear b K
   try simp only[Act.put,AO,AR,AL]
   refine Jp 3 Q1 Q2 Q7 (λK b=>?_)
   go_simp
   refine b.out _ _ trivial (λ_=>?_);clear b K
   try simp only[Act.put,AO,AR,AL]
   refine Jp 4 Q1 Q2 Q7 (λK b=>?_)
   have T:Qg (d.alloc (.cells #[.slice j (Cv m k).length f] 67)) d.heap.size #[.slice j (Cv m k).length f] 67:=Am _ _ _ rfl;have z:AC (d.alloc (.cells #[.slice j (Cv m k).length f] 67)) s l L:=(C.below (Ay (A9 o (Cq (Ag _ _))) _));refine VG _ _ Q7 s l L Q7 z d.heap.size (.slice j (Cv m k).length f,Cv m k) Q7 T ((M.mono Q0).alloc _) Q0 Q4 ?_
   intro q4 c4 E U G;have F:Qg (d.alloc (.cells #[.slice j (Cv m k).length f] 67)) B #[l] 113:=Bb _ ((o.block B J).trans t);have r:Qg E B #[l] 113:=(G.block B (Aj F) (λe=>by have:=Dm z.own e.symm;omega)).trans F
   have b4:Qc E B 0 l:=Ae r 0;have b5:=Ah r 0;have c0:=Aj r;refine b.out _ _ trivial (λ_=>?_);clear b K
   try simp only[Act.put,AO,AR,AL]
   refine Jp 5 Q1 Q2 Q7 (λK b=>?_)
   go_simp
   refine b.out _ _ trivial (λ_=>?_);clear b K
   try simp only[Act.put,AO,AR,AL]
   refine wpAnyH_done Q2 ?_ _
   refine Bc.normal ?_;exact Wd (a:={ tmps:=#[],defers:=[] }) H t C P Q0 o G z.own U r rfl Q a8
  ·go_simp
   refine(WD _ _ (Cv m k) b2 b6 (by rw[RC];omega)).mono ?_
   rintro e d ⟨j,f,rfl,M,o⟩;have R:Qc d B 0 l:=(o.cell (p:=⟨B,0,none⟩) J).trans b3;have a6:=o.size;rw[show W.drew.heap.size=W.heap.size from rfl] at a6 M
   have c8:Qc (d.alloc (.cells #[.slice j (Cv m k).length f] 67)) B 0 l:=(((Ag d.heap.size d).alloc (Af _) (.cells #[.slice j (Cv m k).length f] 67)).cell (p:=⟨B,0,none⟩) (by show B<_;omega)).trans R
   refine b.out _ _ trivial (λ_=>?_);clear b K
   try simp only[Act.put,AO,AR,AL]
   refine zp5 0 3 (by simp only[JM,Lh];rfl) Q1 Q2 Q7 Q7 (λK b=>?_) (λK b=>?_)
   ·go_simp
    refine b.out _ _ trivial (λ_=>?_);clear b K
    try simp only[Act.put,AO,AR,AL]
    refine Jp 3 Q1 Q2 Q7 (λK b=>?_)
    go_simp
    refine b.out _ _ trivial (λ_=>?_);clear b K
    try simp only[Act.put,AO,AR,AL]
    refine Jp 4 Q1 Q2 Q7 (λK b=>?_)
    have T:Qg (d.alloc (.cells #[.slice j (Cv m k).length f] 67)) d.heap.size #[.slice j (Cv m k).length f] 67:=Am _ _ _ rfl;have z:AC (d.alloc (.cells #[.slice j (Cv m k).length f] 67)) s l L:=(C.below (Ay (A9 o (Cq (Ag _ _))) _));refine VG _ _ Q7 s l L Q7 z d.heap.size (.slice j (Cv m k).length f,Cv m k) Q7 T ((M.mono Q0).alloc _) Q0 Q4 ?_
    intro q4 c4 E U G;have F:Qg (d.alloc (.cells #[.slice j (Cv m k).length f] 67)) B #[l] 113:=Bb _ ((o.block B J).trans t);have r:Qg E B #[l] 113:=(G.block B (Aj F) (λe=>by have:=Dm z.own e.symm;omega)).trans F
    have b4:Qc E B 0 l:=Ae r 0;have b5:=Ah r 0;have c0:=Aj r;refine b.out _ _ trivial (λ_=>?_);clear b K
    try simp only[Act.put,AO,AR,AL]
    refine Jp 5 Q1 Q2 Q7 (λK b=>?_)
    go_simp
    refine b.out _ _ trivial (λ_=>?_);clear b K
    try simp only[Act.put,AO,AR,AL]
    refine wpAnyH_done Q2 ?_ _
    refine Bc.normal ?_;exact Wd (a:={ tmps:=#[],defers:=[] }) H t C P Q0 o G z.own U r rfl Q a8
   ·go_simp
    refine b.out _ _ trivial (λ_=>?_);clear b K
    try simp only[Act.put,AO,AR,AL]
    refine Jp 0 (by simp only[JM,Lh];rfl) Q2 Q7 (λK b=>?_)
    go_simp
    refine b.out _ _ trivial (λ_=>?_);clear b K
    try simp only[Act.put,AO,AR,AL]
    refine Jp 4 Q1 Q2 Q7 (λK b=>?_)
    have T:Qg (d.alloc (.cells #[.slice j (Cv m k).length f] 67)) d.heap.size #[.slice j (Cv m k).length f] 67:=Am _ _ _ rfl;have z:AC (d.alloc (.cells #[.slice j (Cv m k).length f] 67)) s l L:=(C.below (Ay (A9 o (Cq (Ag _ _))) _));refine VG _ _ Q7 s l L Q7 z d.heap.size (.slice j (Cv m k).length f,Cv m k) Q7 T ((M.mono Q0).alloc _) Q0 Q4 ?_
    intro q4 c4 E U G;have F:Qg (d.alloc (.cells #[.slice j (Cv m k).length f] 67)) B #[l] 113:=Bb _ ((o.block B J).trans t);have r:Qg E B #[l] 113:=(G.block B (Aj F) (λe=>by have:=Dm z.own e.symm;omega)).trans F
    have b4:Qc E B 0 l:=Ae r 0;have b5:=Ah r 0;have c0:=Aj r;refine b.out _ _ trivial (λ_=>?_);clear b K
    try simp only[Act.put,AO,AR,AL]
    refine Jp 5 Q1 Q2 Q7 (λK b=>?_)
    go_simp
    refine b.out _ _ trivial (λ_=>?_);clear b K
    try simp only[Act.put,AO,AR,AL]
    refine wpAnyH_done Q2 ?_ _
    refine Bc.normal ?_;exact Wd (a:={ tmps:=#[],defers:=[] }) H t C P Q0 o G z.own U r rfl Q a8
 case done =>
  rintro O xs W e3 c3 ⟨L,v,H,t,C,P⟩ b;have R:xs.map (·.1)=List.range (Cs m.length):=c3
  have c7:L.map (·.2)=N7 m:=by
   rw[H];unfold N7;rw[<-R,Gq];rfl
  obtain⟨q,c,rfl⟩:=C.shape;have hc:=(Ae t 0).trans rfl;have hf:=Ah t 0;have J:=Aj t;have b7:O≠B:=Q0
  clear X Y Z a0 a7
  gi_wp2_with fail
  have d7:Qg (W.setCell ⟨B,0,none⟩ (.slice q L.length c)) B #[.slice q L.length c] 113:=by
   have:=Ak t 0 (.slice q L.length c);simpa using this
  have a5:Qh (W.setCell ⟨B,0,none⟩ (.slice q L.length c)) O (.deferred (some [])):=by rw[Bg _ _ _ _ b7];exact b
  refine⟨Q6,.inl ⟨_,_,rfl,J9 a5,?_⟩⟩
  have d5:=C.far (g:=B) (i:=0) (u:=.slice q L.length c) c6;have d6:=d5.quiet (Mu _ O (.deferred none)) (λa9 e=>by injection e with e;subst e;exact⟨_,a5,rfl⟩)
  have d8:Qc ((W.setCell ⟨B,0,none⟩ (.slice q L.length c)).putObj O (.deferred none)) B 0 (.slice q L.length c):=(Ae ((GK (λe=>b7 e.symm)).trans d7) 0).trans rfl;refine⟨_,L7 rfl _ _ _ _ _ rfl (zsC _ _ _ d8),L,q,c,rfl,d6.mono Q0,c7,?_⟩
  exact P.trans (((Ag _ W).setCell (p:=⟨B,0,none⟩) (by show w.heap.size<=B;omega) _).trans (Kn (w:=w) (Af _) _ O _ _ Q0 a5 rfl rfl))
 case stop =>
  rintro D c b9 W _ _ h _;exact h.elim
end Go.Proofs.YtoejfkeofbdalaaGreatDoor
namespace Go.Proofs.YtoejfkeofbdalaaGreatDoor
open Go.RowKit
variable {f:List Nat} {i j k m n:Nat} {l:List Int} {v w:World} {x:Value}
theorem Ad.mine(h:Ad w n (Qs m 0 k i) l)(r:l.length=k)(d:0<k) :
 (∀j x,l[j]?=some x->Qc w m j (Qi x))/\(∀j,w.frozen? ⟨m,j,none⟩=false)/\(∀(j:Nat)(x:Int),Ad (w.setCell ⟨m,j,none⟩ (Qi x)) n (Qs m 0 k i) (l.set j x))/\n<=m/\m<w.heap.size:=by
 subst r;obtain⟨t,u,q,e,f,g,o,p⟩:=h.place d;injection q with a s c
 injection a with a
 injection a with a
 subst a c;refine⟨λj x b=>?_,o,λj x=>(p j x).1,e,f⟩;rw[g j (Cc.1 b).1,b];rfl
def Jd(f:Nat->Nat)(u:List Nat)(k:Nat):List Nat:=(u.take k).map f++u.drop k
theorem Zx(f:Nat->Nat)(u:List Nat)(k:Nat):(Jd f u k).length=u.length:=by simp[Jd];omega
theorem zmQ(f:Nat->Nat)(u:List Nat):Jd f u 0=u:=by simp[Jd]
theorem zp1(f:Nat->Nat)(u:List Nat)(k:Nat)(h:u.length<=k):Jd f u k=u.map f:=by simp[Jd,BR h,h]
theorem zpY(f:Nat->Nat)(u:List Nat)(k:Nat)(h:k<u.length):(Jd f u k)[k]?=u[k]?:=by
 unfold Jd;rw[F7 Q4,Kh]
 simp[Fs (KI h)]
theorem zp2(f:Nat->Nat)(u:List Nat)(k x:Nat)(h:u[k]?=some x):(Jd f u k).set k (f x)=Jd f u (k+1):=by
 have a:=(Cc.1 h).1;have b:=(Cc.1 h).2;unfold Jd;rw[List.set_append_right _ _ Q4,G7,h]
 rw[show k-((u.take k).map f).length=0 by simp;omega]
 rw[IJ a,b];simp
theorem UB(l:List Nat)(i n:Nat):(ints l).set i (n:Int)=ints (l.set i n):=by simp[ints,PI]
theorem RZ(l:List Nat)(i n:Nat)(h:l[i]?=some n):(ints l)[i]?=some (n:Int):=by simp[ints,h]
def Sz(w:World)(g n:Nat):Nat:=((List.range n).map λi=>(intOf ((w.cell? ⟨g,i,none⟩).getD (Qi 0))).toNat).sum
theorem znF(h:Ad w n (Qs m 0 k i) (ints f))(g:f.length=k)(c:0<k):Sz w m k=f.sum:=by
 have d:=(h.mine (by rw[Bj];exact g) c).1
 unfold Sz;congr 1
 apply KF
 intro a;rw[EA]
 by_cases e:a<k
 ·rw[Ji e]
  have b:f[a]?=some f[a]:=Az Q0
  rw[b,Iz,d a _ (RZ f a _ b)];simp[intOf]
 ·rw[EU Q4,EU Q0]
  rfl
def G8(u:List Nat):List Nat:=u.map λx=>max x 1
theorem Rt(u:List Nat):(G8 u).length=u.length:=by simp[G8]
theorem ZT(u:List Nat):∀x∈G8 u,1<=x:=by
 intro x a;simp only[G8,C8] at a;obtain⟨y,_,rfl⟩:=a;omega
theorem zAm(l:List Nat)(b:Nat)(h:∀x∈l,x<=b):l.sum<=b*l.length:=by
 induction l with
 |nil=>simp
 | cons x l c =>
   have d:=h x Q6
   have e:=c λy a=>h y (by simp[a])
   rw[IL,Bt,SF];omega
theorem zzK(l:List Nat)(x:Nat)(h:x∈l):x<=l.sum:=by
 induction l with
 |nil=>simp at h
 | cons y l a =>
   rw[IL];rcases CZ.1 h with rfl|h
   ·omega
   ·have:=a h;omega
theorem zq8(u:List Nat)(b:∀x∈u,x<=1048576)(d:u.length<=258):(G8 u).sum<=1000000000:=by
 have:=zAm (G8 u) 1048576 (λx a=>by
  simp only[G8,C8] at a;obtain⟨y,c,rfl⟩:=a;have:=b y c;omega)
 rw[Rt] at this;omega
def Ky(u:List Nat)(a:Nat):List Nat:=KR (G8 u).sum (G8 u) a
theorem zyd(b:List Nat)(i:Nat)(h:b≠[]):decide ((i:Int)<K8 (ints (Dl b)))=KO b i:=by
 have n:Dl b≠[]:=λe=>h (Ey (by rw[<-JA,e];rfl))
 have m:=YN (ints (Dl b)).tail i ((ints (Dl b)).headD 0)
 have e:ints (Dl b)=(ints (Dl b)).headD 0::(ints (Dl b)).tail:=by
  cases f:Dl b with
  |nil=>exact absurd f n
  |cons a l=>rfl
 rw[Ki,decide_eq_true_iff];unfold K8 KO;rw[m,J8]
 have k:∀x:Int,x∈ints (Dl b)↔∃d∈Dl b,x=(d:Int):=λx=>by
  simp only[ints,C8];exact⟨λ⟨d,h,e⟩=>⟨d,h,e.symm⟩,λ⟨d,h,e⟩=>⟨d,h,e.symm⟩⟩
 constructor
 ·intro g
  have:∃x∈ints (Dl b),(i:Int)<x:=by
   rcases g with g|⟨x,c,g⟩
   ·exact⟨_,by rw[e];simp,g⟩
   ·exact⟨x,by rw[e];simp[c],g⟩
  obtain⟨x,c,j⟩:=this;obtain⟨d,f,rfl⟩:=(k x).1 c;exact⟨d,f,Q4⟩
 ·rintro⟨d,f,j⟩
  have c:=(k (d:Int)).2 ⟨d,f,rfl⟩;have j:i<d:=by simpa using j
  rw[e] at c;rcases CZ.1 c with c|c
  ·exact .inl Q0
  ·exact .inr ⟨_,c,Q0⟩
theorem Wo(w:World)(v:Value)(u:List Nat)(i:Nat)(z:Ac w w.heap.size v (ints u))(T:∀x∈u,x<=1048576)(h2:2<=u.length)(a2:u.length<=258)(h9:9<=i)(g0:i<=20) :
 Qk 26 #[v,Qi (i:Nat)] w λe f=>∃q c,e=.returned (.tuple #[.slice q u.length c,Qi 0])/\(Ac f f.heap.size (.slice q u.length c) (ints (Ky u i))/\Bd f (.slice q u.length c))/\Qb w f:=by
 have d5:Rp (ints u)=true:=(zxW _).2 λx l=>by
  simp only[ints,C8] at l;obtain⟨e0,hy,rfl⟩:=l;have:=T e0 hy;omega
 have G:=Aa (zsc w v (ints u) z (by rw[Bj];omega))
 rw[d5] at G
 have M:Hid (∀W,Qb w W->Qk 78 #[v] W λe f=>∃q c,e=.returned (.slice q u.length c)/\Ad f W.heap.size (.slice q u.length c) (ints u)/\Qb W f):=λW e4=>by
  have:=WD W v (ints u) (DS z e4) (by rw[Bj];omega) (by rw[Bj];omega)
  rw[Bj] at this;exact this
 obtain⟨f6,ca,rfl,b8,g1⟩:=z.shape;have d7:=zq8 u T a2;have d6:=ZT u;have a3:=Rt u;have a6:Ky u i=KR (G8 u).sum (G8 u) i:=rfl;have c6:G8 u=u.map λx=>max x 1:=rfl;generalize Ky u i=R at*
 rw[Bj] at b8 G |-;rw[Bj] at M z;obtain⟨N,S⟩:=Qe u.length;rw[S] at h2 a2 b8 G M z a3 |-;have C:=Aa S;have f8:=Aa z;have s:=Aa d7;have m:=Aa d6;have Q:=Aa a3;have r:=Aa a6;have b4:=Aa c6
 have P:Hid (∀(W:World)(v:Value)(a:List Nat),Ac W W.heap.size v (ints a)->a.length=N->(∀x∈a,1<=x)->a.sum<=1000000000->Qk 79 #[v] W λe f=>∃q c,e=.returned (.slice q N c)/\(Ac f f.heap.size (.slice q N c) (ints (Dl a))/\Bd f (.slice q N c))/\Qb W f):=λW v a h hl hp hs=>by
  subst hl;exact zvV W v a h h2 a2 hp Q0
 have a4:Hid (∀(W:World)(v:Value)(a:List Nat),Ac W W.heap.size v (ints (Dl a))->a.length=N->Qk 80 #[v] W λe f=>e=.returned (Qi (K8 (ints (Dl a))))/\W=f):=λW v a h hl=>by
  refine zs9 W v _ h (by rw[Bj,JA];omega) λe=>?_
  have:=Co List.length e;rw[Bj,JA,D4] at this;omega
 have d1:decide ((N:Int)<2)=false:=AV Q0
 have d2:decide (258<(N:Int))=false:=AV Q0
 have d3:decide ((i:Int)<9)=false:=AV Q0
 have d4:decide (20<(i:Int))=false:=AV Q0
 clear d5 T z d7 d6 a3 a6 S c6
 go_enter qEt,qEr
 go_wp2_with fail
 refine G.out.mono ?_;rintro e w1 ⟨rfl,K⟩
 go_wp2_with fail
 refine(M.out _ K).mono ?_;rintro e w2 ⟨q,c,rfl,D,b6⟩;obtain⟨g,f9,he,-⟩:=D.place (by rw[Bj,C.out];omega)
 rw[Bj,C.out] at he;injection he with e1 e2 e3
 subst e1 e3;clear e2;have D:=D.mono K.size;have d:=Aa D;have b:=Aa (K.trans (b6.mono K.size));clear D K b6 M G
 go_wp2_with fail
 go_loopw [37] (λA wr=>∃k:Nat,k<=N/\A=Qi k/\Hid (Ad wr w.heap.size (Qs g 0 N c) (ints (Jd (λx=>max x 1) u k)))/\Hid (Qb w wr)) (λA _=>N+1-(intOf A).toNat)
 case atStart=>exact⟨0,BI _,rfl,by rw[zmQ];exact d,b⟩
 case round =>
  clear d b;obtain⟨k,hk,rfl,d,b⟩:=hrel
  by_cases c0:k<N
  ·obtain⟨x,l⟩:∃x,u[k]?=some x:=⟨_,Az (by rw[C.out];exact c0)⟩
   obtain⟨H,I,J,U,m5⟩:=d.out.mine (by rw[Bj,Zx,C.out]) Q0
   have hc:=H k x (RZ _ _ _ (by rw[zpY _ _ _ (by rw[C.out];exact c0)];exact l))
   have hf:=I k
   have Y:Hid (Ad (wr.setCell ⟨g,k,none⟩ (Qi ((max x 1:Nat):Int))) w.heap.size (Qs g 0 N c) (ints (Jd (λx=>max x 1) u (k+1)))):=by
    have:=J k ((max x 1:Nat):Int);rw[UB,zp2 (λx=>max x 1) u k x l] at this;exact this
   have V:Hid (Qb w (wr.setCell ⟨g,k,none⟩ (Qi ((max x 1:Nat):Int)))):=b.out.setCell (p:=⟨g,k,none⟩) U _
   have c1:Hid ((if(x:Int)<1 then 1 else(x:Int))=((max x 1:Nat):Int)):=by
    show _=_
    split<;>omega
   clear H I J l
   go_wp2_with fail
   go_roundw
   case rel=>exact⟨k+1,Q0,by go_num,by rw[c1.out];exact Y,by rw[c1.out];exact V⟩
   case measure=>simp[intOf];omega
  ·obtain rfl:k=N:=Q0
   have y:=d.out;rw[zp1 _ _ _ (by rw[C.out];exact Af _),<-b4.out] at y
   have B:=Aa y;have L:=b.out.size;clear d D y
   go_wp2_with fail
   refine(P.out _ _ (G8 u) B.out.is Q.out m.out s.out).mono ?_;rintro e w3 ⟨q2,t,rfl,⟨c7,d8⟩,Z⟩;have c9:=Aa d8;clear d8;have E:=Aa c7;have a9:=Aa (B.out.below Z);have a7:=Aa (b.out.trans (Z.mono L));clear c7 Z B b L
   go_wp2_with fail
   go_loopw [9] (λov wr=>∃(a:List Nat)(q:Option Addr)(t:Nat),ov=.slice q k t/\a.length=k/\Hid (∀x∈a,1<=x)/\Hid (a.sum<=1000000000)/\Hid (∃n,a.sum<=n/\R=KR n a i)/\Hid (Ac wr wr.heap.size (.slice q k t) (ints (Dl a)))/\Hid (Bd wr (.slice q k t))/\Hid (Ad wr w.heap.size (Qs g 0 k c) (ints a))/\Hid (Qb w wr)) (λov wr=>Sz wr g k)
   case atStart=>exact⟨G8 u,q2,t,rfl,Q.out,m,s,⟨_,Af _,r.out⟩,E,c9,a9,a7⟩
   case round =>
    clear E c9 a9 a7 m s r Q b4;obtain⟨a,q,t,rfl,o,m,s,r,E,f1,d,b⟩:=hrel;have c2:Sz wr g k=a.sum:=znF d.out o Q0
    have O:=Aa (a4.out wr _ a E.out o);have a1:=zyd a i (λe=>by rw[e] at o;simp at o;omega)
    obtain⟨f7,a5⟩:=Qe (K8 (ints (Dl a)));rw[a5] at O a1;clear a5;have a8:=Aa c2;clear c2;cases htd:KO a i with
    | false =>
      rw[htd] at a1
      have f3:Hid (R=Dl a):=by
       obtain⟨n,_,h⟩:=r.out
       show _=_
       rw[h,YB htd]
      have F:=Aa o;clear htd r m s a8 o a4 P
      go_wp2_with fail
      refine O.out.mono ?_;rintro e e6 ⟨rfl,rfl⟩
      go_wp2_with fail
      go_ret2
      exact⟨q,t,rfl,⟨by rw[f3.out];exact E.out,f1.out⟩,b.out⟩
    | true =>
      rw[htd] at a1;obtain⟨n,hn,b7⟩:=r.out;obtain⟨e5,f4,c3,c5⟩:=Wm m.out Q0 Q0 h9 htd hn
      have b5:(FC a).sum<a.sum:=by
       obtain⟨n2,e1,e2,_⟩:=Wm m.out Q0 Q0 h9 htd (Af _)
       omega
      have f0:Hid (∃n,(FC a).sum<=n/\R=KR n (FC a) i):=⟨e5,c3,b7.trans c5⟩;have b2:=Aa (znM a)
      have b3:Hid ((FC a).sum<=1000000000):=by
       have:=s.out
       show _<=_
       omega
      have e8:=Aa b5;have F:=Aa o;clear htd r hn b7 f4 c3 c5 b5 m o E
      go_wp2_with fail
      refine O.out.mono ?_;rintro e e6 ⟨rfl,rfl⟩;clear O
      go_wp2_with fail
      have b1:Hid (Ad wr w.heap.size (Qs g 0 k c) (ints (Jd (λx=>x / 2+1) a 0))):=by
       rw[zmQ];exact d
      clear d
      go_loopw [56] (λA wr=>∃j:Nat,j<=k/\A=Qi j/\Hid (Ad wr w.heap.size (Qs g 0 k c) (ints (Jd (λx=>x / 2+1) a j)))/\Hid (Qb w wr)) (λA _=>k+1-(intOf A).toNat)
      case atStart=>exact⟨0,BI _,rfl,b1,b⟩
      case round =>
       clear b1 b;obtain⟨j,hj,rfl,d,b⟩:=hrel
       by_cases d0:j<k
       ·obtain⟨x,l⟩:∃x,a[j]?=some x:=⟨_,Az (by rw[F.out];exact d0)⟩
        obtain⟨H,I,J,U,m5⟩:=d.out.mine (by rw[Bj,Zx,F.out]) Q0
        have hc:=H j x (RZ _ _ _ (by rw[zpY _ _ _ (by rw[F.out];exact d0)];exact l))
        have hf:=I j;have g2:x<=1000000000:=BU (zzK a x (Cn l)) s.out
        have b9:Hid ((x:Int)/ 2+1=((x / 2+1:Nat):Int)):=by
         show _=_
         omega
        have Y:Hid (Ad (wr.setCell ⟨g,j,none⟩ (Qi ((x / 2+1:Nat):Int))) w.heap.size (Qs g 0 k c) (ints (Jd (λx=>x / 2+1) a (j+1)))):=by
         have:=J j ((x / 2+1:Nat):Int);rw[UB,zp2 (λx=>x / 2+1) a j x l] at this;exact this
        have V:Hid (Qb w (wr.setCell ⟨g,j,none⟩ (Qi ((x / 2+1:Nat):Int)))):=b.out.setCell (p:=⟨g,j,none⟩) U _;clear H I J l
        go_wp2_with fail
        go_roundw
        case rel=>exact⟨j+1,Q0,by go_num,by rw[b9.out];exact Y,by rw[b9.out];exact V⟩
        case measure=>simp[intOf];omega
       ·obtain rfl:j=k:=Q0
        have y:=d.out;rw[zp1 _ _ _ (by rw[F.out];exact Af _)] at y
        have B:Hid (Ad wr w.heap.size (Qs g 0 j c) (ints (FC a))):=y
        have X:Hid ((FC a).length=j):=by
         show _=_
         rw[TH];exact F.out
        have L:=b.out.size;clear d y
        go_wp2_with fail
        refine(P.out _ _ (FC a) B.out.is X.out b2.out b3.out).mono ?_;rintro e w4 ⟨q4,c4,rfl,⟨c8,d9⟩,a0⟩;have f5:=Aa d9;clear d9;have f2:=Aa c8;have b0:=Aa (B.out.below a0);have e7:=Aa (b.out.trans (a0.mono L));have e9:Hid (Sz w4 g j=(FC a).sum):=znF b0.out X.out Q0
        clear c8 a0 B b L
        go_wp2_with fail
        go_roundw
        case rel=>exact⟨FC a,q4,c4,rfl,X.out,b2,b3,f0,f2,f5,b0,e7⟩
        case measure=>rw[a8.out,e9.out];exact e8.out
theorem zrM(w:World)(v:Value)(u:List Nat)(a:Nat)(k:Ac w w.heap.size v (ints u))(j:∀x∈u,x<=1048576)(d:2<=u.length)(m:u.length<=258)(i:9<=a)(l:a<=20) :
 Qk 26 #[v,Qi (a:Nat)] w λe b=>∃q c,e=.returned (.tuple #[.slice q u.length c,Qi 0])/\Ac b b.heap.size (.slice q u.length c) (ints (Ky u a))/\Qb w b :=
 (Wo w v u a k j d m i l).mono λe b h=>by
   obtain⟨q,c,f,d,g⟩:=h;exact⟨q,c,f,d.1,g⟩
theorem Wu(u:List Nat)(a:Nat)(b:2<=u.length)(d:u.length<=258)(c:9<=a) :
 ∃t,Ky u a=Dl t/\t.length=u.length/\(∀x∈t,1<=x)/\(∀i,i<u.length->DB t i<=a)/\(∀i k:Nat,(G8 u)[i]?=(G8 u)[k]?->t[i]?=t[k]?)/\(KO (G8 u) a=false->t=G8 u):=by
 have h:=zlx (G8 u).sum (G8 u) a (ZT u) (by rw[Rt];exact b) (by rw[Rt];exact d) c (Af _)
 rw[Rt] at h;exact h
theorem VT(u:List Nat)(a:Nat)(c:2<=u.length)(f:u.length<=258)(e:9<=a):(Ky u a).length=u.length:=by
 obtain⟨t,b,d,_⟩:=Wu u a c f e;rw[b,JA,d]
theorem zup(u:List Nat)(b:Nat)(f:2<=u.length)(m:u.length<=258)(j:9<=b):∀x∈Ky u b,1<=x/\x<=b:=by
 obtain⟨t,e,n,g,h,_,_⟩:=Wu u b f m j;intro x d;rw[e] at d;obtain⟨i,a,k⟩:=QV d;rw[JA] at a;have c:=O5 t i a;rw[Az (by rw[JA];exact a),k] at c
 injection c with c
 have o:=h i Q0
 refine⟨?_,Q0⟩
 obtain⟨p,-,l,-⟩:=Xw t.length _ _ (TL g) (by rw[R7,PQ];exact Af _) (by rw[R7,PQ];omega) _ (UE (Az a))
 have:DB t i=C9 t.length (Gu (DF t)) t.length p.2+1:=l;omega
theorem zrW(u:List Nat)(a:Nat)(d:2<=u.length)(j:u.length<=258)(h:9<=a)(l:a<=20):I7 (Ky u a)=1048576:=by
 obtain⟨t,c,b,f,g,_,_⟩:=Wu u a d j h;rw[c];exact VM f (λe=>by rw[e] at b;simp at b;omega) 20 (λi k=>by have:=g i Q0;omega)
theorem zs0(u:List Nat)(a:Nat)(b:2<=u.length)(c:u.length<=258)(d:9<=a)(f:a<=20):Code (Ky u a) :=
 ⟨by rw[VT u a b c d];exact b,by rw[VT u a b c d];exact c,λx e=>by have:=zup u a b c d x e;omega,EV (zrW u a b c d f)⟩
def Ee(m:List Nat)(i:Nat):List Nat:=(m.take (10*i+10)).drop (10*i)
theorem zqa(m:List Nat)(i:Nat):Cv (ints m) i=ints (Ee m i):=by simp[Cv,Ee,ints,List.map_drop,List.map_take]
theorem OL(m:List Nat)(i:Nat):(Ee m i).length<=10:=by simp[Ee];omega
theorem UH(h:m∈Ee f n):m∈f:=Ls (J7 h)
def Ge(m:List Nat)(a i:Nat):List Nat:=(List.range i).flatMap λj=>if j%2=a then Ee m j else[]
theorem zku(m:List Nat)(a i:Nat):Ge m a (i+1)=Ge m a i++if i%2=a then Ee m i else[]:=by
 unfold Ge;rw[Fh,Iw];simp
theorem Zg(m:List Nat)(a i:Nat):(Ge m a i).length<=10*i:=by
 induction i with
 |zero=>simp[Ge]
 | succ i b =>
   rw[zku,AJ];have:=OL m i;split
   ·omega
   ·simp;omega
def Fy(m:List Nat)(a i t:Nat):List Nat:=Ge m a i++if i%2=a then(Ee m i).take t else[]
theorem ZB(m:List Nat)(a i:Nat):Fy m a i 0=Ge m a i:=by simp[Fy]
theorem zmt(m:List Nat)(a i:Nat):Fy m a i (Ee m i).length=Ge m a (i+1):=by rw[zku,Fy,Gp]
theorem U5(m:List Nat)(a i t:Nat)(h:i%2≠a):Fy m a i t=Ge m a i:=by simp[Fy,h]
theorem znb(m:List Nat)(a i t s:Nat)(h:i%2=a)(b:(Ee m i)[t]?=some s):Fy m a i (t+1)=Fy m a i t++[s]:=by
 unfold Fy;rw[if_pos h,if_pos h,G7,b,BN];rfl
theorem YZ(m:List Nat)(a i t:Nat):(Fy m a i t).length<=10*i+10:=by
 unfold Fy;rw[AJ];have b:=Zg m a i;have c:=OL m i;split
 ·rw[BO];omega
 ·simp;omega
def Ec(n:Nat)(l:List Nat):List Nat:=JS (List.replicate n 0) l
theorem JB(n:Nat)(l:List Nat):(Ec n l).length=n:=by rw[Ec,zk8,Jg]
theorem Uy(n:Nat)(l:List Nat)(s:Nat)(h:s<n):(Ec n l)[s]?=some (l.count s):=by
 unfold Ec;rw[zre l _ s 0 (by simp[h]),DC]
theorem zmr(n:Nat)(l:List Nat)(s:Nat)(h:s<n):Ec n (l++[s])=(Ec n l).set s (l.count s+1):=by
 have:=zn1 (List.replicate n 0) (l++[s]) l.length s Q6
 rw[BR Q6] at this
 rw[show(l++[s]).take l.length=l by simp] at this
 show JS _ _=_
 rw[this]
 show(Ec n l).set s ((Ec n l)[s]?.getD 0+1)=_
 rw[Uy n l s h];rfl
theorem zzB(n:Nat)(l:List Nat):∀x∈Ec n l,x<=l.length:=by
 intro x c;obtain⟨i,a,b⟩:=QV c;rw[JB] at a;have:=Uy n l i a;rw[Az (by rw[JB];exact a),b] at this
 injection this with this
 rw[this];exact Mq
def B6(m:List Nat)(n a:Nat):List Nat:=Ky (Ec n (Ge m a (Cs m.length))) 20
theorem Qy(m:List Nat)(n a:Nat)(d:m.length<=100000)(c:2<=n)(e:n<=258):Code (B6 m n a)/\(B6 m n a).length=n:=by
 unfold B6;have b:=JB n (Ge m a (Cs m.length));exact⟨zs0 _ 20 Q0 Q0 Q0 Q0,by rw[VT _ 20 Q0 Q0 Q0,b]⟩
def IG(m:List Nat)(n i:Nat):Nat:=if IZ (B6 m n 1) (Ee m i)<IZ (B6 m n 0) (Ee m i) then 1 else 0
def Cz(m:List Nat)(n:Nat):List Nat:=(List.range (Cs m.length)).map (IG m n)
structure EE(w:World)(base:Nat)(v:Value)(L:List SV):Prop where
 own:w.ownsRow base 67 1 v L.length (L.map (·.1))
 has:∀p∈L,Ac w w.heap.size p.1 p.2/\Bd w p.1
theorem EE.nil(w:World)(b:Nat):EE w b (.slice none 0 0) []:=⟨GU _ _ _ _,λp a=>by simp at a⟩
theorem EE.is{base:Nat}{L:List SV}(h:EE w base x L):Db w w.heap.size x L:=⟨Rd.own h.own,λp a=>(h.has p a).1⟩
theorem EE.shape{L:List SV}(h:EE w n x L):∃q c,x=.slice q L.length c:=WL h.own
theorem EE.below{L:List SV}(h:EE w n x L)(a:Qb w v):EE v n x L:=⟨Cd h.own a,λp b=>⟨DS (h.has p b).1 a,(h.has p b).2.below a⟩⟩
theorem ZZ{q:Option Nat}(h:Ac w w.heap.size x l)(k:Bd w x)(j:w.grownBy v q)(D:∀r,q=some r->∃d,Qg w r d 67):Ac v v.heap.size x l/\Bd v x:=by
 have p:∀g o n c,x=Qs g o n c->v.heap[g]?=w.heap[g]?:=λg o n c e=>by
  obtain⟨d,a⟩:=k g o n c e;refine j.block g (Aj a) λs=>?_;obtain⟨H,b⟩:=D g s.symm;rw[a] at b;injection b with b
  injection b with _ b
  exact zyE b.symm
 refine⟨?_,λg o n c e=>by obtain⟨d,a⟩:=k g o n c e;exact⟨d,(p g o n c e).trans a⟩⟩
 obtain⟨t,A,F,m,y,z,B⟩:=h;refine⟨t,A,F,m,y,z,λC=>?_⟩;obtain⟨g,o,f,G,a⟩:=B C;refine⟨g,o,f,Iy G j.size,λi u E=>?_⟩;rw[KG (w:=w) (p g o _ _ (by rw[m,f]))]
 exact a i u E
theorem zue(h:Ac w n x l):x.oneCell'=true:=by
 obtain⟨q,c,rfl,_⟩:=h.shape;rfl
theorem Yg{y:Array Oper}{rest:List Oper}{d:Oper}{o:Act}{Q:Exit->Act->World->Prop}(O:d.guard=none)(s x:Operand)
 (G:d.op=.call { callee:=.builtin .append,args:=#[s,x],argTypes:=#[113,113] })
 (f:Nat) (v:Value) (L:List SV) (I:o.eval s=v) (j:EE w f v L) (k:Nat) (p:SV) (J:o.eval x=Qs k 0 1 1) (F:Qg w k #[p.1] 67) (n:Ac w w.heap.size p.1 p.2/\Bd w p.1)
 (W:L.length<=1000000) (U:f<=w.heap.size)
 (h:∀q c b,EE b f (.slice q (L.length+1) c) (L++[p])->w.grownBy b v.ownBlock->wpList Tryz.prog y Q rest (o.put d.dst (.slice q (L.length+1) c)) b) :
 wpList Tryz.prog y Q (d::rest) o w:=by
 refine wpList_plain O λK D=>?_;obtain⟨M,E,R,S,T⟩:=Ie X0
 have H:Rd w (k+1) 1 (Qs k 0 1 1) 1 [p.1]:=⟨rfl,_,1,rfl,Af _,by simp[maxLen],λ_=>⟨k,0,rfl,Kj _,λi u g=>by
  rw[DC,Ae F,<-g];simp⟩⟩
 obtain⟨N,b,A,C,l,V⟩:=Ru (P:=Tryz.prog) w f 113 d.type 67 M (.slice none 0 0) 1 24 Tryz.underlying113 E R S T rfl Q5 v L.length (L.map (·.1)) j.own (k+1) 1 _ [p.1] H (λu g=>by simp at g;subst g;exact zue n.1) (by unfold maxLen;omega) Q0 U
 have z:∀r,v.ownBlock=some r->∃B,Qg w r B 67:=λr e=>Gr j.own e
 have m:EE b f N (L++[p]):=⟨by rw[AJ,D3];exact C,λt a=>by
  rcases FZ.1 a with a|a
  ·exact ZZ (j.has t a).1 (j.has t a).2 l z
  ·simp at a
   subst a;exact ZZ n.1 n.2 l z⟩
 obtain⟨q,c,rfl⟩:=m.shape;rw[AJ] at A m;unfold Oper.wp execOp;simp only[G,resolve,invoke,builtin,Ml,Mk,KH,MZ,Dz,Jl,I,J,A];exact D _ _ (h q c b m l)
theorem YE{s:List Value}(h:w.ownsRow m k i x j s)(f:Ab n w v)(p:n<m):v.ownsRow m k i x j s:=by
 refine⟨h.1,?_⟩;rcases h.2 with e|⟨g,l,o,a,b,c,d⟩
 ·exact .inl e
 ·exact .inr ⟨g,l,o,a,b,f.other c Q0,d⟩
theorem AC.only{L:List SV}(h:AC w m x L)(b:Ab n w v)(a:n<m):AC v m x L:=⟨YE h.own b a,λp c=>YE (h.has p c) b a⟩
theorem Qf(a:World)(X Y Z:Obj):(((a.alloc X).alloc Y).alloc Z).drew.heap[a.heap.size]?=some X/\(((a.alloc X).alloc Y).alloc Z).drew.heap[a.heap.size+1]?=some Y/\(((a.alloc X).alloc Y).alloc Z).drew.heap[a.heap.size+1+1]?=some Z :=
 ⟨Bb (w:=(a.alloc X).alloc Y) _ (Bb _ (Am _ _ _ rfl)),Bb (w:=(a.alloc X).alloc Y) _ (Am _ _ _ Q6),Am ((a.alloc X).alloc Y) _ _ Q6⟩
theorem zlN(a b:Value):(∀W,(Instr.index 203 (.agg #[a,b]) (Qi 0)).run Tryz.prog W=.ok a W)/\(∀W,(Instr.index 203 (.agg #[a,b]) (Qi 1)).run Tryz.prog W=.ok b W):=by
 have c:∀W,(sizeOf 67).run Tryz.prog W=.ok 1 W:=λW=>by kernel_rfl
 constructor<;>intro W<;>simp[Instr.index,Kl Tryz.underlying203,asIntOf,part,c,go_sem]
theorem Yr(h:Ad w m (Qs k 0 i j) l)(q:Ab n w v)(p:k≠n):Ad v m (Qs k 0 i j) l:=by
 refine⟨h.1,?_⟩;rcases h.2 with⟨e,_⟩|⟨t,s,r,b,c,d,f⟩
 ·cases e
 ·injection b with a g o
  injection a with a
  injection a with a
  subst a;exact .inr ⟨k,s,r,by rw[g,o],c,q.other d p,f⟩
theorem VZ{h:Array Value}(b:Qg w m h 3)(a:h.toList=C4 l)(c:n<=m)(e:l.length=k)(d:k<=maxLen):Ad w n (Qs m 0 k k) l:=by
 subst e;have f:h.size=l.length:=by rw[<-MX,a,I5]
 refine⟨by rw[I5];omega,.inr ⟨m,l.length,h,rfl,c,b,Af _,d,Q0,?_⟩⟩
 rw[a,BR (by rw[I5];omega)]
set_option maxHeartbeats 12800000 in
theorem zv8(w:World)(v:Value)(m:List Nat)(n:Nat)(hv:Ac w w.heap.size v (ints m))(p5:0<m.length)(hm:m.length<=100000)(D:2<=n)(d5:n<=258)(y:∀s∈m,s<n) :
 Qk 56 #[v,Qi (n:Nat)] w λe a=>∃(va vb:Value)(q:Option Addr)(c:Nat)(q2:Option Addr)(c2:Nat),e=.returned (.tuple #[.slice q 2 c,.slice q2 (Cs m.length) c2,Qi 0])/\
  Db a a.heap.size (.slice q 2 c) [(va,ints (B6 m n 0)),(vb,ints (B6 m n 1))]/\Ac a a.heap.size (.slice q2 (Cs m.length) c2) (ints (Cz m n))/\Qb w a:=by
 have n3:(ints m).any (MS (n:Nat))=false:=by
  rw[GR];intro x g;simp only[ints,C8] at g;obtain⟨s,q1,rfl⟩:=g;have:=y s q1;simp[MS];omega
 have c3:Hid (∀W,Ac W W.heap.size v (ints m)->Qk 118 #[v,Qi (n:Nat)] W λe a=>e=.returned (.bool false)/\Qb W a):=λW d7=>by
  have:=zvj W v (ints m) (n:Nat) d7 (by rw[Bj];omega)
  rw[n3] at this;exact this
 have c1:Hid (∀W,Ac W W.heap.size v (ints m)->Qk 61 #[v] W λe a=>∃(L:List SV)(q:Option Addr)(c:Nat),e=.returned (.slice q L.length c)/\AC a W.heap.size (.slice q L.length c) L/\L.map (·.2)=N7 (ints m)/\Qb W a):=λW d7=>ZE W v (ints m) d7 (by rw[Bj];omega)
 obtain⟨r3,ca,rfl,k5,r6⟩:=hv.shape;rw[Bj] at k5 c3 c1 hv |-;obtain⟨cz,k6,p6⟩:=O7 n Q0
 obtain⟨M,e5⟩:=Qe m.length;rw[e5] at p5 hm k5 c3 c1 hv |-;have Q:=Aa e5;have e3:=Aa hv;have e0:=Aa y;have j2:=Aa k6;have d1:decide ((n:Int)<2)=false:=AV Q0
 have d2:decide (258<(n:Int))=false:=AV Q0
 have d3:((M:Int)==0)=false:=by rw[Ez];omega
 have d4:decide (1048576<(M:Int))=false:=AV Q0
 clear hv y e5 n3 k6
 go_enter Tryz.func56,Tryz.ntmps56
 go_wp2_with fail
 refine(c3.out _ e3.out).mono ?_;rintro e w1 ⟨rfl,f9⟩;have e7:=Aa f9;have j7:=Aa (DS e3.out f9);clear f9 c3
 go_wp2_with fail
 have a6:cz.toList=C4 (ints (Ec n [])):=by
  rw[j2.out];congr 1
  simp[Ec,JS,ints]
 have a2:(ints (Ec n [])).length=n:=by rw[Bj,JB]
 have j3:=Aa a6;have m6:=Aa a2;clear a6 a2
 go_cut [7] (λsb wx=>∃b d f:Nat,sb=Qp b 0/\Qg wx b #[Qs d 0 n n,Qs f 0 n n] 203/\d≠f/\b≠d/\b≠f/\Ad wx w1.heap.size (Qs d 0 n n) (ints (Ec n []))/\Ad wx w1.heap.size (Qs f 0 n n) (ints (Ec n []))/\Qb w1 wx)
 case first =>
  first|go_region_with (fail)|fail
  all_goals
   go_wp2_with fail
   go_meet
  all_goals have a6:=j3.out
  all_goals have a2:=m6.out
  all_goals
   first
    |refine⟨_,_,_,rfl,(Qf _ _ _ _).1,?_,?_,?_,?_,?_,?_⟩
    |refine⟨_,_,_,rfl,(Qf _ _ _ _).2.1,?_,?_,?_,?_,?_,?_⟩
    |refine⟨_,_,_,rfl,(Qf _ _ _ _).2.2,?_,?_,?_,?_,?_,?_⟩
  all_goals first
   |omega
   |exact VZ (Qf _ _ _ _).1 a6 Q0 a2 (by simp[maxLen];omega)
   |exact VZ (Qf _ _ _ _).2.1 a6 Q0 a2 (by simp[maxLen];omega)
   |exact VZ (Qf _ _ _ _).2.2 a6 Q0 a2 (by simp[maxLen];omega)
   |exact(((((Ag w1.heap.size w1).alloc (Af _) _).alloc Q6 _).alloc Q4 _)).drew
 case rest =>
  obtain⟨b,d,f,rfl,g6,l7,p7,p8,c8,c9,g0⟩:=hcut;have m8:=e7.out.size;have f3:=Aa (e7.out.trans (g0.mono m8));have j8:=Aa (DS j7.out g0);obtain⟨r,k4⟩:=Qe w1.heap.size;rw[k4] at c8 c9 m8;have k7:=(c8.mine (by rw[Bj,JB]) Q0).2.2.2.2
  have k8:=(c9.mine (by rw[Bj,JB]) Q0).2.2.2.2
  have p2:=Aj g6;have B:=Aa c8;have C:=Aa c9;have o:=Aa g6;clear c8 c9 g6 g0 k4 e3 j7 e7 j3 m6 j2 p6
  go_wp2_with fail
  refine(c1.out _ j8.out).mono ?_;rintro e w3 ⟨L,q,c,rfl,b5,e4,b2⟩
  have g4:L.length=Cs M:=by
   have:=Co List.length e4;rw[Da] at this;rw[this];simp[N7,Bj,Q.out]
  have g3:∀i,i<Cs M->∃vi,L[i]?=some (vi,ints (Ee m i)):=λi hi=>by
   have g:L[i]?=some L[i]:=Az Q0
   have D:(L.map (·.2))[i]?=some (Cv (ints m) i):=by
    rw[e4];unfold N7;rw[Bj,Q.out,EA,Ji hi];rfl
   rw[EA,g] at D;injection D with D
   exact⟨L[i].1,by rw[g,<-zqa,<-D]⟩
  rw[g4] at b5 |-;obtain⟨gb,n0⟩:=Qe wc.heap.size;rw[n0] at b5 k7 k8 p2;have n5:Cs M<=10001:=by unfold Cs;omega
  have o8:10*Cs M<=M+9:=by unfold Cs;omega
  obtain⟨G,g2⟩:=Qe (Cs M);rw[g2] at b5 g3 g4 n5 o8 |-;have j5:=Aa g3;have A:=Aa b5;have i7:Hid (Ad w3 r (Qs d 0 n n) (ints (Ec n (Ge m 0 0)))):=B.out.below b2;have i9:Hid (Ad w3 r (Qs f 0 n n) (ints (Ec n (Ge m 1 0)))):=C.out.below b2;have m0:=Aa (Al b2 o.out);have a0:Hid (Qb w w3):=f3.out.trans (b2.mono f3.out.size);have a1:=Aa g2;clear b5 g3 g4 e4 b2 n0 B C o f3 j8 c1 g2
  go_wp2_with fail
  go_loopw [54] (λiv wr=>∃i:Nat,i<=G/\iv=Qi i/\Hid (Ad wr r (Qs d 0 n n) (ints (Ec n (Ge m 0 i))))/\Hid (Ad wr r (Qs f 0 n n) (ints (Ec n (Ge m 1 i))))/\Hid (AC wr gb (.slice q G c) L)/\
   Hid (Qg wr b #[Qs d 0 n n,Qs f 0 n n] 203)/\Hid (Qb w wr)) (λiv _=>G+1-(intOf iv).toNat)
  case atStart=>exact⟨0,BI _,rfl,i7,i9,A,m0,a0⟩
  case round =>
   clear i7 i9 A m0 a0;obtain⟨i,hi,rfl,B,C,A,o,K⟩:=hrel
   by_cases p4:i<G
   ·obtain⟨vi,X⟩:=j5.out i p4
    obtain⟨d6,d8,hq,hg,V,O⟩:=A.out.is.at i _ X;subst hq
    dsimp only at V O
    obtain⟨qi,di,a5,r7,-⟩:=O.shape;rw[Bj] at a5;subst a5;have p3:=OL m i;obtain⟨T,Z⟩:=Qe ((Ee m i).length);rw[Z] at V O X p3;have c5:=Aa Z;have o6:=Aa X;have i8:Hid (Ad wr r (Qs d 0 n n) (ints (Ec n (Fy m 0 i 0)))):=by rw[ZB];exact B
    have j0:Hid (Ad wr r (Qs f 0 n n) (ints (Ec n (Fy m 1 i 0)))):=by rw[ZB];exact C
    clear O Z B C X
    go_wp2_with fail
    go_loopw [61] (λtv wr=>∃t:Nat,t<=T/\tv=Qi t/\Hid (Ad wr r (Qs d 0 n n) (ints (Ec n (Fy m 0 i t))))/\Hid (Ad wr r (Qs f 0 n n) (ints (Ec n (Fy m 1 i t))))/\Hid (AC wr gb (Qs d6 d8 G c) L)/\
     Hid (Qg wr b #[Qs d 0 n n,Qs f 0 n n] 203)/\Hid (Qb w wr)) (λtv _=>T+1-(intOf tv).toNat)
    case atStart=>exact⟨0,BI _,rfl,i8,j0,A,o,K⟩
    case round =>
     clear i8 j0 A o K V;obtain⟨t,ht,rfl,B,C,A,o,K⟩:=hrel
     by_cases n1:t<T
     ·obtain⟨s,y⟩:∃s,(Ee m i)[t]?=some s:=⟨_,Az (by rw[c5.out];exact n1)⟩
      have d0:=e0.out s (UH (Cn y));obtain⟨g5,o5,p9,r8,o9⟩:=((A.out.has _ (Cn o6.out)).is).at t (by rw[Bj,c5.out];exact n1)
      subst p9;rw[show(ints (Ee m i))[t]?.getD 0=(s:Int) by simp[ints,y]] at o9
      have h3:=(Ae o.out 0).trans rfl;have h4:=(Ae o.out 1).trans rfl;rcases QQ i with hp|hp
      ·have r1:(i:Int).tmod 2=0:=by rw[KE Q0];omega
       obtain⟨m1,m2,m3,m4,m5⟩:=B.out.mine (by rw[Bj,JB]) Q0
       obtain⟨x,g⟩:=Qe ((Fy m 0 i t).count s)
       have q7:x<=200000:=by
        have h1:(Fy m 0 i t).count s<=(Fy m 0 i t).length:=Mq;have D:=YZ m 0 i t;omega
       have p0:=m1 s x (RZ _ _ _ (by rw[Uy n _ s d0,g]))
       have p1:=m2 s
       have f5:Hid (Ad (wr.setCell ⟨d,s,none⟩ (Qi ((x+1:Nat):Int))) r (Qs d 0 n n) (ints (Ec n (Fy m 0 i (t+1))))):=by
        have:=m3 s ((x+1:Nat):Int);rw[UB,<-g,<-zmr n _ s d0,<-znb m 0 i t s hp y] at this;rw[<-g];exact this
       have N:=(Ab.refl d wr).set s (Qi ((x+1:Nat):Int))
       have b0:Hid (Ad (wr.setCell ⟨d,s,none⟩ (Qi ((x+1:Nat):Int))) r (Qs f 0 n n) (ints (Ec n (Fy m 1 i (t+1))))):=by
        rw[U5 m 1 i (t+1) Q0,<-U5 m 1 i t Q0]
        exact Yr C.out N l7.symm
       have h6:=Aa (A.out.only N k7);have h5:=Aa (N.other o.out p7);have e8:Hid (Qb w (wr.setCell ⟨d,s,none⟩ (Qi ((x+1:Nat):Int)))):=K.out.setCell (p:=⟨d,s,none⟩) (by show w.heap.size<=d;omega) _
       have F:Hid (((x+1:Nat):Int)=(x:Int)+1):=by show _=_;omega
       clear m1 m2 m3 g y N
       go_wp2_with fail
       go_roundw
       case rel=>exact⟨t+1,Q0,by go_num,by rw[<-F.out];exact f5,by rw[<-F.out];exact b0,by rw[<-F.out];exact h6,by rw[<-F.out];exact h5,by rw[<-F.out];exact e8⟩
       case measure=>simp[intOf];omega
      ·have r1:(i:Int).tmod 2=1:=by rw[KE Q0];omega
       obtain⟨m1,m2,m3,m4,m5⟩:=C.out.mine (by rw[Bj,JB]) Q0
       obtain⟨x,g⟩:=Qe ((Fy m 1 i t).count s)
       have q7:x<=200000:=by
        have h1:(Fy m 1 i t).count s<=(Fy m 1 i t).length:=Mq;have D:=YZ m 1 i t;omega
       have p0:=m1 s x (RZ _ _ _ (by rw[Uy n _ s d0,g]))
       have p1:=m2 s
       have f5:Hid (Ad (wr.setCell ⟨f,s,none⟩ (Qi ((x+1:Nat):Int))) r (Qs f 0 n n) (ints (Ec n (Fy m 1 i (t+1))))):=by
        have:=m3 s ((x+1:Nat):Int);rw[UB,<-g,<-zmr n _ s d0,<-znb m 1 i t s hp y] at this;rw[<-g];exact this
       have N:=(Ab.refl f wr).set s (Qi ((x+1:Nat):Int))
       have b0:Hid (Ad (wr.setCell ⟨f,s,none⟩ (Qi ((x+1:Nat):Int))) r (Qs d 0 n n) (ints (Ec n (Fy m 0 i (t+1))))):=by
        rw[U5 m 0 i (t+1) Q0,<-U5 m 0 i t Q0]
        exact Yr B.out N l7
       have h6:=Aa (A.out.only N k8);have h5:=Aa (N.other o.out p8);have e8:Hid (Qb w (wr.setCell ⟨f,s,none⟩ (Qi ((x+1:Nat):Int)))):=K.out.setCell (p:=⟨f,s,none⟩) (by show w.heap.size<=f;omega) _
       have F:Hid (((x+1:Nat):Int)=(x:Int)+1):=by show _=_;omega
       clear m1 m2 m3 g y N
       go_wp2_with fail
       go_roundw
       case rel=>exact⟨t+1,Q0,by go_num,by rw[<-F.out];exact b0,by rw[<-F.out];exact f5,by rw[<-F.out];exact h6,by rw[<-F.out];exact h5,by rw[<-F.out];exact e8⟩
       case measure=>simp[intOf];omega
     ·obtain rfl:t=T:=Q0
      have n9:Hid (Ad wr r (Qs d 0 n n) (ints (Ec n (Ge m 0 (i+1))))):=by rw[<-zmt,c5.out];exact B
      have o0:Hid (Ad wr r (Qs f 0 n n) (ints (Ec n (Ge m 1 (i+1))))):=by rw[<-zmt,c5.out];exact C
      go_wp2_with fail
      go_roundw
      case rel=>exact⟨i+1,Q0,by go_num,n9,o0,A,o,K⟩
      case measure=>simp[intOf];omega
   ·obtain rfl:i=G:=Q0
    have l8:=K.out.size;have h3:=(Ae o.out 0).trans rfl;have h4:=(Ae o.out 1).trans rfl;obtain⟨R,k1⟩:=Qe wr;rw[k1] at B C A o K l8 h3 h4 |-;clear k1;obtain⟨l3,l5⟩:=Qy m n 0 (by rw[Q.out];exact hm) D d5
    obtain⟨l4,l6⟩:=Qy m n 1 (by rw[Q.out];exact hm) D d5
    have j9:Ky (Ec n (Ge m 0 i)) 20=B6 m n 0:=by unfold B6;rw[Q.out,a1.out]
    have k0:Ky (Ec n (Ge m 1 i)) 20=B6 m n 1:=by unfold B6;rw[Q.out,a1.out]
    have g8:∀w0:Nat,∀x∈Ec n (Ge m w0 i),x<=1048576:=λw0 x g=>by
     have h1:=zzB n _ x g;have D:=Zg m w0 i;omega
    have i5:Hid (∀W,Qb R W->Qk 26 #[Qs d 0 n n,Qi 20] W λe a=>∃q c,e=.returned (.tuple #[.slice q n c,Qi 0])/\(Ac a a.heap.size (.slice q n c) (ints (B6 m n 0))/\Bd a (.slice q n c))/\Qb W a):=λW I=>by
     have:=Wo W _ (Ec n (Ge m 0 i)) 20 (DS B.out.is I) (g8 0) (by rw[JB];exact D) (by rw[JB];exact d5) Q0 Q0
     rw[JB,j9] at this;exact this
    have i6:Hid (∀W,Qb R W->Qk 26 #[Qs f 0 n n,Qi 20] W λe a=>∃q c,e=.returned (.tuple #[.slice q n c,Qi 0])/\(Ac a a.heap.size (.slice q n c) (ints (B6 m n 1))/\Bd a (.slice q n c))/\Qb W a):=λW I=>by
     have:=Wo W _ (Ec n (Ge m 1 i)) 20 (DS C.out.is I) (g8 1) (by rw[JB];exact D) (by rw[JB];exact d5) Q0 Q0
     rw[JB,k0] at this;exact this
    clear j9 k0 g8 B C o;have q3:=zlN (Qs d 0 n n) (Qs f 0 n n);obtain⟨q4,q5⟩:=q3
    go_wp2_with fail
    go_loopw [4,77] (λtv kv wr=>∃(k ct:Nat)(qt:Option Addr)(H:List SV),k<=2/\kv=Qi k/\tv=.slice qt k ct/\Hid (H.map (·.2)=[ints (B6 m n 0),ints (B6 m n 1)].take k)/\Hid (EE wr R.heap.size (.slice qt k ct) H)/\Hid (Qb R wr)) (λ_ kv _=>3-(intOf kv).toNat)
    case atStart=>exact⟨0,0,none,[],Q0,rfl,rfl,rfl,EE.nil _ _,Ag _ _⟩
    case round =>
     obtain⟨k,ct,qt,H,hk,rfl,rfl,a9,a4,J⟩:=hrel;have h2:=J.out.size
     have n2:H.length=k:=by
      have:=Co List.length a9.out;rw[Da,BO] at this;simp at this;omega
     have a7:=Aa n2;clear n2
     by_cases r9:k<2
     ·rcases(show k=0\/k=1 by omega) with rfl|rfl
      ·go_wp2_with fail
       refine(i5.out _ J.out).mono ?_;rintro e z ⟨l,h,rfl,⟨b7,c0⟩,U⟩;have b8:=Aa ((a4.out.below U).below ((Ag z.heap.size z).alloc (Af _) (.cells #[.slice l n h] 67)));have f7:Hid (Ac (z.alloc (.cells #[.slice l n h] 67)) (z.alloc (.cells #[.slice l n h] 67)).heap.size (.slice l n h) (ints (B6 m n 0))/\Bd (z.alloc (.cells #[.slice l n h] 67)) (.slice l n h)):=⟨DS b7 ((Ag _ _).alloc (Af _) _),c0.below ((Ag _ _).alloc (Af _) _)⟩;have a8:=Aa (J.out.trans (U.mono h2));have g9:=a8.out.size;clear b7 c0 U a4 J
       go_wp2_with
        (at_builtin
         refine Yg rfl _ _ rfl R.heap.size _ H rfl b8.out z.heap.size (.slice l n h,ints (B6 m n 0)) rfl (Am _ _ _ rfl) f7.out (by rw[a7.out];omega) Q4 ?_
         intro q6 c6 w6 Y b4;rw[a7.out] at Y |-;have f6:=Aa Y;have e9:Hid (Qb R w6):=(a8.out.alloc g9 _).grown b4 Q4 (λd9 e=>Dm b8.out.own e)
         clear Y b4)
       go_roundw
       case rel=>exact⟨0+1,c6,q6,H++[(.slice l n h,ints (B6 m n 0))],Q0,by go_num,rfl,by show _=_;rw[D3,a9.out];rfl,f6,e9⟩
       case measure=>simp[intOf]
      ·go_wp2_with fail
       refine(i6.out _ J.out).mono ?_;rintro e z ⟨l,h,rfl,⟨b7,c0⟩,U⟩;have b8:=Aa ((a4.out.below U).below ((Ag z.heap.size z).alloc (Af _) (.cells #[.slice l n h] 67)));have f7:Hid (Ac (z.alloc (.cells #[.slice l n h] 67)) (z.alloc (.cells #[.slice l n h] 67)).heap.size (.slice l n h) (ints (B6 m n 1))/\Bd (z.alloc (.cells #[.slice l n h] 67)) (.slice l n h)):=⟨DS b7 ((Ag _ _).alloc (Af _) _),c0.below ((Ag _ _).alloc (Af _) _)⟩;have a8:=Aa (J.out.trans (U.mono h2));have g9:=a8.out.size;clear b7 c0 U a4 J
       go_wp2_with
        (at_builtin
         refine Yg rfl _ _ rfl R.heap.size _ H rfl b8.out z.heap.size (.slice l n h,ints (B6 m n 1)) rfl (Am _ _ _ rfl) f7.out (by rw[a7.out];omega) Q4 ?_
         intro q6 c6 w6 Y b4;rw[a7.out] at Y |-;have f6:=Aa Y;have e9:Hid (Qb R w6):=(a8.out.alloc g9 _).grown b4 Q4 (λd9 e=>Dm b8.out.own e)
         clear Y b4)
       go_roundw
       case rel=>exact⟨1+1,c6,q6,H++[(.slice l n h,ints (B6 m n 1))],Q0,by go_num,rfl,by show _=_;rw[D3,a9.out];rfl,f6,e9⟩
       case measure=>simp[intOf]
     ·obtain rfl:k=2:=Q0
      obtain⟨⟨va,xa⟩,⟨vb,xb⟩,rfl⟩:∃pa pb,H=[pa,pb]:=by
       match H,a7.out with
       | [pa,pb],_=>exact⟨pa,pb,rfl⟩
      have k3:=a9.out;simp at k3;obtain⟨rfl,rfl⟩:=k3;have a3:Hid (Db wr wr.heap.size (.slice qt 2 ct) [(va,ints (B6 m n 0)),(vb,ints (B6 m n 1))]):=a4.out.is;have m7:=Aa ((A.out.is).up J.out);have a0:=Aa (K.out.trans (J.out.mono l8));obtain⟨S,k2⟩:=Qe wr;rw[k2] at a3 m7 a0 |-;clear k2 a4 J a9 a7 h2 i5 i6 q4 q5 h3 h4;have r2:=a0.out.size
      have n7:Hid (∀W u j,Qb S W->Ac W W.heap.size u (ints (Ee m j))->Qk 119 #[va,u] W λe a=>e=.returned (.tuple #[Qi (IZ (B6 m n 0) (Ee m j):Nat),Qi 0])/\Qb W a):=λW u j I hu =>
       zql W va u _ _ (DS (a3.out.2 _ (Jh ..)) I) hu l3 (by have:=OL m j;omega) (λs y=>by rw[l5];exact e0.out s (UH y))
      have n8:Hid (∀W u j,Qb S W->Ac W W.heap.size u (ints (Ee m j))->Qk 119 #[vb,u] W λe a=>e=.returned (.tuple #[Qi (IZ (B6 m n 1) (Ee m j):Nat),Qi 0])/\Qb W a):=λW u j I hu =>
       zql W vb u _ _ (DS (a3.out.2 _ (J6 _ (Jh ..))) I) hu l4 (by have:=OL m j;omega) (λs y=>by rw[l6];exact e0.out s (UH y))
      obtain⟨gt,ot,q0,k9,Ir,l0⟩:=a3.out.at 0 _ rfl;obtain⟨r5,s0,h8,s2,b6,l1⟩:=a3.out.at 1 _ rfl;subst q0;injection h8 with h8
      injection h8 with e1 e2
      subst e1 e2;rw[Ic] at Ir
      dsimp only at Ir b6
      obtain⟨s1,r4,h9,-⟩:=l0.shape;obtain⟨q9,o7,i0,-⟩:=l1.shape
      dsimp only at h9 i0
      rw[Bj,l5] at h9;rw[Bj,l6] at i0;subst h9 i0;have o4:=Aa Ir;have r0:=Aa b6;have m9:(Cz m n).length=i:=by unfold Cz;rw[Da,Gn,Q.out,a1.out]
      have f4:=Aa m9;have o2:Hid (∀j,j<i->(Cz m n)[j]?=some (IG m n j)):=λj hj=>by unfold Cz;rw[Q.out,a1.out,EA,Ji hj];rfl
      clear Ir b6 l0 l1 l3 l4 m9
      go_wp2_with fail
      go_loopw [5,92] (λcv jv wr=>∃(j cc:Nat)(qc:Option Addr),j<=i/\jv=Qi j/\cv=.slice qc j cc/\Hid (Ad wr S.heap.size (.slice qc j cc) (ints ((Cz m n).take j)))/\Hid (Qb S wr)) (λ_ jv _=>i+1-(intOf jv).toNat)
      case atStart=>exact⟨0,0,none,BI _,rfl,rfl,Ad.nil _ _,Ag _ _⟩
      case round =>
       obtain⟨j,cc,qc,hj,rfl,rfl,c4,E⟩:=hrel;have h0:=E.out.size
       by_cases l2:j<i
       ·obtain⟨vi,X⟩:=j5.out j l2
        obtain⟨d6,d8,hq,hg,V,O⟩:=m7.out.at j _ X;subst hq
        dsimp only at V O
        obtain⟨qi,di,a5,-⟩:=O.shape;rw[Bj] at a5;obtain⟨T,Z⟩:=Qe ((Ee m j).length);rw[Z] at a5;subst a5;have j4:=Aa (DS O E.out);have V:=(E.out.cell (p:=⟨d6,d8+j,none⟩) hg).trans V;have Ir:=(E.out.cell (p:=⟨gt,ot,none⟩) k9).trans o4.out;have g7:=o2.out j l2;unfold IG at g7;have i2:=Aa (n7.out wr _ j E.out j4.out);have i3:Hid (∀W,Qb wr W->Qk 119 #[.slice q9 n o7,.slice qi T di] W λe a=>e=.returned (.tuple #[Qi (IZ (B6 m n 1) (Ee m j):Nat),Qi 0])/\Qb W a):=λW I=>n8.out W _ j (E.out.trans (I.mono h0)) (DS j4.out I);generalize IZ (B6 m n 0) (Ee m j)=x0 at*
        generalize IZ (B6 m n 1) (Ee m j)=x1 at*
        have j1:=Aa g7;clear X O Z g7
        go_wp2_with fail
        refine i2.out.mono ?_;rintro e w7 ⟨rfl,b3⟩;have b6:=((E.out.trans (b3.mono h0)).cell (p:=⟨gt,ot+1,none⟩) k9).trans r0.out;have i4:=Aa (i3.out w7 b3);have f0:=Aa (E.out.trans (b3.mono h0));have j6:=Aa (c4.out.below b3);have q8:=f0.out.size;clear b3 i2 i3 c4 E
        go_wp2_with fail
        refine i4.out.mono ?_;rintro e w8 ⟨rfl,g1⟩;have f1:=Aa (f0.out.trans (g1.mono q8));have c7:=Aa (j6.out.below g1);have l9:=f1.out.size;clear g1 i4 j6 f0 b6 Ir
        by_cases g:x1<x0
        ·have f8:Hid ((Cz m n).take (j+1)=(Cz m n).take j++[1]):=by
          show _=_
          rw[G7,j1.out,if_pos g];rfl
         have b1:Hid ((ints ((Cz m n).take j)).length=j):=by
          show _=_
          rw[Bj,BO,f4.out];omega
         go_wp2_with
          (at_builtin
           refine KN rfl _ _ rfl S.heap.size _ (ints ((Cz m n).take j)) rfl (c7.out.alloc _) (w8.heap.size+1) _ [1] rfl (Ac.new w8 [1] _ _ _ rfl rfl rfl (by simp[maxLen])) (by rw[b1.out];simp;omega) Q4 ?_
           intro n6 n4 w9 P b9 h7;rw[show(ints ((Cz m n).take j)).length+[(1:Int)].length=j+1 by rw[b1.out];rfl] at P |-
           rw[show ints ((Cz m n).take j)++[(1:Int)]=ints ((Cz m n).take (j+1)) by rw[f8.out];simp[ints]] at P
           have i1:=Aa P;have f2:Hid (Qb S w9):=(f1.out.alloc l9 _).grown b9 Q4 (λd9 e=>Dm c7.out e)
           clear b9 h7 P)
         go_roundw
         case rel=>exact⟨j+1,_,_,Q0,by go_num,rfl,i1,f2⟩
         case measure=>simp[intOf];omega
        ·have f8:Hid ((Cz m n).take (j+1)=(Cz m n).take j++[0]):=by
          show _=_
          rw[G7,j1.out,if_neg g];rfl
         have b1:Hid ((ints ((Cz m n).take j)).length=j):=by
          show _=_
          rw[Bj,BO,f4.out];omega
         go_wp2_with
          (at_builtin
           refine KN rfl _ _ rfl S.heap.size _ (ints ((Cz m n).take j)) rfl (c7.out.alloc _) (w8.heap.size+1) _ [0] rfl (Ac.new w8 [0] _ _ _ rfl rfl rfl (by simp[maxLen])) (by rw[b1.out];simp;omega) Q4 ?_
           intro n6 n4 w9 P b9 h7;rw[show(ints ((Cz m n).take j)).length+[(0:Int)].length=j+1 by rw[b1.out];rfl] at P |-
           rw[show ints ((Cz m n).take j)++[(0:Int)]=ints ((Cz m n).take (j+1)) by rw[f8.out];simp[ints]] at P
           have i1:=Aa P;have f2:Hid (Qb S w9):=(f1.out.alloc l9 _).grown b9 Q4 (λd9 e=>Dm c7.out e)
           clear b9 h7 P)
         go_roundw
         case rel=>exact⟨j+1,_,_,Q0,by go_num,rfl,i1,f2⟩
         case measure=>simp[intOf];omega
       ·obtain rfl:j=i:=Q0
        have e6:=c4.out;rw[BR (by rw[f4.out];exact Af _)] at e6
        have b0:=Aa e6.is;have o3:=Aa (a3.out.up E.out);have o1:=Aa (a0.out.trans (E.out.mono r2));clear e6 c4 E
        go_wp2_with fail
        go_ret3
        exact⟨_,_,_,ct,qc,cc,by rw[a1.out];rfl,o3.out,by rw[a1.out];exact b0.out,o1.out⟩
