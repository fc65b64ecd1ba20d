import Derived.Test.YtoejfkeofbdalaaGreatDoorM44
import Derived.Test.YtoejfkeofbdalaaGreatDoorM46
set_option linter.all false
set_option maxRecDepth 100000
set_option maxHeartbeats 8000000
namespace Go.Proofs.YtoejfkeofbdalaaGreatDoor
open Go.RowKit Go.Shelf
theorem zr6(W:World)(b:Nat)(s:ByteArray)(h:Qg W b #[.string s] 9)(L:List Av)(a:Cu s L)(i:Ig L=true) :
 Qk 48 #[Qp b 0] W λe j=>∃v,e=.returned (.tuple #[v,Qi 0])/\j.ownsRow W.heap.size 56 5 v (Cl L).length (DR 0 (Cl L))/\Qb W j:=by
 have c:=Aa (zxK s W a.size L a.ne a.at0 a.few a.evsL a.resL (λk=>BU (a.txL k) Q0))
 have g:GG L=0:=by rw[GG,if_pos i]
 rw[g] at c;have l:=BH h;clear a i g h
 go_enter Tryz.func48,Tryz.ntmps48
 go_wp2_with fail
 refine c.mono ?_;rintro e m ⟨v,rfl,d,f⟩;have H:=Aa (Gc d f);clear d f
 go_wp2_with fail
 go_ret2
 exact⟨v,rfl,H⟩
theorem zmH:Enters Tryz.prog 48:=enters_of Tryz.func48 Q2 rfl
theorem zoF(W:World):(Instr.makeSlice 37 (Qi 1) (Qi 1)).run Tryz.prog W=.ok (Qs W.heap.size 0 1 1) (W.alloc (.cells #[Qi 0,Qi 0,Qi 0,Qi 0,Qi 0,.string ⟨#[]⟩,.string ⟨#[]⟩] 185)):=Q2
theorem zum(w:World)(s:ByteArray)(R:Nat)(a4:1<=R/\R<=2)(F:FuncId)(a1:Array Value)(j:Enters Tryz.prog F)(f:List Ai)
 (I:∀W:World,Qb w W->Qk F a1 W λe g=>∃v,e=.returned (.tuple #[v,Qi 0])/\g.ownsRow W.heap.size 56 5 v f.length (DR 0 f)/\Qb W g) :
 Qk 47 #[.string s,Qi (R:Nat),Qi 1,.func (.func F) #[] a1] w λe g=>∃x M,e=.returned (.tuple #[.agg #[.string s,x,Qi (R:Nat),Qi 0,.slice none 0 0,M,Qi 0],Qi 0])/\g.ownsRow w.heap.size 56 5 x f.length (DR 0 f)/\g.ownsRow w.heap.size 185 7 M 1 (DH DD)/\Qb w g:=by
 have B:=Aa (λW=>zwE W R ⟨a4.1,Q0⟩)
 have A:=Aa I;have a7:=Aa j;obtain⟨d,b2⟩:=Qe w.heap.size;obtain⟨W,K,H,G⟩:=Lf w d b2 (.cells #[.string ⟨#[]⟩,.slice none 0 0,Qi 0,Qi 0,.slice none 0 0,.slice none 0 0,Qi 0] 39);have o:=Aa H;have C:=Aa G;have D:=Aa K;clear I H G K j
 go_enter Tryz.func47,Tryz.ntmps47
 go_upto_region 1 with(fail)
 rw[D.out];clear D
 go_wp2_with fail
 refine(B W).mono ?_;rintro e N ⟨rfl,m⟩;obtain⟨k,X⟩:=Qe N.heap.size;obtain⟨a3,V,J,u⟩:=Lf N k X (.cells #[Qi (R:Nat),Qi 0,.slice none 0 0] 36);have P:=Aa (Al u (Al m o));have l:=Aa (A9 u (A9 m C));have S:=Aa J;have T:=Aa V;have b5:d<k:=by have:=Aj (Al m o);omega
 have b4:¬ (R:Int)<1:=Q0
 have O:=Aa (A a3 l);have j:=a7.out;unfold Enters at j;clear m u J V o C B A
 go_upto_region 4 with(fail)
 rw[T.out];clear T X
 go_wp2_with fail
 refine O.mono ?_;rintro e c ⟨x,rfl,z,n⟩;obtain⟨L,E,rfl,-,-⟩:=Rd.isSlice (Rd.own z);have Q:=Aa (Al n P);have h:=Aa (Al n S);have a8:=Aa (EY z l.size);have a5:=Aa (A9 n l);clear z n P S l O j
 go_upto_region 7 with(fail)
 have k0:=BH h;have k1:=BX h;have k2:=Dr h;have Y:=zoF c.drew;obtain⟨b,Z⟩:=Qe c.heap.size;have i:=Ay (Cq (Ag c.heap.size c)) (.cells #[Qi 0,Qi 0,Qi 0,Qi 0,Qi 0,.string ⟨#[]⟩,.string ⟨#[]⟩] 185);have U:=Am c.drew (.cells #[Qi 0,Qi 0,Qi 0,Qi 0,Qi 0,.string ⟨#[]⟩,.string ⟨#[]⟩] 185) b Z.symm;have a:=Aa (Al i Q);have y:=Aa (Al i h);have a9:=Aa (Cd a8 i);have a6:=Aa (A9 i a5);have b0:=Aa U
 have a0:d<b/\k<b/\w.heap.size<=b:=by
  have:=Aj Q;have:=Aj h;omega
 have b6:d≠b:=Q0
 have b7:d<b:=a0.1;have b8:k≠b:=Q0
 have b3:(Instr.makeSlice 37 (Qi 1) (Qi 1)).run Tryz.prog c.drew=.ok (Qs b 0 1 1) (c.drew.alloc (.cells #[Qi 0,Qi 0,Qi 0,Qi 0,Qi 0,.string ⟨#[]⟩,.string ⟨#[]⟩] 185)):=by rw[<-Z];exact Y
 clear i U Y;generalize c.drew.alloc _=a2 at*
 have l0:=BH y;have l1:=BX y;have l2:=Dr y;have y0:=BH a;have y1:=BX a;have y2:=Dr a;have y3:=D7 a;have y4:=DK a;have y5:=DJ a;have y6:=DM a;have g0:=Ah a 0;have g1:=Ah a 1;have g2:=Ah a 2;have g3:=Ah a 3;have g4:=Ah a 4;have g5:=Ah a 5;have g6:=Ah a 6
 go_region_with (fail)
 all_goals
  clear k0 k1 k2 l0 l1 l2 y0 y1 y2 y3 y4 y5 y6 g0 g1 g2 g3 g4 g5 g6 b3
  go_wp2_with fail
  have b1:=Ak (Ak (Ak (Ak (Ak (Ak (Ak a 0 (.string s)) 1 (.slice L f.length E)) 2 (Qi (R:Nat))) 3 (Qi 0)) 4 (.slice none 0 0)) 5 (Qs b 0 1 1)) 6 (Qi 0);have t:=(((((((Ab.refl d a2).set 0 (.string s)).set 1 (.slice L f.length E)).set 2 (Qi (R:Nat))).set 3 (Qi 0)).set 4 (.slice none 0 0)).set 5 (Qs b 0 1 1)).set 6 (Qi 0);exact BV (Nn (p:=8) (q:=9) rfl _ _ _ ⟨d,0,none⟩ _ rfl (O9 _ _ _ _ _ _ _ _ _ b1)) rfl ⟨_,_,rfl,F9 a9 t a Q5,WQ (more:=[]) (r:=DD) (t.other b0 Q0) a0.2.2 (Af _) (by simp[maxLen]) rfl,t.bel a6 Q0 (Af _)⟩
theorem zvY(w:World)(s:ByteArray)(R:Nat)(z:1<=R/\R<=2)(L:List Av)(G:Cu s L)(B:Ig L=true)(a2:Bz (Cl L)) :
 Qk 13 #[.string s,Qi (R:Nat),Qi 1] w λe E=>∃i j,e=.returned (.tuple #[.agg #[.string s,i,Qi (R:Nat),Qi 0,.slice none 0 0,j,Qi 0],Qi 0])/\Ar E w.heap.size i R 0 (.slice none 0 0) j 0 (Cl L) [] DD/\Qb w E:=by
 have n:=Aa (λW b (S:Qg W b #[.string s] 9)=>zum W s R z 48 #[.pointer (some ⟨b,0,none⟩)] zmH (Cl L) (λH h=>zr6 H b s (Al h S) L G B));obtain⟨d,a3⟩:=Qe w.heap.size;obtain⟨W,A,v,y,x⟩:=QL w d a3 (.cells #[.string s] 9) (.cells #[.string ⟨#[]⟩,.slice none 0 0,Qi 0,Qi 0,.slice none 0 0,.slice none 0 0,Qi 0] 39);have f:=Aa v;have o:=Aa y;have c:=Aa x;have r:=Aa A;clear v y x A G B
 go_enter Tryz.func13,Tryz.ntmps13
 go_upto_region 1 with(fail)
 rw[r.out];clear r;have I:=BH f
 go_wp2_with fail
 refine(n W d f).mono ?_;rintro e T ⟨i,j,rfl,l,m,k⟩;obtain⟨D,u,rfl,-,-⟩:=Rd.isSlice (Rd.own m);obtain⟨C,t,rfl,-,-⟩:=Rd.isSlice (Rd.own l);have a:=Aa (Al k o);have F:=Aa (Gc (EY l c.size) (EY m c.size));have a0:=Aa (A9 k c);clear I l m k n f o c;have U:=BH a;have V:=BX a;have X:=Dr a;have Y:=D7 a;have Z:=DK a;have y5:=DJ a;have y6:=DM a;have J:=Ah a 0;have K:=Ah a 1;have M:=Ah a 2;have N:=Ah a 3;have O:=Ah a 4;have P:=Ah a 5;have Q:=Ah a 6
 go_wp2_with fail
 clear U V X Y Z y5 y6 J K M N O P Q;have a1:=Ak (Ak (Ak (Ak (Ak (Ak (Ak a 0 (.string s)) 1 (.slice C (Cl L).length t)) 2 (Qi (R:Nat))) 3 (Qi 0)) 4 (.slice none 0 0)) 5 (.slice D 1 u)) 6 (Qi 0);have g:=(((((((Ab.refl (d+1) T).set 0 (.string s)).set 1 (.slice C (Cl L).length t)).set 2 (Qi (R:Nat))).set 3 (Qi 0)).set 4 (.slice none 0 0)).set 5 (.slice D 1 u)).set 6 (Qi 0)
 exact BV (Nn (p:=6) (q:=7) rfl _ _ _ ⟨d+1,0,none⟩ _ rfl (O9 _ _ _ _ _ _ _ _ _ a1)) rfl ⟨_,_,rfl,
  ⟨F9 F.1 g a Q5,a2,GU _ _ _ _,z,BI _,A7.nil R 0,λa4 h=>by simp at h,F9 F.2 g a Q5,.inl rfl,BI _,λh=>absurd h Q5⟩,g.bel a0 Q0 (Af _)⟩
end Go.Proofs.YtoejfkeofbdalaaGreatDoor
namespace Go.Proofs.YtoejfkeofbdalaaGreatDoor
open Go.RowKit
variable {C:List Bool} {a:List (List UInt8)} {f:List UInt8} {i k m n:Nat}
theorem zpA:∀(m:Nat)(l:List UInt8)(R:Nat),l.length<=m->min l.length (R / 5)<=Gf l (R:Int)
 | 0,l,R,hm=>by
   have:l=[]:=Ey Q0
   subst this;simp
 | m+1,l,R,hm=>by
   by_cases a:l=[]
   ·subst a;simp
   ·have d:=MF a
    have f:=zyT (Cr l);have g:=Qx l;rw[zmS a]
    by_cases b:(Ea (Cr l):Int)<=R
    ·rw[if_pos b]
     have e:(R:Int)-(Ea (Cr l):Int)=((R-Ea (Cr l):Nat):Int):=Q0
     have c:=zpA m (l.drop (Cr l)) (R-Ea (Cr l)) (by rw[D9];omega)
     rw[e];rw[D9] at c;omega
    ·rw[if_neg b]
     omega
theorem zrC(R:Nat)(d:40<=R):∀(m:Nat)(l:List UInt8),l.length<=m->8*(Ev (R:Int) l).length<=l.length+7
 | 0,l,hm=>by
   have:l=[]:=Ey Q0
   subst this;simp[zuR]
 | m+1,l,hm=>by
   by_cases a:l=[]
   ·subst a;simp[zuR]
   ·have e:=zpA l.length l R (Af _)
    have f:=(Xu l.length l R (Af _) Q0).1
    have g:=Qj a (R:Int) Q0
    have c:=zrC R d m (l.drop (Gf l R)) (by rw[D9];omega)
    rw[zkb _ Q0 a,Bt]
    rw[D9] at c
    by_cases b:l.drop (Gf l R)=[]
    ·rw[b,zuR] at c |-
     simp;omega
    ·have:0<(l.drop (Gf l R)).length:=Ga.2 b
     rw[D9] at this;omega
theorem zzv(u v:List UInt8)(a n:Nat)(h:a+n<=8*u.length):B.slice (u++v) a n=B.slice u a n:=by
 apply Mo
 ·rw[B.length_slice,B.length_slice]
 ·intro k b e
  rw[B.length_slice] at b;have c:=B.getD_slice (u++v) a n k b;have d:=B.getD_slice u a n k b;rw[Cx,Az (by rw[B.length_slice];exact b),Es] at c d
  rw[c,d];unfold B.bitAt;rw[Cx,Cx,FP Q0]
theorem zu9(u v:List UInt8)(a n:Nat):B.slice (u++v) (8*u.length+a) n=B.slice v a n:=by
 apply Mo
 ·rw[B.length_slice,B.length_slice]
 ·intro k b e
  rw[B.length_slice] at b;have c:=B.getD_slice (u++v) (8*u.length+a) n k b;have d:=B.getD_slice v a n k b;rw[Cx,Az (by rw[B.length_slice];exact b),Es] at c d
  rw[c,d];unfold B.bitAt;rw[Cx,Cx,F7 Q0]
  rw[show(8*u.length+a+k)/ 8-u.length=(a+k)/ 8 by omega,show(8*u.length+a+k)%8=(a+k)%8 by omega]
theorem BC.left(v:List UInt8)(h:BC f n C):BC (f++v) n C :=
 ⟨by rw[AJ];have:=h.1;omega,by rw[zzv f v n _ h.1];exact h.2⟩
theorem BC.right(u:List UInt8)(h:BC f n C):BC (u++f) (8*u.length+n) C :=
 ⟨by rw[AJ];have:=h.1;omega,by rw[zu9 u f n];exact h.2⟩
theorem Bv.left(v:List UInt8)(h:Bv f n m a k i):Bv (f++v) n m a k i :=
 ⟨h.lies.left v,h.pad8,h.pad7,h.lv1,h.lv9,h.ok,h.z32⟩
theorem Bv.right(u:List UInt8)(h:Bv f n m a k i):Bv (u++f) (u.length+n) m a k i :=
 ⟨by rw[Ng];exact h.lies.right u,h.pad8,h.pad7,h.lv1,h.lv9,h.ok,h.z32⟩
def zwM(u:List UInt8)(p:Ai):Prop:=p.t≠[]/\Gs p.t<=p.room/\BC u p.at0 (Fm p.t)/\40<=p.room/\p.room<=360/\p.room%40=0
theorem Fb(a:Nat)(b:List (List UInt8)):∀(d q:Nat),q+d<=b.length->EJ a b q+48*d<=EJ a b (q+d)
 |0,q,h=>Af _
 | d+1,q,h=>by
   have c:=Fb a b d q Q0
   have e:=zp8 a b (q+d) Q0
   rw[<-Lv];omega
theorem zBy(i:Nat)(S:Av){p:Ai}(a:p∈S.parts i):∃q,∃b:q<S.ts.length,p=⟨S.ts[q],EJ (8*i+32) S.ts q,EJ (8*i+32) S.ts (q+1),40*S.lv⟩:=by
 unfold Av.parts at a;obtain⟨q,b,rfl⟩:=C8.1 a;have c:=EB.1 b;exact⟨q,c,by simp[Av.part,Cx,Az c]⟩
theorem zAx{S:Av}(h:Bv f n S.lv S.ts S.z S.pad):∀p∈S.parts n,zwM f p/\8*n+32<=p.at0/\p.at0<8*(n+S.bytes):=by
 intro p e;obtain⟨q,b,rfl⟩:=zBy n S e;have c:=h.ok S.ts[q] (Et b);have a:=Fb (8*n+32) S.ts q 0 Q0
 have d:=Fb (8*n+32) S.ts (S.ts.length-q) q Q0
 have g:=Av.next h;have i:=h.lv1;have j:=h.lv9;rw[zkj] at a;rw[show q+(S.ts.length-q)=S.ts.length by omega] at d
 rw[DC] at a;refine⟨⟨c.1,c.2,h.block q b,?_,?_,?_⟩,?_,?_⟩
 ·show 40<=40*S.lv;omega
 ·show 40*S.lv<=360;omega
 ·show 40*S.lv%40=0;omega
 ·show 8*n+32<=EJ (8*n+32) S.ts q;omega
 ·show EJ (8*n+32) S.ts q<_;omega
theorem ztB(i:Nat)(S:Av):(S.parts i).Pairwise λp q=>p.at0<q.at0:=by
 unfold Av.parts;rw[List.pairwise_map];rw[Oe];intro a b d c e;rw[List.getElem_range,List.getElem_range];rw[Gn] at c;have:=Fb (8*i+32) S.ts (b-a) a Q0
 rw[show a+(b-a)=b by omega] at this
 show EJ (8*i+32) S.ts a<EJ (8*i+32) S.ts b
 omega
theorem zmO:∀(L:List Av)(i:Nat),KS f i L->(∀p∈Pb i L,zwM f p/\8*i+32<=p.at0)/\(Pb i L).Pairwise λp q=>p.at0<q.at0
 | [],i,_=>⟨λp b=>by simp[Pb] at b,List.Pairwise.nil⟩
 | S::L,i,h=>by
   obtain⟨c,e⟩:=zmO L _ h.2;have g:=zAx h.1;rw[Pb];refine⟨λp b=>?_,?_⟩
   ·rcases FZ.1 b with a|a
    ·exact⟨(g p a).1,(g p a).2.1⟩
    ·exact⟨(c p a).1,by have:=(c p a).2;omega⟩
   ·rw[Lm]
    refine⟨ztB i S,e,λp b q d=>?_⟩;have a:=(g p b).2.2;have j:=(c q d).2;omega
theorem zA3:∀(L:List Av)(i:Nat),(∀S∈L,S.good=true)->DU i L=(Pb i L).map some
 | [],_,_=>rfl
 | S::L,i,h=>by
   rw[DU,Pb,if_pos (h S Q6),zA3 L _ (λS a=>h S (by simp[a])),D3]
theorem zBC:∀(L:List Av)(i:Nat),∀S∈L,S.ts.length<=(Pb i L).length
 | [],i,S,h=>by simp at h
 | A::L,i,S,h=>by
   rw[Pb,AJ,Av.length_parts];rcases CZ.1 h with e|h
   ·subst e;omega
   ·have:=zBC L (i+A.bytes) S h
    omega
theorem zBB(T:ByteArray)(L:List Av)(f:KS T.data.toList 0 L)(x:L≠[])(g:∀S∈L,S.good=true)(n:T.size<=1000000)(z:(Pb 0 L).length<=10000)(C:(Bi (Pb 0 L)).length<=10000) :
 Cu T L/\Ig L=true/\Cl L=Pb 0 L/\Gz T.data.toList (Cl L):=by
 have m:Ig L=true:=by
  unfold Ig;exact List.all_eq_true.2 g
 have b:Cl L=Pb 0 L:=by rw[Cl,if_pos m]
 obtain⟨i,r⟩:=zmO L 0 f;have l:T.data.toList.length=T.size:=by simp
 refine⟨⟨n,x,f,λS o=>?_,?_,?_,λk=>?_⟩,m,b,?_⟩
 ·have:=zBC L 0 S o
  omega
 ·rw[zA3 L 0 g,Da]
  omega
 ·rw[b];omega
 ·rw[b]
  have:=zrG (Pb 0 L) k;omega
 rw[b];refine⟨by rw[l];exact n,⟨Q0,Q0,λk p a=>?_⟩,λk p a=>?_⟩
 ·have h:=Cn a
  obtain⟨⟨d,j,c,s,t,u⟩,A⟩:=i p h;have y:=Ga.2 d
  have B:p.t.length<=(Bi (Pb 0 L)).length:=by
   unfold Bi;rw[List.flatMap_def];exact List.Sublist.length_le (List.sublist_flatten_of_mem (C8.2 ⟨p,h,rfl⟩))
  have v:=c.1;rw[l] at v;refine⟨y,Q0,s,t,u,?_,Q0⟩
  cases k with
  |zero=>show 31<p.at0;omega
  | succ k =>
    obtain⟨w,q⟩:=Cc.1 a;have e:=Oe.1 r k (k+1) Q0 w Q0
    rw[q] at e
    show((Pb 0 L)[k]?.map (·.at0)).getD 0<_
    rw[Az Q0]
    exact e
 ·obtain⟨⟨d,j,c,-⟩,-⟩:=i p (Cn a)
  exact⟨d,j,c⟩
theorem zos(a:Nat)(x:List UInt8)(e:1<=a)(j:a<=9)(p:x.length<=1000) :
 ∃S:Av,Bv (B.pack (I8 a x)) 0 S.lv S.ts S.z S.pad/\S.bytes=(B.pack (I8 a x)).length/\S.good=true/\(∀i,Bi (S.parts i)=x)/\(∀i,8*(S.parts i).length<=x.length+7)/\8*(B.pack (I8 a x)).length<=30000*((x.length+7)/ 8)+200:=by
 have d:=zmZ a e x;have g:=zrC (40*a) Q0 _ x (Af _)
 have f:=zsb ((40*a:Nat):Int) Q0 x
 have k:=Wv (room:=40*a) Q0 _ d
 unfold I8;obtain⟨b,l⟩:=Qe (Ev ((40*a:Nat):Int) x);rw[l] at d g f k |-;obtain⟨c,h,m⟩:=zmB a b (Gj (b.map BG)) e j d (zxc _);have n:8*Av.bytes ⟨a,b,Gj (b.map BG),c⟩=112+(DX b).length+c:=Av.bytes8 (S:=⟨a,b,_,c⟩) h;have o:=h.pad7;refine⟨⟨a,b,Gj (b.map BG),c⟩,h,Q0,by simp[Av.good],λi=>?_,λi=>?_,Q0⟩
 ·rw[We];exact f
 ·rw[Av.length_parts];exact g
theorem LK(a b:List Ai):Bi (a++b)=Bi a++Bi b:=by simp[Bi]
theorem zBP(a b:Nat)(x y:List UInt8)(z:1<=a)(C:a<=9)(v:1<=b)(w:b<=9)(V:x.length<=300)(W:y.length<=100) :
 ∃L M,Cu (Ba (I8 a x)) L/\Ig L=true/\Bi (Cl L)=x/\Gz (Ba (I8 a x)).data.toList (Cl L)/\
  Cu (Ba (I8 a x)++Ba (I8 b y)) M/\Ig M=true/\Bi (Cl M)=x++y/\Gz (Ba (I8 a x)++Ba (I8 b y)).data.toList (Cl M)/\
  14<=(Ba (I8 b y)).size/\(Ba (I8 a x)).size<=500000/\(Ba (I8 b y)).size<=400000/\(Cl L).length<=400/\(Cl M).length<=400:=by
 obtain⟨S,k,q,I,i,J,K⟩:=zos a x z C Q0
 obtain⟨R,o,F,Z,p,G,H⟩:=zos b y v w Q0
 obtain⟨P,m⟩:=Qe (B.pack (I8 a x));obtain⟨Q,n⟩:=Qe (B.pack (I8 b y));have j:(Ba (I8 a x)).data.toList=P:=m;have l:(Ba (I8 b y)).data.toList=Q:=n;have r:(Ba (I8 a x)).size=P.length:=by rw[<-j];simp
 have s:(Ba (I8 b y)).size=Q.length:=by rw[<-l];simp
 rw[m] at k q K;rw[n] at o F H;obtain⟨T,D⟩:=Qe (Ba (I8 a x));obtain⟨U,E⟩:=Qe (Ba (I8 b y));rw[D] at j r |-;rw[E] at l s |-
 have N:(T++U).data.toList=P++Q:=by
  rw[<-j,<-l];simp[ByteArray.data_append]
 have a0:(T++U).size=P.length+Q.length:=by rw[QY,r,s]
 have O:=R.bytes_pos
 have t:KS T.data.toList 0 [S]:=by
  rw[j];refine⟨k,?_⟩
  show 0+S.bytes=_
  omega
 have u:KS (T++U).data.toList 0 [S,R]:=by
  rw[N];refine⟨k.left Q,?_,?_⟩
  ·have:=o.right P
   rw[DC,q];exact this
  ·show 0+S.bytes+R.bytes=_
   rw[AJ];omega
 have g:Pb 0 [S]=S.parts 0:=by simp[Pb]
 have h:Pb 0 [S,R]=S.parts 0++R.parts (0+S.bytes):=by simp[Pb]
 have X:=J 0;have Y:=G (0+S.bytes);have c:=zBB T [S] t Q6 (λA f=>by simp at f;rw[f];exact I) Q0 (by rw[g];omega) (by rw[g,i];omega)
 have d:=zBB (T++U) [S,R] u Q6 (λA f=>by simp at f;rcases f with e|e<;>rw[e]<;>assumption) Q0 (by rw[h,AJ];omega) (by rw[h,LK,i,p,AJ];omega)
 refine⟨[S],[S,R],c.1,c.2.1,?_,c.2.2.2,d.1,d.2.1,?_,d.2.2.2,Q0,Q0,Q0,?_,?_⟩
 ·rw[c.2.2.1,g,i]
 ·rw[d.2.2.1,h,LK,i,p]
 ·rw[c.2.2.1,g];omega
 ·rw[d.2.2.1,h,AJ];omega
end Go.Proofs.YtoejfkeofbdalaaGreatDoor
namespace Go.Proofs.YtoejfkeofbdalaaGreatDoor
open Go.RowKit Go.Shelf
theorem zrL(W:World)(b a:Nat)(s S:ByteArray)(i:Qg W b #[.string s] 9)(l:Qg W a #[.string S] 9)(L:List Av)(g:Cu s L)(j:Ig L=true)(f:Bz (Cl L))(h:S.data.toList=Qq s.size (BG s.data.toList) (Cl L)) :
 Qk 49 #[Qp b 0,Qp a 0] W λe k=>∃v,e=.returned (.tuple #[v,Qi 0])/\k.ownsRow W.heap.size 56 5 v (Cl L).length (DR 0 (Cl L))/\Qb W k:=by
 have m:=Aa (zBI W s S L g j f h);have n:=BH i;have o:=BH l;clear g j i l f h
 go_enter Tryz.func49,Tryz.ntmps49
 go_wp2_with fail
 refine m.mono ?_;rintro e p ⟨v,rfl,c,d⟩;have H:=Aa (Gc c d);clear c d
 go_wp2_with fail
 go_ret2
 exact⟨v,rfl,H⟩
theorem znL:Enters Tryz.prog 49:=enters_of Tryz.func49 Q2 rfl
theorem zu2(w:World)(s S:ByteArray)(R:Nat)(A:1<=R/\R<=2)(L:List Av)(J:Cu s L)(D:Ig L=true)(K:Bz (Cl L))(B:S.data.toList=Qq s.size (BG s.data.toList) (Cl L)) :
 Qk 14 #[.string s,.string S,Qi (R:Nat),Qi 1] w λe G=>∃i j,e=.returned (.tuple #[.agg #[.string s,i,Qi (R:Nat),Qi 0,.slice none 0 0,j,Qi 0],Qi 0])/\Ar G w.heap.size i R 0 (.slice none 0 0) j 0 (Cl L) [] DD/\Qb w G:=by
 have o:=Aa (λW b (Z:Qg W b #[.string s] 9) (a2:Qg W (b+1) #[.string S] 9)=>zum W s R A 49 #[.pointer (some ⟨b,0,none⟩),.pointer (some ⟨b+1,0,none⟩)] znL (Cl L) (λM h=>zrL M b (b+1) s S (Al h Z) (Al h a2) L J D K B));obtain⟨d,a3⟩:=Qe w.heap.size;obtain⟨W,C,x,I,z,y⟩:=Ve w d a3 (.cells #[.string s] 9) (.cells #[.string S] 9) (.cells #[.string ⟨#[]⟩,.slice none 0 0,Qi 0,Qi 0,.slice none 0 0,.slice none 0 0,Qi 0] 39);have f:=Aa x;have k:=Aa I;have r:=Aa z;have c:=Aa y;have t:=Aa C;clear x I z y C J D B
 go_enter Tryz.func14,Tryz.ntmps14
 go_upto_region 1 with(fail)
 rw[t.out];clear t;have N:=BH f;have O:=BH k
 go_wp2_with fail
 refine(o W d f k).mono ?_;rintro e w1 ⟨i,j,rfl,m,n,l⟩;obtain⟨F,v,rfl,-,-⟩:=Rd.isSlice (Rd.own n);obtain⟨E,u,rfl,-,-⟩:=Rd.isSlice (Rd.own m);have a:=Aa (Al l r);have H:=Aa (Gc (EY m c.size) (EY n c.size));have a0:=Aa (A9 l c);clear N O m n l o f k r c;have y0:=BH a;have y1:=BX a;have y2:=Dr a;have y3:=D7 a;have y4:=DK a;have y5:=DJ a;have y6:=DM a;have P:=Ah a 0;have Q:=Ah a 1;have T:=Ah a 2;have U:=Ah a 3;have V:=Ah a 4;have X:=Ah a 5;have Y:=Ah a 6
 go_wp2_with fail
 clear y0 y1 y2 y3 y4 y5 y6 P Q T U V X Y;have a1:=Ak (Ak (Ak (Ak (Ak (Ak (Ak a 0 (.string s)) 1 (.slice E (Cl L).length u)) 2 (Qi (R:Nat))) 3 (Qi 0)) 4 (.slice none 0 0)) 5 (.slice F 1 v)) 6 (Qi 0);have g:=(((((((Ab.refl (d+1+1) w1).set 0 (.string s)).set 1 (.slice E (Cl L).length u)).set 2 (Qi (R:Nat))).set 3 (Qi 0)).set 4 (.slice none 0 0)).set 5 (.slice F 1 v)).set 6 (Qi 0)
 exact BV (Nn (p:=8) (q:=9) rfl _ _ _ ⟨d+1+1,0,none⟩ _ rfl (O9 _ _ _ _ _ _ _ _ _ a1)) rfl ⟨_,_,rfl,
  ⟨F9 H.1 g a Q5,K,GU _ _ _ _,A,BI _,A7.nil R 0,λa4 h=>by simp at h,F9 H.2 g a Q5,.inl rfl,BI _,λh=>absurd h Q5⟩,g.bel a0 Q0 (Af _)⟩
