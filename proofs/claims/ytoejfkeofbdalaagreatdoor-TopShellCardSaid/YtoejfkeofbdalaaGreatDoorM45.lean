import Derived.Test.YtoejfkeofbdalaaGreatDoorM44
set_option linter.all false
set_option maxRecDepth 100000
set_option maxHeartbeats 8000000
namespace Go.Proofs.YtoejfkeofbdalaaGreatDoor
open Go.RowKit Go.Shelf
variable {i j k m n:Nat} {v w:World} {x y z:Value}
theorem zr6(W:World)(b:Nat)(s:ByteArray)(h:Qg W b #[.string s] 9)(L:List Av)(a:Cu s L)(i:Ig L=true) :
 Qk 48 #[Qp b 0] W λe j=>∃v,e=.returned (.tuple #[v,Qi 0])/\j.ownsRow W.heap.size 56 5 v (Cl L).length (DR 0 (Cl L))/\Qb W j:=by
 have c:=Aa (zxK s W a.size L a.ne a.at0 a.few a.evsL a.resL (λk=>BU (a.txL k) Q0))
 have g:GG L=0:=by rw[GG,if_pos i]
 rw[g] at c;have l:=BH h;clear a i g h
 go_enter Tryz.func48,Tryz.ntmps48
 go_wp2_with fail
 refine c.out.mono ?_;rintro e m ⟨v,rfl,d,f⟩;have H:=Aa (Gc d f);clear d f
 go_wp2_with fail
 go_ret2
 exact⟨v,rfl,H.out⟩
theorem zmH:Enters Tryz.prog 48:=enters_of Tryz.func48 Q2 rfl
theorem zoF(W:World):(Instr.makeSlice 37 (Qi 1) (Qi 1)).run Tryz.prog W=.ok (Qs W.heap.size 0 1 1) (W.alloc (.cells #[Qi 0,Qi 0,Qi 0,Qi 0,Qi 0,.string ⟨#[]⟩,.string ⟨#[]⟩] 185)):=Q2
theorem zum(w:World)(s:ByteArray)(R:Nat)(a6:1<=R/\R<=2)(b:Nat)(x:Qg w b #[.string s] 9)(g:List Ai)
 (I:∀W:World,Qg W b #[.string s] 9->Qk 48 #[Qp b 0] W λe h=>∃v,e=.returned (.tuple #[v,Qi 0])/\h.ownsRow W.heap.size 56 5 v g.length (DR 0 g)/\Qb W h) :
 Qk 47 #[.string s,Qi (R:Nat),Qi 1,.func (.func 48) #[] #[.pointer (some ⟨b,0,none⟩)]] w λe h=>∃y M,e=.returned (.tuple #[.agg #[.string s,y,Qi (R:Nat),Qi 0,.slice none 0 0,M,Qi 0],Qi 0])/\h.ownsRow w.heap.size 56 5 y g.length (DR 0 g)/\h.ownsRow w.heap.size 185 7 M 1 (DH DD)/\Qb w h:=by
 have D:=Aa (λW=>zwE W R ⟨a6.1,Q0⟩)
 have C:=Aa I;have b5:=Aa x;obtain⟨f,b3⟩:=Qe w.heap.size;obtain⟨W,K,H,t⟩:=Lf w f b3 (.cells #[.string ⟨#[]⟩,.slice none 0 0,Qi 0,Qi 0,.slice none 0 0,.slice none 0 0,Qi 0] 39);have o:=Aa H;have E:=Aa t;have F:=Aa K;have T:=Aa (Al t x);clear I x H t K
 go_enter Tryz.func47,Tryz.ntmps47
 go_upto_region 1 with(fail)
 rw[F.out];clear F
 go_wp2_with fail
 refine(D.out W).mono ?_;rintro e N ⟨rfl,j⟩;obtain⟨m,a0⟩:=Qe N.heap.size;obtain⟨a5,Y,J,l⟩:=Lf N m a0 (.cells #[Qi (R:Nat),Qi 0,.slice none 0 0] 36);have P:=Aa (Al l (Al j o.out));have z:=Aa (A9 l (A9 j E.out));have U:=Aa (Al l (Al j T.out));have S:=Aa J;have V:=Aa Y;have b7:f<m:=by have:=Aj (Al j o.out);omega
 have b6:¬ (R:Int)<1:=Q0
 have O:=Aa (C.out a5 U.out);have Z:=zmH;unfold Enters at Z;clear j l J Y o E T D C
 go_upto_region 4 with(fail)
 rw[V.out];clear V a0
 go_wp2_with fail
 refine O.out.mono ?_;rintro e d ⟨y,rfl,B,n⟩;obtain⟨L,G,rfl,-,-⟩:=Rd.isSlice (Rd.own B);have Q:=Aa (Al n P.out);have i:=Aa (Al n S.out);have a9:=Aa (EY B z.out.size);have a7:=Aa (A9 n z.out);clear B n P S U z O Z
 go_upto_region 7 with(fail)
 have k0:=BH i.out;have k1:=BX i.out;have k2:=Dr i.out;have a1:=zoF d.drew;obtain⟨c,a2⟩:=Qe d.heap.size;have k:=Ay (Cq (Ag d.heap.size d)) (.cells #[Qi 0,Qi 0,Qi 0,Qi 0,Qi 0,.string ⟨#[]⟩,.string ⟨#[]⟩] 185);have X:=Am d.drew (.cells #[Qi 0,Qi 0,Qi 0,Qi 0,Qi 0,.string ⟨#[]⟩,.string ⟨#[]⟩] 185) c a2.symm;have a:=Aa (Al k Q.out);have A:=Aa (Al k i.out);have b0:=Aa (Cd a9.out k);have a8:=Aa (A9 k a7.out);have b1:=Aa X
 have a3:f<c/\m<c/\w.heap.size<=c:=by
  have:=Aj Q.out;have:=Aj i.out;omega
 have b8:f≠c:=Q0
 have b9:f<c:=a3.1;have c0:m≠c:=Q0
 have b4:(Instr.makeSlice 37 (Qi 1) (Qi 1)).run Tryz.prog d.drew=.ok (Qs c 0 1 1) (d.drew.alloc (.cells #[Qi 0,Qi 0,Qi 0,Qi 0,Qi 0,.string ⟨#[]⟩,.string ⟨#[]⟩] 185)):=by rw[<-a2];exact a1
 clear k X a1;generalize d.drew.alloc _=a4 at*
 have l0:=BH A.out;have l1:=BX A.out;have l2:=Dr A.out;have y0:=BH a.out;have y1:=BX a.out;have y2:=Dr a.out;have y3:=D7 a.out;have y4:=DK a.out;have y5:=DJ a.out;have y6:=DM a.out;have g0:=Ah a.out 0;have g1:=Ah a.out 1;have g2:=Ah a.out 2;have g3:=Ah a.out 3;have g4:=Ah a.out 4;have g5:=Ah a.out 5;have g6:=Ah a.out 6
 go_region_with (fail)
 all_goals
  clear k0 k1 k2 l0 l1 l2 y0 y1 y2 y3 y4 y5 y6 g0 g1 g2 g3 g4 g5 g6 b4
  go_wp2_with fail
  have b2:=Ak (Ak (Ak (Ak (Ak (Ak (Ak a.out 0 (.string s)) 1 (.slice L g.length G)) 2 (Qi (R:Nat))) 3 (Qi 0)) 4 (.slice none 0 0)) 5 (Qs c 0 1 1)) 6 (Qi 0);have u:=(((((((Ab.refl f a4).set 0 (.string s)).set 1 (.slice L g.length G)).set 2 (Qi (R:Nat))).set 3 (Qi 0)).set 4 (.slice none 0 0)).set 5 (Qs c 0 1 1)).set 6 (Qi 0);exact BV (Nn (p:=8) (q:=9) rfl _ _ _ ⟨f,0,none⟩ _ rfl (O9 _ _ _ _ _ _ _ _ _ b2)) rfl ⟨_,_,rfl,F9 b0.out u a.out Q5,WQ (more:=[]) (r:=DD) (u.other b1.out Q0) a3.2.2 (Af _) (by simp[maxLen]) rfl,u.bel a8.out Q0 (Af _)⟩
theorem zvY(w:World)(s:ByteArray)(R:Nat)(z:1<=R/\R<=2)(L:List Av)(G:Cu s L)(B:Ig L=true)(a2:Bz (Cl L)) :
 Qk 13 #[.string s,Qi (R:Nat),Qi 1] w λe E=>∃i j,e=.returned (.tuple #[.agg #[.string s,i,Qi (R:Nat),Qi 0,.slice none 0 0,j,Qi 0],Qi 0])/\Ar E w.heap.size i R 0 (.slice none 0 0) j 0 (Cl L) [] DD/\Qb w E:=by
 have n:=Aa (λW b (S:Qg W b #[.string s] 9)=>zum W s R z b S (Cl L) (λH h=>zr6 H b s h L G B));obtain⟨d,a3⟩:=Qe w.heap.size;obtain⟨W,A,v,y,x⟩:=QL w d a3 (.cells #[.string s] 9) (.cells #[.string ⟨#[]⟩,.slice none 0 0,Qi 0,Qi 0,.slice none 0 0,.slice none 0 0,Qi 0] 39);have f:=Aa v;have o:=Aa y;have c:=Aa x;have r:=Aa A;clear v y x A G B
 go_enter Tryz.func13,Tryz.ntmps13
 go_upto_region 1 with(fail)
 rw[r.out];clear r;have I:=BH f.out
 go_wp2_with fail
 refine(n.out W d f.out).mono ?_;rintro e T ⟨i,j,rfl,l,m,k⟩;obtain⟨D,u,rfl,-,-⟩:=Rd.isSlice (Rd.own m);obtain⟨C,t,rfl,-,-⟩:=Rd.isSlice (Rd.own l);have a:=Aa (Al k o.out);have F:=Aa (Gc (EY l c.out.size) (EY m c.out.size));have a0:=Aa (A9 k c.out);clear I l m k n f o c;have U:=BH a.out;have V:=BX a.out;have X:=Dr a.out;have Y:=D7 a.out;have Z:=DK a.out;have y5:=DJ a.out;have y6:=DM a.out;have J:=Ah a.out 0;have K:=Ah a.out 1;have M:=Ah a.out 2;have N:=Ah a.out 3;have O:=Ah a.out 4;have P:=Ah a.out 5;have Q:=Ah a.out 6
 go_wp2_with fail
 clear U V X Y Z y5 y6 J K M N O P Q;have a1:=Ak (Ak (Ak (Ak (Ak (Ak (Ak a.out 0 (.string s)) 1 (.slice C (Cl L).length t)) 2 (Qi (R:Nat))) 3 (Qi 0)) 4 (.slice none 0 0)) 5 (.slice D 1 u)) 6 (Qi 0);have g:=(((((((Ab.refl (d+1) T).set 0 (.string s)).set 1 (.slice C (Cl L).length t)).set 2 (Qi (R:Nat))).set 3 (Qi 0)).set 4 (.slice none 0 0)).set 5 (.slice D 1 u)).set 6 (Qi 0)
 exact BV (Nn (p:=6) (q:=7) rfl _ _ _ ⟨d+1,0,none⟩ _ rfl (O9 _ _ _ _ _ _ _ _ _ a1)) rfl ⟨_,_,rfl,
  ⟨F9 F.out.1 g a.out Q5,a2,GU _ _ _ _,z,BI _,A7.nil R 0,λa4 h=>by simp at h,F9 F.out.2 g a.out Q5,.inl rfl,BI _,λh=>absurd h Q5⟩,g.bel a0.out Q0 (Af _)⟩
theorem zos(w:World)(b:Nat)(s t z2 z3 z4 z5 z6 z7 z8 z9:Value)(r:Qg w b #[s,t,z2,z3,z4,z5,z6,z7,z8,z9] 145)(T:ByteArray)(o n p:Option Addr)(l g j f m h R c i:Nat) :
 Qk 238 #[Qp b 0,.agg #[.string T,.slice o l g,Qi (R:Nat),Qi (c:Nat),.slice n j f,.slice p m h,Qi (i:Nat)],Qi 0] w λe G=>e=.returned (.string ⟨(JT [.str [111,107]]).toArray⟩)/\
  Qg G b #[s,t,.string T,.slice o l g,Qi (R:Nat),Qi (c:Nat),.slice n j f,.slice p m h,Qi (i:Nat),.bool true] 145/\Ab b w G:=by
 have a3:=Aj r;obtain⟨lb,a0⟩:=Qe w.heap.size;obtain⟨W,C,A,q⟩:=Lf w lb a0 (.cells #[.string T,.slice o l g,Qi (R:Nat),Qi (c:Nat),.slice n j f,.slice p m h,Qi (i:Nat)] 39);have d:=Aa A;have a:=Aa (Al q r);have v:=Aa q;have y:=Aa C;clear A q C r
 go_enter Tryz.func238,Tryz.ntmps238
 go_upto_region 1 with(fail)
 rw[y.out];clear y;have J:=BH d.out;have K:=BX d.out;have L:=Dr d.out;have M:=D7 d.out;have N:=DK d.out;have O:=DJ d.out;have P:=DM d.out;have Q:=Dr a.out;have S:=D7 a.out;have U:=DK a.out;have V:=DJ a.out;have Y:=DM a.out;have Z:=Vz a.out;have d8:=Vy a.out;have d9:=zBm a.out;have g2:=Ah a.out 2;have g3:=Ah a.out 3;have g4:=Ah a.out 4;have g5:=Ah a.out 5;have g6:=Ah a.out 6;have g7:=Ah a.out 7;have g8:=Ah a.out 8;have g9:=Ah a.out 9
 go_upto_region 3 with(fail)
 have D:(Qg ((((((((W.setCell ⟨b,2,none⟩ (.string T)).setCell ⟨b,3,none⟩ (.slice o l g)).setCell ⟨b,4,none⟩ (Qi (R:Nat))).setCell ⟨b,5,none⟩ (Qi (c:Nat))).setCell ⟨b,6,none⟩ (.slice n j f)).setCell ⟨b,7,none⟩ (.slice p m h)).setCell ⟨b,8,none⟩ (Qi (i:Nat))).setCell ⟨b,9,none⟩ (.bool true)) b #[s,t,.string T,.slice o l g,Qi (R:Nat),Qi (c:Nat),.slice n j f,.slice p m h,Qi (i:Nat),.bool true] 145):=(Ak (Ak (Ak (Ak (Ak (Ak (Ak (Ak a.out 2 (.string T)) 3 (.slice o l g)) 4 (Qi (R:Nat))) 5 (Qi (c:Nat))) 6 (.slice n j f)) 7 (.slice p m h)) 8 (Qi (i:Nat))) 9 (.bool true)).trans QC
 have B:=(((((((((Ab.of (k:=b) v.out).set 2 (.string T)).set 3 (.slice o l g)).set 4 (Qi (R:Nat))).set 5 (Qi (c:Nat))).set 6 (.slice n j f)).set 7 (.slice p m h)).set 8 (Qi (i:Nat))).set 9 (.bool true));have z:=Aa D;have x:=Aa B;clear D B J K L M N O P Q S U V Y Z d8 d9 g2 g3 g4 g5 g6 g7 g8 g9 d a v;generalize(((((((W.setCell _ _).setCell _ _).setCell _ _).setCell _ _).setCell _ _).setCell _ _).setCell _ _).setCell _ _=X at*
 obtain⟨a2,F⟩:=Qe X.heap.size
 go_wp2_with fail
 refine(Xq _ _ [.str [111,107]] ?_ ?_ Q6 Q6 ?_).mono ?_
 ·show Rd _ _ 1 _ 1 [_]
  exact Rd.mono (GX (Am _ _ _ F.symm) rfl Q7 (by simp[maxLen])) (by simp[F])
 ·intro a1 E
  simp at E;subst E;simp[PM]
 ·simp[Lib.join,FR]
 rintro e w5 ⟨rfl,H⟩;have u:Qb X w5:=A9 H (Ay (Ag _ _) _);have I:=Aa (Gc (Al u z.out) (x.out.trans (Ab.of u)));clear H u z x
 go_wp2_with fail
 go_ret
 exact⟨rfl,I.out⟩
theorem zmu(w:World)(b:Nat)(t u z2 z3 z4 z5 z6 z7 z8 v:Value)(s:Qg w b #[t,u,z2,z3,z4,z5,z6,z7,z8,v] 145)(T:ByteArray)(o n p:Option Addr)(l g j f m h R c i:Nat)(x:List UInt8)(hx:x.length<=100000)(k:Nat)(hk:k<100) :
 Qk 239 #[Qp b 0,.bool true,.agg #[.string ⟨x.toArray⟩,Qi (k:Nat)],.agg #[.string T,.slice o l g,Qi (R:Nat),Qi (c:Nat),.slice n j f,.slice p m h,Qi (i:Nat)],Qi 0] w λe K=>e=.returned (.string ⟨(JT [.str [114,101,112,108,121],.err k,.byt x]).toArray⟩)/\
  Qg K b #[t,u,.string T,.slice o l g,Qi (R:Nat),Qi (c:Nat),.slice n j f,.slice p m h,Qi (i:Nat),v] 145/\Ab b w K:=by
 have a2:=Aj s;obtain⟨O,A⟩:=Qe ((⟨x.toArray⟩:ByteArray):ByteArray);have a0:=Aa A;rw[A];obtain⟨lb,a1⟩:=Qe w.heap.size;obtain⟨W,I,H,G,r⟩:=QL w lb a1 (.cells #[.string O,Qi (k:Nat)] 44) (.cells #[.string T,.slice o l g,Qi (R:Nat),Qi (c:Nat),.slice n j f,.slice p m h,Qi (i:Nat)] 39);have d:=Aa G;have HE:=Aa H;have a:=Aa (Al r s);have C:=Aa r;have E:=Aa I;clear G H r I s A
 go_enter Tryz.func239,Tryz.ntmps239
 go_upto_region 1 with(fail)
 rw[E.out];clear E;have P:=BH d.out;have Q:=BX d.out;have S:=Dr d.out;have U:=D7 d.out;have V:=DK d.out;have Y:=DJ d.out;have Z:=DM d.out;have d2:=Dr a.out;have d3:=D7 a.out;have d4:=DK a.out;have d5:=DJ a.out;have d6:=DM a.out;have d7:=Vz a.out;have d8:=Vy a.out;have g2:=Ah a.out 2;have g3:=Ah a.out 3;have g4:=Ah a.out 4;have g5:=Ah a.out 5;have g6:=Ah a.out 6;have g7:=Ah a.out 7;have g8:=Ah a.out 8
 go_upto_region 6 with(fail)
 have J:(Qg (((((((W.setCell ⟨b,2,none⟩ (.string T)).setCell ⟨b,3,none⟩ (.slice o l g)).setCell ⟨b,4,none⟩ (Qi (R:Nat))).setCell ⟨b,5,none⟩ (Qi (c:Nat))).setCell ⟨b,6,none⟩ (.slice n j f)).setCell ⟨b,7,none⟩ (.slice p m h)).setCell ⟨b,8,none⟩ (Qi (i:Nat))) b #[t,u,.string T,.slice o l g,Qi (R:Nat),Qi (c:Nat),.slice n j f,.slice p m h,Qi (i:Nat),v] 145):=(Ak (Ak (Ak (Ak (Ak (Ak (Ak a.out 2 (.string T)) 3 (.slice o l g)) 4 (Qi (R:Nat))) 5 (Qi (c:Nat))) 6 (.slice n j f)) 7 (.slice p m h)) 8 (Qi (i:Nat))).trans QC
 have z:=(((((((Ab.refl b W).set 2 (.string T)).set 3 (.slice o l g)).set 4 (Qi (R:Nat))).set 5 (Qi (c:Nat))).set 6 (.slice n j f)).set 7 (.slice p m h)).set 8 (Qi (i:Nat));have F:=Aa J;have D:=Aa ((Ab.of C.out).trans z);have L:=Aa (z.other HE.out Q0)
 clear J z P Q S U V Y Z d2 d3 d4 d5 d6 d7 d8 g2 g3 g4 g5 g6 g7 g8 d a C HE;generalize((((((W.setCell _ _).setCell _ _).setCell _ _).setCell _ _).setCell _ _).setCell _ _).setCell _ _=X at*
 have e0:=BH L.out;have e1:=BX L.out;obtain⟨y,q⟩:=Qe X.heap.size
 go_wp2_with fail
 refine(zwc _ _ [.str [114,101,112,108,121],.err k,.byt x] ?_ ?_ Q6 Q6 ?_).mono ?_
 ·show Rd _ _ 1 _ 3 [_,_,.iface _ (.string ⟨x.toArray⟩)]
  rw[a0.out];exact Rd.mono (GX (Am _ _ _ q.symm) rfl Q7 (by simp[maxLen])) (by simp[q])
 ·intro y q
  simp at q;rcases q with rfl|rfl|rfl
  ·simp[PM]
  ·exact hk
  ·exact hx
 ·have h1:(Lib.decDigits k).length<=9:=Ty Q0
  simp[Lib.join,FR];split
  ·simp;omega
  ·rw[M9];omega
 rintro e w5 ⟨rfl,M⟩;have B:Qb X w5:=A9 M (Ay (Ag _ _) _);have N:=Aa (Gc (Al B F.out) (D.out.trans (Ab.of B)));clear M B F D
 go_wp2_with fail
 go_ret
 exact⟨rfl,N.out⟩
theorem Ar.one{d:List Ai}{H:List HE}{r:BF}{h:Array Value}(a:Ar w m x k i y z j d H r)(b:Ab n w v)(c:Qg w n h 145):Ar v m x k i y z j d H r :=
 ⟨F9 a.iv b c Q5,a.ix,F9 a.hv b c Q5,a.hR,a.hc,a.ok,a.held,F9 a.rv b c Q5,a.rok,a.dec,a.low⟩
theorem zuY(w:World)(a:Nat)(s:ByteArray)(x J K M N O P Q R:Value)(f:Qg w a #[.string s,x,J,K,M,N,O,P,Q,R] 145)(L:List Av)(B:Cu s L)(u:Ig L=true)(C:Bz (Cl L))(q r:Value) :
 Qk 189 #[Qp a 0,.agg #[Qi 2,Qi 1,q,r]] w λe i=>e=.returned (.string ⟨(JT [.str [111,107]]).toArray⟩)/\Ab a w i/\∃g h,Qg i a #[.string s,x,.string s,g,Qi 2,Qi 0,.slice none 0 0,h,Qi 0,.bool true] 145/\Ar i w.heap.size g 2 0 (.slice none 0 0) h 0 (Cl L) [] DD:=by
 have D:=Aa (λW=>zvY W s 2 ⟨Q0,Q0⟩ L B u C)
 have a0:=Aj f;obtain⟨G,U⟩:=Qe w.heap.size;obtain⟨W,t,c,d⟩:=Lf w G U (.cells #[Qi 2,Qi 1,q,r] 241);have o:=Aa (Al d f);have n:=Aa d;have p:=Aa t;have X:=BH c;have Y:=BX c;clear c d t f B u C
 go_enter Tryz.func189,Tryz.ntmps189
 go_upto_region 1 with(fail)
 rw[p.out];clear p;have V:=BH o.out
 go_region_with
  (first
   |(go_at_call 13
     refine(D.out W.drew).mono ?_;rintro e v ⟨g,h,rfl,b,z⟩;obtain⟨I,F,rfl,-,-⟩:=Rd.isSlice (Rd.own b.rv);obtain⟨H,E,rfl,-,-⟩:=Rd.isSlice (Rd.own b.iv);have m:Qb W v:=A9 z (Cq (Ag _ _));have T:=Aa b;have y:=Aa (Al m o.out);have S:=Aa (A9 m n.out);clear m z b)
   |(go_at_call 238
     refine(zos v a _ _ _ _ _ _ _ _ _ _ y.out s H none I _ E 0 0 1 F 2 0 0).mono ?_;rintro e Z ⟨rfl,A,l⟩;have j:=Aa (Gc ((Ab.of (k:=a) S.out).trans l) (Gc A ((T.out.mono n.out.size).one l y.out)));clear A l)
   |fail)
 all_goals
  go_wp2_with fail
  go_ret
  exact⟨rfl,j.out.1,_,_,j.out.2.1,j.out.2.2⟩
theorem Ar.keep{p:List Ai}{H:List HE}{r:BF}(h:Ar w n x m k y z i p H r)(t:∀j,n<=j->j<w.heap.size->v.heap[j]?=w.heap[j]?):Ar v n x m k y z i p H r:=by
 have d:∀{e f a:Nat} {b:Value} {c:List Value},w.ownsRow n e f b a c->v.ownsRow n e f b a c:=by
  intro e f a b c h;refine⟨h.1,?_⟩;rcases h.2 with h|⟨g,u,A,q,l,o,s⟩
  ·exact .inl h
  ·exact .inr ⟨g,u,A,q,l,(t g l (Aj o)).trans o,s⟩
 exact⟨d h.iv,h.ix,d h.hv,h.hR,h.hc,h.ok,h.held,d h.rv,h.rok,h.dec,h.low⟩
theorem Qq{P Q:World->Prop}(h:Q w)(k:∀Y,Q Y->P Y):P w:=k w h
theorem Ar.only{a:List Ai}{H:List HE}{r:BF}(h:Ar w m x k i y z j a H r)(d:Ab n w v)(f:n<m):Ar v m x k i y z j a H r:=h.keep λb e c=>d.block b c Q0
theorem zs8(w:World)(z g0:Nat)(s:ByteArray)(z1:Value)(L K M:Option Addr)(I F H E J G c dc:Nat)(hd:Qg w z #[.string s,z1,.string s,.slice L I F,Qi 2,Qi (c:Nat),.slice K H E,.slice M J G,Qi (dc:Nat),.bool true] 145)(B:List Ai)(d5:List HE)(d8:Ar w g0 (.slice L I F) 2 c (.slice K H E) (.slice M J G) dc B d5 DD)(V:Gz s.data.toList B)(D n:Nat)(ho:D<=100000)(hn:n<=100000)(hc:c+3*B.length<=1099511627776)(a3:Value) :
 Qk 191 #[Qp z 0,.agg #[Qi 0,Qi (D:Nat),Qi (n:Nat),a3]] w λa5 e=>a5=.returned (.string ⟨(JT [.str [114,101,112,108,121],.err (if(Bi B).length<D+n then 8 else 0),.byt (IY (Bi B) D n)]).toArray⟩)/\Ab z w e /\
  ∃L I F R K H E M J G a6 b9,Qg e z #[.string s,z1,.string s,.slice L I F,Qi 2,Qi (R:Nat),.slice K H E,.slice M J G,Qi (a6:Nat),.bool true] 145/\Ar e w.heap.size (.slice L I F) 2 R (.slice K H E) (.slice M J G) a6 B b9 DD/\R<=c+3*B.length:=by
 obtain⟨k,hk⟩:=Qe ((if(Bi B).length<D+n then 8 else 0):Nat)
 have g6:k<100:=by rw[<-hk];split<;>omega
 have f3:(IY (Bi B) D n).length<=100000:=by
  have:=V.ix.len;unfold IY;rw[D9,BO];omega
 obtain⟨c3,hx⟩:=Qe (IY (Bi B) D n);obtain⟨g1,c6⟩:=Qe (c+3*B.length)
 have c4:Hid (∀W:World,Qb w W->Qk 15 #[.agg #[.string s,.slice L I F,Qi 2,Qi (c:Nat),.slice K H E,.slice M J G,Qi (dc:Nat)],Qi 0,Qi (D:Nat),Qi (n:Nat)] W λa5 e=>∃L I F R K H E M J G a6 b9,a5=.returned (.tuple #[.agg #[.string ⟨c3.toArray⟩,Qi (k:Nat)],.agg #[.string s,.slice L I F,Qi 2,Qi (R:Nat),.slice K H E,.slice M J G,Qi (a6:Nat)],Qi 0])/\Ar e W.heap.size (.slice L I F) 2 R (.slice K H E) (.slice M J G) a6 B b9 DD/\R<=g1/\Qb W e):=λW a8=>by
  have h:=zpD W s.data.toList _ 2 c _ _ dc B d5 (d8.up a8).at_ V D n ho hn hc;unfold Fl Hz at h;rw[XV,hk,hx,c6] at h;refine h.mono ?_;rintro a5 e ⟨h5,R,h4,h6,a6,b9,rfl,h1,h2,h3⟩;obtain⟨_,_,rfl,-,-⟩:=Rd.isSlice (Rd.own h1.rv);obtain⟨_,_,rfl,-,-⟩:=Rd.isSlice (Rd.own h1.iv);obtain⟨_,_,rfl,-,-⟩:=Rd.isSlice (Rd.own h1.hv);exact⟨_,_,_,_,_,_,_,_,_,_,_,_,rfl,h1,h2,h3⟩
 rw[hk,hx,c6];rw[hx] at f3;obtain⟨u,d1⟩:=Qe ((⟨c3.toArray⟩:ByteArray):ByteArray);have g4:=Aa d1;rw[d1] at c4;have h0:=Aj hd;obtain⟨S,g7⟩:=Qe w.heap.size;obtain⟨W,d9,c9,a8⟩:=Lf w S g7 (.cells #[Qi 0,Qi (D:Nat),Qi (n:Nat),a3] 241);have c5:=Aa (Al a8 hd);have e3:=Aa c9;have c0:=Aa a8;have d6:=Aa d9;have e2:=Aa (λd7 (h:Qb W d7)=>c4.out d7 (A9 h c0.out));obtain⟨b,N⟩:=Qe W.heap.size;have g9:S<b/\z<b/\w.heap.size<=b:=by have:=Aj c9;have:=c0.out.size;omega
 clear c9 a8 d9 hd d8 V d1 hx hk c6 c4 ho hn hc
 go_enter Tryz.func191,Tryz.ntmps191
 go_upto_region 1 with(fail)
 rw[d6.out];clear d6
 have e6:Hid (∀e:World,Qb W e->Qb W e/\Qc e z 2 (.string s)/\Qc e z 3 (.slice L I F)/\Qc e z 4 (Qi 2)/\Qc e z 5 (Qi (c:Nat))/\Qc e z 6 (.slice K H E)/\Qc e z 7 (.slice M J G)/\Qc e z 8 (Qi (dc:Nat))/\Qc e S 0 (Qi 0)/\Qc e S 1 (Qi (D:Nat))/\Qc e S 2 (Qi (n:Nat))):=λe h=>by
  have Y:=Al h c5.out;have V:=Al h e3.out;exact⟨h,Dr Y,D7 Y,DK Y,DJ Y,DM Y,Vz Y,Vy Y,BH V,BX V,Dr V⟩
 have g5:Qb W W:=Ag _ _
 go_region_held3 (λe=>Qb W e/\Qc e z 2 (.string s)/\Qc e z 3 (.slice L I F)/\Qc e z 4 (Qi 2)/\Qc e z 5 (Qi (c:Nat))/\Qc e z 6 (.slice K H E)/\Qc e z 7 (.slice M J G)/\Qc e z 8 (Qi (dc:Nat))/\Qc e S 0 (Qi 0)/\Qc e S 1 (Qi (D:Nat))/\Qc e S 2 (Qi (n:Nat)))
  ((refine e6.out _ ?_;(repeat' (first|with_reducible assumption|with_reducible exact Bh Q3|with_reducible refine Ce ?_ ?_ _ _|with_reducible refine Ay ?_ _|with_reducible refine Cq ?_|omega));done))
  ((first
    |(go_at_call 15
      refine(e2.out _ (Bh Q3)).mono ?_
      rintro a5 v ⟨q,m,g,d,p,l,f,r,o,i,j,U,rfl,e8,f1,T⟩;have a0:=Aa (Gc e8 f1);clear e8 f1;have f0:Qb W v:=A9 T (Bh Q3)
      have g8:=f0.size
      first
       |(have y:=Al T (Bb (.cells #[.string ⟨#[]⟩,.slice none 0 0,Qi 0,Qi 0,.slice none 0 0,.slice none 0 0,Qi 0] 39) (Am W.drew (.cells #[.string ⟨#[]⟩,Qi 0] 44) b N.symm))
         have a:=Al T (Am (W.drew.alloc (.cells #[.string ⟨#[]⟩,Qi 0] 44)) (.cells #[.string ⟨#[]⟩,.slice none 0 0,Qi 0,Qi 0,.slice none 0 0,.slice none 0 0,Qi 0] 39) (b+1) (by simp[N]))
         have O:=Aa (a0.out.1.mono (B':=b+2) (by simp[N]))
         have e0:=BH y;have e1:=BX y;have c1:=Ah y 0;have c2:=Ah y 1;have Z:=BH a;have y1:=BX a;have y2:=Dr a;have y3:=D7 a;have y4:=DK a;have y5:=DJ a;have y6:=DM a;have b2:=Ah a 0;have b3:=Ah a 1;have b4:=Ah a 2;have b5:=Ah a 3;have b6:=Ah a 4;have b7:=Ah a 5;have b8:=Ah a 6)
       |(have a:=Al T (Bb (.cells #[.string ⟨#[]⟩,Qi 0] 44) (Am W.drew (.cells #[.string ⟨#[]⟩,.slice none 0 0,Qi 0,Qi 0,.slice none 0 0,.slice none 0 0,Qi 0] 39) b N.symm))
         have y:=Al T (Am (W.drew.alloc (.cells #[.string ⟨#[]⟩,.slice none 0 0,Qi 0,Qi 0,.slice none 0 0,.slice none 0 0,Qi 0] 39)) (.cells #[.string ⟨#[]⟩,Qi 0] 44) (b+1) (by simp[N]))
         have O:=Aa (a0.out.1.mono (B':=b+2) (by simp[N]))
         have e0:=BH y;have e1:=BX y;have c1:=Ah y 0;have c2:=Ah y 1;have Z:=BH a;have y1:=BX a;have y2:=Dr a;have y3:=D7 a;have y4:=DK a;have y5:=DJ a;have y6:=DM a;have b2:=Ah a 0;have b3:=Ah a 1;have b4:=Ah a 2;have b5:=Ah a 3;have b6:=Ah a 4;have b7:=Ah a 5;have b8:=Ah a 6)
       |(have y:=Al T (Am W.drew (.cells #[.string ⟨#[]⟩,Qi 0] 44) b N.symm)
         have f2:=Aj y;have b0:=Bb (.cells #[.string ⟨#[]⟩,.slice none 0 0,Qi 0,Qi 0,.slice none 0 0,.slice none 0 0,Qi 0] 39) y;have a:=Am v (.cells #[.string ⟨#[]⟩,.slice none 0 0,Qi 0,Qi 0,.slice none 0 0,.slice none 0 0,Qi 0] 39) _ rfl;have O:=Aa (a0.out.1.mono (B':=b+1) (by simp[N]))
         have e0:=BH y;have e1:=BX y;have c1:=Ah y 0;have c2:=Ah y 1;have u0:=BH b0;have u1:=BX b0;have d2:=Ah b0 0;have d3:=Ah b0 1;have Z:=BH a;have y1:=BX a;have y2:=Dr a;have y3:=D7 a;have y4:=DK a;have y5:=DJ a;have y6:=DM a;have b2:=Ah a 0;have b3:=Ah a 1;have b4:=Ah a 2;have b5:=Ah a 3;have b6:=Ah a 4;have b7:=Ah a 5;have b8:=Ah a 6)
       |(have a:=Al T (Am W.drew (.cells #[.string ⟨#[]⟩,.slice none 0 0,Qi 0,Qi 0,.slice none 0 0,.slice none 0 0,Qi 0] 39) b N.symm)
         have f2:=Aj a;have t:=Bb (.cells #[.string u,Qi (k:Nat)] 44) a;have O:=Aa (a0.out.1.mono (B':=b+1) (by simp[N]))
         have Z:=BH a;have y1:=BX a;have y2:=Dr a;have y3:=D7 a;have y4:=DK a;have y5:=DJ a;have y6:=DM a;have b2:=Ah a 0;have b3:=Ah a 1;have b4:=Ah a 2;have b5:=Ah a 3;have b6:=Ah a 4;have b7:=Ah a 5;have b8:=Ah a 6;have u0:=BH t;have u1:=BX t;have u2:=Dr t;have u3:=D7 t;have u4:=DK t;have u5:=DJ t;have u6:=DM t;have d2:=Ah t 0;have d3:=Ah t 1;have f4:=Ah t 2;have f5:=Ah t 3;have f6:=Ah t 4;have f7:=Ah t 5;have f8:=Ah t 6)
       |(have y:=Bb (.cells #[.string ⟨#[]⟩,.slice none 0 0,Qi 0,Qi 0,.slice none 0 0,.slice none 0 0,Qi 0] 39) (Am v (.cells #[.string ⟨#[]⟩,Qi 0] 44) _ rfl)
         have a:=Am (v.alloc (.cells #[.string ⟨#[]⟩,Qi 0] 44)) (.cells #[.string ⟨#[]⟩,.slice none 0 0,Qi 0,Qi 0,.slice none 0 0,.slice none 0 0,Qi 0] 39) (v.heap.size+1) Q6
         have t:=Bb (.cells #[.string u,Qi (k:Nat)] 44) (Am v (.cells #[.string ⟨#[]⟩,.slice none 0 0,Qi 0,Qi 0,.slice none 0 0,.slice none 0 0,Qi 0] 39) _ rfl);have O:=Aa (a0.out.1.mono (B':=b+0) (by simp[N]))
         have e0:=BH y;have e1:=BX y;have c1:=Ah y 0;have c2:=Ah y 1;have Z:=BH a;have y1:=BX a;have y2:=Dr a;have y3:=D7 a;have y4:=DK a;have y5:=DJ a;have y6:=DM a;have b2:=Ah a 0;have b3:=Ah a 1;have b4:=Ah a 2;have b5:=Ah a 3;have b6:=Ah a 4;have b7:=Ah a 5;have b8:=Ah a 6;have u0:=BH t;have u1:=BX t;have u2:=Dr t;have u3:=D7 t;have u4:=DK t;have u5:=DJ t;have u6:=DM t;have d2:=Ah t 0;have d3:=Ah t 1;have f4:=Ah t 2;have f5:=Ah t 3;have f6:=Ah t 4;have f7:=Ah t 5;have f8:=Ah t 6)
       |skip)
    |fail))
 all_goals
  rename_i e7
  have a4:=Bh e7;clear e7
  try clear e0 e1 c1 c2
  try clear Z y1 y2 y3 y4 y5 y6 b2 b3 b4 b5 b6 b7 b8
  try clear u0 u1 d2 d3
  try clear u2 u3 u4 u5 u6 f4 f5 f6 f7 f8
  clear g5 e6 e2 e3
  try clear hHeld
  first
  |(have A:=Bb (.cells #[.string s,.slice q m g,Qi 2,Qi (d:Nat),.slice p l f,.slice r o i,Qi (j:Nat)] 39) (Am v (.cells #[.string u,Qi (k:Nat)] 44) _ rfl)
    have x:=Am (v.alloc (.cells #[.string u,Qi (k:Nat)] 44)) (.cells #[.string s,.slice q m g,Qi 2,Qi (d:Nat),.slice p l f,.slice r o i,Qi (j:Nat)] 39) (v.heap.size+1) Q6
    have C:=(O.out.up (Ay (Ay (Ag _ _) (.cells #[.string u,Qi (k:Nat)] 44)) (.cells #[.string s,.slice q m g,Qi 2,Qi (d:Nat),.slice p l f,.slice r o i,Qi (j:Nat)] 39))).mono (B':=b) Q0
    with_reducible refine Qq (P:=λX=>Exit.then _ _ _ _ X) (Q:=λX=>Qb W X/\Qg X v.heap.size #[.string u,Qi (k:Nat)] 44/\Qg X (v.heap.size+1) #[.string s,.slice q m g,Qi 2,Qi (d:Nat),.slice p l f,.slice r o i,Qi (j:Nat)] 39/\Ar X b (.slice q m g) 2 d (.slice p l f) (.slice r o i) j B U DD) ⟨a4,A,x,C⟩ ?_
    clear C;clear A x)
  |(have A:=Am (v.alloc (.cells #[.string s,.slice q m g,Qi 2,Qi (d:Nat),.slice p l f,.slice r o i,Qi (j:Nat)] 39)) (.cells #[.string u,Qi (k:Nat)] 44) (v.heap.size+1) Q6
    have x:=Bb (.cells #[.string u,Qi (k:Nat)] 44) (Am v (.cells #[.string s,.slice q m g,Qi 2,Qi (d:Nat),.slice p l f,.slice r o i,Qi (j:Nat)] 39) _ rfl);have C:=(O.out.up (Ay (Ay (Ag _ _) (.cells #[.string s,.slice q m g,Qi 2,Qi (d:Nat),.slice p l f,.slice r o i,Qi (j:Nat)] 39)) (.cells #[.string u,Qi (k:Nat)] 44))).mono (B':=b) Q0
    with_reducible refine Qq (P:=λX=>Exit.then _ _ _ _ X) (Q:=λX=>Qb W X/\Qg X (v.heap.size+1) #[.string u,Qi (k:Nat)] 44/\Qg X v.heap.size #[.string s,.slice q m g,Qi 2,Qi (d:Nat),.slice p l f,.slice r o i,Qi (j:Nat)] 39/\Ar X b (.slice q m g) 2 d (.slice p l f) (.slice r o i) j B U DD) ⟨a4,A,x,C⟩ ?_
    clear C;clear A x)
  |(have A:=Bb (.cells #[.string s,.slice q m g,Qi 2,Qi (d:Nat),.slice p l f,.slice r o i,Qi (j:Nat)] 39) (show _=some (.cells #[.string u,Qi (k:Nat)] 44 (0,0)) from(Ak (Ak y 0 (.string u)) 1 (Qi (k:Nat))).trans QC)
    have x:=Am ((v.setCell ⟨b,0,none⟩ (.string u)).setCell ⟨b,1,none⟩ (Qi (k:Nat))) (.cells #[.string s,.slice q m g,Qi 2,Qi (d:Nat),.slice p l f,.slice r o i,Qi (j:Nat)] 39) v.heap.size Q6
    have C:=((O.out.only (((Ab.refl b v).set 0 (.string u)).set 1 (Qi (k:Nat))) Q0).up (Ay (Ag _ _) (.cells #[.string s,.slice q m g,Qi 2,Qi (d:Nat),.slice p l f,.slice r o i,Qi (j:Nat)] 39))).mono (B':=b) Q0
    with_reducible refine Qq (P:=λX=>Exit.then _ _ _ _ X) (Q:=λX=>Qb W X/\Qg X b #[.string u,Qi (k:Nat)] 44/\Qg X v.heap.size #[.string s,.slice q m g,Qi 2,Qi (d:Nat),.slice p l f,.slice r o i,Qi (j:Nat)] 39/\Ar X b (.slice q m g) 2 d (.slice p l f) (.slice r o i) j B U DD) ⟨a4,A,x,C⟩ ?_
    clear C;clear A x)
  |(have a1:=(((Ab.refl b v).set 0 (.string u)).set 1 (Qi (k:Nat)))
    have a9:=(show _=some (.cells #[.string u,Qi (k:Nat)] 44 (0,0)) from(Ak (Ak y 0 (.string u)) 1 (Qi (k:Nat))).trans QC)
    have b1:=a1.other a Q0
    have a2:=((((((((Ab.refl (b+1) ((v.setCell ⟨b,0,none⟩ (.string u)).setCell ⟨b,1,none⟩ (Qi (k:Nat)))).set 0 (.string s)).set 1 (.slice q m g)).set 2 (Qi 2)).set 3 (Qi (d:Nat))).set 4 (.slice p l f)).set 5 (.slice r o i)).set 6 (Qi (j:Nat)));have A:=a2.other a9 Q0
    have x:=(show _=some (.cells #[.string s,.slice q m g,Qi 2,Qi (d:Nat),.slice p l f,.slice r o i,Qi (j:Nat)] 39 (0,0)) from(Ak (Ak (Ak (Ak (Ak (Ak (Ak b1 0 (.string s)) 1 (.slice q m g)) 2 (Qi 2)) 3 (Qi (d:Nat))) 4 (.slice p l f)) 5 (.slice r o i)) 6 (Qi (j:Nat))).trans QC)
    have C:=((O.out.only a1 Q0).only a2 Q0).mono (B':=b) Q0
    with_reducible refine Qq (P:=λX=>Exit.then _ _ _ _ X) (Q:=λX=>Qb W X/\Qg X b #[.string u,Qi (k:Nat)] 44/\Qg X (b+1) #[.string s,.slice q m g,Qi 2,Qi (d:Nat),.slice p l f,.slice r o i,Qi (j:Nat)] 39/\Ar X b (.slice q m g) 2 d (.slice p l f) (.slice r o i) j B U DD) ⟨a4,A,x,C⟩ ?_
    clear C;clear A x;clear a1 a9 b1 a2)
  |(have A:=Am (((((((v.setCell ⟨b,0,none⟩ (.string s)).setCell ⟨b,1,none⟩ (.slice q m g)).setCell ⟨b,2,none⟩ (Qi 2)).setCell ⟨b,3,none⟩ (Qi (d:Nat))).setCell ⟨b,4,none⟩ (.slice p l f)).setCell ⟨b,5,none⟩ (.slice r o i)).setCell ⟨b,6,none⟩ (Qi (j:Nat))) (.cells #[.string u,Qi (k:Nat)] 44) v.heap.size Q6
    have x:=Bb (.cells #[.string u,Qi (k:Nat)] 44) (show _=some (.cells #[.string s,.slice q m g,Qi 2,Qi (d:Nat),.slice p l f,.slice r o i,Qi (j:Nat)] 39 (0,0)) from(Ak (Ak (Ak (Ak (Ak (Ak (Ak a 0 (.string s)) 1 (.slice q m g)) 2 (Qi 2)) 3 (Qi (d:Nat))) 4 (.slice p l f)) 5 (.slice r o i)) 6 (Qi (j:Nat))).trans QC)
    have C:=((O.out.only ((((((((Ab.refl b v).set 0 (.string s)).set 1 (.slice q m g)).set 2 (Qi 2)).set 3 (Qi (d:Nat))).set 4 (.slice p l f)).set 5 (.slice r o i)).set 6 (Qi (j:Nat))) Q0).up (Ay (Ag _ _) (.cells #[.string u,Qi (k:Nat)] 44))).mono (B':=b) Q0
    with_reducible refine Qq (P:=λX=>Exit.then _ _ _ _ X) (Q:=λX=>Qb W X/\Qg X v.heap.size #[.string u,Qi (k:Nat)] 44/\Qg X b #[.string s,.slice q m g,Qi 2,Qi (d:Nat),.slice p l f,.slice r o i,Qi (j:Nat)] 39/\Ar X b (.slice q m g) 2 d (.slice p l f) (.slice r o i) j B U DD) ⟨a4,A,x,C⟩ ?_
    clear C;clear A x)
  |(have a1:=(((Ab.refl (b+1) v).set 0 (.string u)).set 1 (Qi (k:Nat)))
    have a9:=(show _=some (.cells #[.string u,Qi (k:Nat)] 44 (0,0)) from(Ak (Ak y 0 (.string u)) 1 (Qi (k:Nat))).trans QC)
    have b1:=a1.other a Q0
    have a2:=((((((((Ab.refl b ((v.setCell ⟨b+1,0,none⟩ (.string u)).setCell ⟨b+1,1,none⟩ (Qi (k:Nat)))).set 0 (.string s)).set 1 (.slice q m g)).set 2 (Qi 2)).set 3 (Qi (d:Nat))).set 4 (.slice p l f)).set 5 (.slice r o i)).set 6 (Qi (j:Nat)));have A:=a2.other a9 Q0
    have x:=(show _=some (.cells #[.string s,.slice q m g,Qi 2,Qi (d:Nat),.slice p l f,.slice r o i,Qi (j:Nat)] 39 (0,0)) from(Ak (Ak (Ak (Ak (Ak (Ak (Ak b1 0 (.string s)) 1 (.slice q m g)) 2 (Qi 2)) 3 (Qi (d:Nat))) 4 (.slice p l f)) 5 (.slice r o i)) 6 (Qi (j:Nat))).trans QC)
    have C:=((O.out.only a1 Q0).only a2 Q0).mono (B':=b) Q0
    with_reducible refine Qq (P:=λX=>Exit.then _ _ _ _ X) (Q:=λX=>Qb W X/\Qg X (b+1) #[.string u,Qi (k:Nat)] 44/\Qg X b #[.string s,.slice q m g,Qi 2,Qi (d:Nat),.slice p l f,.slice r o i,Qi (j:Nat)] 39/\Ar X b (.slice q m g) 2 d (.slice p l f) (.slice r o i) j B U DD) ⟨a4,A,x,C⟩ ?_
    clear C;clear A x;clear a1 a9 b1 a2)
  |fail
 all_goals
  rintro g2 ⟨d0,A,x,e9⟩
  try clear b0
  try clear t
  try clear f2
  try clear y
  try clear a
  have c8:=Aa (Al d0 c5.out);have e4:=Aa (A9 d0 c0.out);have e5:=Aa e9;have g3:=Aa a0.out.2;have e0:=BH A;have e1:=BX A;have Z:=BH x;have y1:=BX x;have y2:=Dr x;have y3:=D7 x;have y4:=DK x;have y5:=DJ x;have y6:=DM x;have a7:=zmu g2 z _ _ _ _ _ _ _ _ _ _ c8.out s q p r m g l f o i 2 d j c3 f3 k g6;rw[g4.out] at a7;have a7:=Aa a7;clear d0 e9 A x a4 c5 c0 a0 O f0 T g8
  go_wp2_with fail
  refine a7.out.mono ?_;rintro a5 h7 ⟨rfl,f9,d4⟩;have c7:=Aa (Gc ((Ab.of (k:=z) e4.out).trans d4) (Gc f9 ((e5.out.mono g9.2.2).one d4 c8.out)));clear f9 d4 a7 e4 e5 c8 e0 e1 Z y1 y2 y3 y4 y5 y6
  go_wp2_with fail
  go_ret
  exact⟨rfl,c7.out.1,q,m,g,d,p,l,f,r,o,i,j,U,c7.out.2.1,c7.out.2.2,g3.out⟩
