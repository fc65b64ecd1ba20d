import Derived.Test.YtoejfkeofbdalaaGreatDoorM47
import Derived.Test.YtoejfkeofbdalaaGreatDoorM02
import Derived.Test.YtoejfkeofbdalaaGreatDoorM50
import Derived.Test.YtoejfkeofbdalaaGreatDoorTie
import Derived.Test.YtoejfkeofbdalaaGreatDoorCards
import Derived.LaidSub
import Derived.ProofKit
import Derived.OpenShut
import Derived.ShutString
import Derived.ChangeOld
import Derived.SevenTiedAt
set_option linter.all false
set_option maxRecDepth 100000
set_option maxHeartbeats 8000000
namespace Go.Proofs.YtoejfkeofbdalaaGreatDoor
open Go.RowKit Go.Shelf
theorem zA6(S:ByteArray)(L:List Av)(a:Cu S L)(d:Ig L=true)(W:World) :
 Qk 10 #[.string S] W λe b=>∃v,e=.returned (.tuple #[v,Qi 0])/\b.ownsRow W.heap.size 56 5 v (Cl L).length (DR 0 (Cl L))/\Qb W b:=by
 have h:=zxK S W a.size L a.ne a.at0 a.few a.evsL a.resL (λk=>BU (a.txL k) Q0)
 have c:GG L=0:=by rw[GG,if_pos d]
 rw[c] at h;exact h
theorem zyo(A:ByteArray):(⟨A.data.toList.toArray⟩:ByteArray)=A:=by cases A;simp
theorem zmu(A:ByteArray)(P:List Ai)(X:List UInt8)(x:Bi P=X)(u:Gz A.data.toList P)(W:World)(i g j:Value)(c d:Nat)(H:List HE)(z:Ca W i 2 c g j d P H DD)(a n k:Nat)(D:a<=100000)(C:n<=100000)(y:c+3*P.length<=1099511627776)(B:(if X.length<a+n then 8 else 0)=k)(R:ByteArray)(w:(⟨(IY X a n).toArray⟩:ByteArray)=R) :
 Qk 15 #[.agg #[.string A,i,Qi 2,Qi (c:Nat),g,j,Qi (d:Nat)],Qi 0,Qi (a:Nat),Qi (n:Nat)] W λe t=>∃r F o q E m s G p,∃b l:Nat,e=.returned (.tuple #[.agg #[.string R,Qi (k:Nat)],.agg #[.string A,.slice r F o,Qi 2,Qi (b:Nat),.slice q E m,.slice s G p,Qi (l:Nat)],Qi 0])/\Qb W t:=by
 have h:=zpD W A.data.toList i 2 c g j d P H z u a n D C y;rw[x,B] at h;unfold Fl Hz at h;rw[zyo,w] at h;refine h.mono ?_;rintro e t ⟨K,b,J,L,l,I,rfl,f,-,v⟩;obtain⟨r,o,rfl,-,-⟩:=Rd.isSlice (Rd.own f.iv);obtain⟨q,m,rfl,-,-⟩:=Rd.isSlice (Rd.own f.hv);obtain⟨s,p,rfl,-,-⟩:=Rd.isSlice (Rd.own f.rv);exact⟨_,_,_,_,_,_,_,_,_,b,l,rfl,v⟩
theorem MQ{w:World}{n m:Nat}{x:Value}{P:List Ai}(b:P.length=m)(h:w.ownsRow n 56 5 x m (DR 0 P)):Au w x P:=by
 have a:=Rd.own h
 show Rd _ _ _ _ _ _
 rw[b];exact a
theorem zBw(w:World)(j6:Qk 6 #[] w λe c3=>e=.returned (.bool true)/\Qb w c3)(g6 t:ByteArray)(v1:Value)(l1:List (Int × Int))(f9:Bn w v1 l1)(d z y:Int)(X:-9223372036854775808<=d)(Z:d<=9223372036854775807)(h3:-9223372036854775808<=z)(h4:z<=9223372036854775807)(h5:-9223372036854775808<=y)(h6:y<=9223372036854775807) :
 Qk 3 #[.string g6,v1,.string t,Qi d,Qi z,Qi y] w λe c3=>e=.returned (.bool true)/\Qb w c3:=by
 have g7:=Aa j6;have g8:=Aa (λW (h:Qb w W)=>ztZ W g6 v1 l1 (f9.up h) 300 Q5 Q5)
 have x3:=Aa (λp8 p9 X Z h3 h4 W=>zqD p8 p9 X Z h3 h4 W);obtain⟨q1,c1,rfl,-,-⟩:=Rd.isSlice f9.rd;obtain⟨u,f4⟩:=Qe (I9 d%9:Nat);have y7:u<9:=by rw[<-f4];exact F8 _ Q5
 have a9:=Aa (λW=>zqD d 9 X Z Q5 Q5 W)
 rw[f4] at a9;obtain⟨r,t9⟩:=Qe (d.tdiv 9:Int)
 have a5:-9223372036854775808<=r/\r<=9223372036854775807:=by
  have h:d.tdiv 9=if 0<=d then d / 9 else -((-d)/ 9):=by
   split
   ·rename_i h0;exact QR h0
   ·rename_i h0
    rw[show d = -(-d) by omega,Int.neg_tdiv,QR Q0]
    simp
  rw[<-t9,h];split<;>omega
 have v6:IntKind.i64.wrap r=r:=AU _ a5;obtain⟨s,f3⟩:=Qe (I9 r%9:Nat);have y6:s<9:=by rw[<-f3];exact F8 _ Q5
 have c8:=Aa (λW=>zqD r 9 a5.1 a5.2 Q5 Q5 W)
 rw[f3] at c8;have w0:IntKind.i64.wrap (1+(u:Int))=((u+1:Nat):Int):=(AU _ Q0).trans Q0
 have v3:IntKind.i64.wrap (1+(s:Int))=((s+1:Nat):Int):=(AU _ Q0).trans Q0
 obtain⟨k,hk⟩:=Qe (min t.size 60:Nat);have m1:min (t.size:Int) 60=(k:Int):=Q0
 have x9:k<=t.size:=Q0
 obtain⟨Y,q6⟩:=Qe (t.extract 0 k:ByteArray);have x8:Y.size<=60:=by rw[<-q6,Vs];omega
 have b1:(0:Int)<=(k:Int):=Q0
 have b2:(k:Int)<=(t.size:Int):=Q0
 clear f9 f4 f3 hk a5 j6 X Z;have e0:=Aa (Gc h3 h4);have d7:=Aa (Gc h5 h6);clear h3 h4 h5 h6
 go_enter Tryz.func3,Tryz.ntmps3
 go_wp2_with fail
 refine g7.mono ?_;rintro e w1 ⟨rfl,j7⟩;have d6:=Aa j7;clear j7 g7
 go_wp2_with fail
 refine(g8 w1 d6).mono ?_;rintro e w2 ⟨T,rfl,t6,j8⟩;have i5:=Aa (A9 j8 d6);clear j8 g8 d6;obtain⟨a6,a7,a2,b6,c4,p,x,b7,c5,i,l5,h7,h8,h1,h2⟩:=zBP (u+1) (s+1) T.data.toList Y.data.toList Q0 Q0 Q0 Q0 (by simpa using t6) Q4
 have c6:=Aa (λW=>zy8 W T Q0 (u+1) Q0 Q0)
 have c7:=Aa (λW=>zy8 W Y Q0 (s+1) Q0 Q0)
 obtain⟨A,b8⟩:=Qe (Ba (I8 (u+1) T.data.toList));obtain⟨B,a⟩:=Qe (Ba (I8 (s+1) Y.data.toList));rw[b8] at c6;rw[a] at c7;rw[b8] at a2 p h7 x i;rw[a] at x i l5 h8;have x1:¬ 9223372036854775807<A.size+B.size:=Q0
 have x2:¬ 9223372036854775807<(A.size:Int)+(B.size:Int):=Q0
 have l0:(A++B).size=A.size+B.size:=QY;obtain⟨AB,j5⟩:=Qe (A++B);rw[j5] at x i l0;have f5:A.size≠AB.size:=Q0
 have e2:A.size<=1000000:=Q0
 have g2:AB.size<=1000000:=Q0
 have a3:=Aa (zA6 A a6 a2 b6);have a4:=Aa (zA6 AB a7 x b7);obtain⟨g,k2⟩:=Qe (Cl a6);obtain⟨c,k4⟩:=Qe (Cl a7);have c9:=Aa (λW=>zvY W A 2 ⟨Q5,Q5⟩ a6 a2 b6 p.ix)
 have d0:=Aa (λW p7 q5=>zu2 W AB p7 2 ⟨Q5,Q5⟩ a7 x b7 i.ix q5)
 rw[k2] at a3 c9 c4 p h1;rw[k4] at a4 d0 c5 i h2;have d3:=Aa (λW v hv=>zvW W A v g hv p.ix e2);have d4:=Aa (λW v hv=>zvW W AB v c hv i.ix g2);obtain⟨O1,e7⟩:=Qe ((⟨(Qq A.size (BG A.data.toList) g).toArray⟩:ByteArray):ByteArray);obtain⟨b5,e8⟩:=Qe ((⟨(Qq AB.size (BG AB.data.toList) c).toArray⟩:ByteArray):ByteArray);have o4:O1.data.toList=Qq A.size (BG A.data.toList) g:=by rw[<-e7]
 have g3:b5.data.toList=Qq AB.size (BG AB.data.toList) c:=by rw[<-e8]
 rw[e7] at d3;rw[e8] at d4;have h9:=Aa (λW=>zxg W AB O1 A.size _ g p.ix e2 (Qu _) o4 f5);have i0:=Aa (λW=>zxg W A b5 AB.size _ c i.ix g2 (Qu _) g3 f5.symm);have l6:=Aa (λW=>d0.out W b5 g3);obtain⟨q0,e5⟩:=Qe g.length;obtain⟨q2,e6⟩:=Qe c.length;rw[e5] at a3;rw[e6] at a4;have d8:=Aa e5;have d9:=Aa e6;have j4:=Aa c4;have e1:=Aa c5;have i4:=Aa p;have d5:=Aa i;have v0:q0<=1000:=Q0
 have v2:q2<=1000:=Q0
 have x4:=Aa j5;clear b8 a c4 c5 p i a2 x b6 b7 l5 h7 h8 h1 h2 l0 k2 k4 e7 e8 o4 g3 f5 e5 e6 d0 e2 g2
 go_wp2_with fail
 refine(a9 _).mono ?_;rintro e w3 ⟨rfl,rfl⟩;clear a9
 go_wp2_with fail
 refine(c6 _).mono ?_;rintro e w4 ⟨rfl,j9⟩;have i6:=Aa (A9 j9 i5);clear j9 i5 c6
 go_wp2_with fail
 refine(c8 _).mono ?_;rintro e w5 ⟨rfl,rfl⟩;clear c8
 go_wp2_with fail
 refine(c7 _).mono ?_;rintro e w6 ⟨rfl,k0⟩;have i7:=Aa (A9 k0 i6);clear k0 i6 c7
 go_wp2_with fail
 refine(a3 _).mono ?_;rintro e w7 ⟨v,rfl,q,k1⟩;obtain⟨qa,ca,rfl⟩:=EN q;have j1:=Aa (MQ d8 q);have i8:=Aa (A9 k1 i7);clear q k1 i7 a3
 go_wp2_with fail
 refine(a4 _).mono ?_;rintro e w8 ⟨v,rfl,q,e3⟩;obtain⟨qb,cb,rfl⟩:=EN q;have j2:=Aa (MQ d9 q);have m9:=Aa (j1.up e3);have i9:=Aa (A9 e3 i8);clear q e3 i8 a4 j1
 go_wp2_with fail
 refine(d3 _ _ m9).mono ?_;rintro e w9 ⟨rfl,e4⟩;have n0:=Aa (j2.up e4);have j0:=Aa (A9 e4 i9);clear e4 i9 d3 m9 j2
 go_wp2_with fail
 refine(d4 _ _ n0).mono ?_;rintro e y0 ⟨rfl,o0⟩;have l7:=Aa (A9 o0 j0);clear o0 j0 d4 n0
 go_wp2_with fail
 refine(h9 _).mono ?_;rintro e y1 ⟨rfl,o1⟩;have l8:=Aa (A9 o1 l7);clear o1 l7 h9
 go_wp2_with fail
 refine(i0 _).mono ?_;rintro e y2 ⟨rfl,o2⟩;have l9:=Aa (A9 o2 l8);clear o2 l8 i0
 go_wp2_with fail
 refine(c9 _).mono ?_;rintro e U ⟨iv,rv,rfl,l,o3⟩;obtain⟨qi,ci,rfl,-,-⟩:=Rd.isSlice (Rd.own l.iv);obtain⟨qr,cr,rfl,-,-⟩:=Rd.isSlice (Rd.own l.rv);have S:=Aa l.at_;have m0:=Aa (A9 o3 l9);clear l o3 l9 c9
 go_wp2_with fail
 obtain⟨d1,f0⟩:=Qe U.heap.size;have I:=Am U (.cells #[.string A,.slice qi g.length ci,Qi 2,Qi 0,.slice none 0 0,.slice qr 1 cr,Qi 0] 39) d1 f0.symm;have j:=Ay (Ag U.heap.size U) (.cells #[.string A,.slice qi g.length ci,Qi 2,Qi 0,.slice none 0 0,.slice qr 1 cr,Qi 0] 39);have f:=Aa I;have n1:=Aa (S.up j);have o8:=Aa (A9 j m0);rw[f0];clear I j S m0 f0;generalize U.alloc (.cells #[.string A,.slice qi g.length ci,Qi 2,Qi 0,.slice none 0 0,.slice qr 1 cr,Qi 0] 39)=q3 at*
 refine(l6 q3).mono ?_;rintro e V ⟨iv,rv,rfl,l,a⟩;obtain⟨J,G,rfl,-,-⟩:=Rd.isSlice (Rd.own l.iv);obtain⟨K,H,rfl,-,-⟩:=Rd.isSlice (Rd.own l.rv);have j3:=Aa l.at_;have p0:=Aa (Al a f);have S:=Aa (n1.up a);have m2:=Aa (A9 a o8);clear l a f n1 o8 l6;have q7:IntKind.i64.wrap ((T.size:Int)+1)=((T.size+1:Nat):Int):=(AU _ Q0).trans Q0
 obtain⟨F,b9⟩:=Qe (I9 z%(T.size+1):Nat);have a8:=Aa (λW=>zqD z (T.size+1) e0.1 e0.2 Q0 Q0 W)
 rw[b9] at a8
 have x5:F<=T.size:=by
  rw[<-b9];have:=F8 (I9 z) (show 0<T.size+1 by omega)
  omega
 obtain⟨D,g9⟩:=Qe (T.size-F);have v4:IntKind.i64.wrap ((T.size:Int)-(F:Int))=(D:Int):=(AU _ Q0).trans Q0
 have v5:IntKind.i64.wrap ((D:Int)+1)=((D+1:Nat):Int):=(AU _ Q0).trans Q0
 obtain⟨C,c2⟩:=Qe (I9 y%(D+1):Nat);have b3:=Aa (λW=>zqD y (D+1) d7.1 d7.2 Q0 Q0 W)
 rw[c2] at b3
 have x7:C<=D:=by
  rw[<-c2];have:=F8 (I9 y) (show 0<D+1 by omega)
  omega
 have b4:=Aa g9;clear b9 c2 g9 e0 d7
 go_wp2_with fail
 obtain⟨d2,f1⟩:=Qe V.heap.size;have I:=Am V (.cells #[.string AB,.slice J c.length G,Qi 2,Qi 0,.slice none 0 0,.slice K 1 H,Qi 0] 39) d2 f1.symm;have j:=Ay (Ag V.heap.size V) (.cells #[.string AB,.slice J c.length G,Qi 2,Qi 0,.slice none 0 0,.slice K 1 H,Qi 0] 39);have m8:=Aa I;have f:=Aa (Al j p0);have n2:=Aa (S.up j);have n3:=Aa (j3.up j);have o9:=Aa (A9 j m2);rw[f1];clear I j S j3 m2 f1 p0;generalize V.alloc (.cells #[.string AB,.slice J c.length G,Qi 2,Qi 0,.slice none 0 0,.slice K 1 H,Qi 0] 39)=q4 at*
 refine(a8 _).mono ?_;rintro e y3 ⟨rfl,rfl⟩;clear a8
 go_wp2_with fail
 refine(b3 _).mono ?_;rintro e y4 ⟨rfl,rfl⟩;clear b3;have o6:(T.data.toList++Y.data.toList).length=T.size+Y.size:=by simp
 have x0:T.data.toList.length=T.size:=by simp
 obtain⟨E,e9⟩:=Qe ((⟨(IY T.data.toList F C).toArray⟩:ByteArray):ByteArray)
 have k5:(⟨(IY (T.data.toList++Y.data.toList) F C).toArray⟩:ByteArray)=E:=by
  rw[<-e9];have h:=b4.out;unfold IY;rw[QN Q0]
 obtain⟨TY,k6⟩:=Qe (T++Y);have v9:TY.size=T.size+Y.size:=by rw[<-k6];exact QY
 obtain⟨R3,t5⟩:=Qe (TY.extract F TY.size:ByteArray)
 have o5:(⟨(IY (T.data.toList++Y.data.toList) F (T.size+Y.size)).toArray⟩:ByteArray)=R3:=by
  rw[<-t5];apply Ov
  apply Array.ext'
  have hl:TY.data.toList=T.data.toList++Y.data.toList:=by rw[<-k6];simp[ByteArray.data_append]
  rw[Vt,Array.toList_extract,Vo,hl]
  show((T.data.toList++Y.data.toList).take (F+(T.size+Y.size))).drop F=_
  rw[BR Q0,BR (by rw[D9];omega)]
 obtain⟨k3,f2⟩:=Qe ((if(T.data.toList++Y.data.toList).length<F+(T.size+Y.size) then 8 else 0):Nat)
 have o7:((k3:Int)==8)=decide ((0:Int)<(F:Int)):=by
  rw[<-f2,o6]
  by_cases h0:0<F
  ·rw[if_pos Q0,Bl Q0];rfl
  ·rw[if_neg Q0,AV Q0];rfl
 have t4:=b4.out;have t7:=d8.out;have t8:=d9.out;have i1:=Aa (zmu A g _ j4 i4 q4 _ _ _ 0 0 _ n2 F C 0 Q0 Q0 Q0 (by rw[if_neg Q0]) E e9)
 have i2:=Aa (λ(W:World) h=>zmu AB c _ e1 d5 W (.slice J c.length G) (.slice none 0 0) (.slice K 1 H) 0 0 [] h F C 0 Q0 Q0 Q0 (by rw[if_neg Q0]) E k5)
 have i3:=Aa (λ(W:World) h=>zmu AB c _ e1 d5 W (.slice J c.length G) (.slice none 0 0) (.slice K 1 H) 0 0 [] h F (T.size+Y.size) k3 Q0 Q0 Q0 f2 R3 o5)
 have x6:F<=TY.size:=Q0
 have y8:¬ 9223372036854775807<T.size+Y.size:=Q0
 have y5:IntKind.i64.wrap ((T.size:Int)+(Y.size:Int))=((T.size+Y.size:Nat):Int):=(AU _ Q0).trans Q0
 have q8:=Aa o7;have n4:=n3;clear o6 x0 e9 k5 v9 o5 f2 o7 t4 t7 t8 j4 e1 i4 d5 d8 d9 b4 n2 n3 v6 w0 v3 q7 v4 v5 v0 v2 x1 x2;have L:=BH f;have M:=BX f;have N:=Dr f;have O:=D7 f;have P:=DK f;have Q:=DJ f;have R:=DM f
 go_wp2_with fail
 refine i1.mono ?_;rintro e l2 ⟨ai,an,ac,bi,bn,bc,ri,rn,rc,u1,u2,rfl,a⟩;have p1:=Aa (Al a m8);have n5:=Aa (n4.up a);have m3:=Aa (A9 a o9);clear a i1 f m8 n4 o9 L M N O P Q R
 go_upto_region 19 with(fail)
 obtain⟨r1,f6⟩:=Qe l2.heap.size;obtain⟨V3,k7,n,-,b⟩:=QL l2 r1 f6 (.cells #[.string E,Qi 0] 44) (.cells #[.string A,.slice ai an ac,Qi 2,Qi (u1:Nat),.slice bi bn bc,.slice ri rn rc,Qi (u2:Nat)] 39);have n8:=Aa n;have m4:=Aa (A9 b m3);have m:=Aa (Al b p1);have g0:=Aa (n5.up b);rw[f6,k7];clear n b k7 f6 m3 p1 n5;have L:=BH m;have M:=BX m;have N:=Dr m;have O:=D7 m;have P:=DK m;have Q:=DJ m;have R:=DM m;have CQ:=Aa (i2 V3 g0)
 go_wp2_with fail
 refine CQ.mono ?_;rintro e l3 ⟨r0,r4,q9,r6,r7,r5,r9,s0,r8,s1,s2,rfl,a⟩;have p3:=Aa (Al a n8);have p2:=Aa (Al a m);have n6:=Aa (g0.up a);have m5:=Aa (A9 a m4);clear a CQ i2 m g0 m4 n8 L M N O P Q R
 go_upto_region 20 with(fail)
 obtain⟨r2,f7⟩:=Qe l3.heap.size;obtain⟨V4,k8,n,-,b⟩:=QL l3 r2 f7 (.cells #[.string E,Qi 0] 44) (.cells #[.string AB,.slice r0 r4 q9,Qi 2,Qi (s1:Nat),.slice r6 r7 r5,.slice r9 s0 r8,Qi (s2:Nat)] 39);have p4:=Aa (Al b p3);have n9:=Aa n;have m6:=Aa (A9 b m5);have o:=Aa (Al b p2);have n7:=Aa (n6.up b);rw[f7,k8];clear n b k8 f7 m5 p2 n6 p3;have L:=BH o;have M:=BX o;have N:=Dr o;have O:=D7 o;have P:=DK o;have Q:=DJ o;have R:=DM o;have CQ:=Aa (i3 V4 n7)
 go_wp2_with fail
 refine CQ.mono ?_;rintro e l4 ⟨s4,s5,s3,s7,s8,s6,t0,t1,s9,t2,t3,rfl,a⟩;have p5:=Aa (Al a p4);have p6:=Aa (Al a n9);have m7:=Aa (A9 a m6);clear a CQ i3 o n7 m6 p4 n9 L M N O P Q R
 go_upto_region 21 with(fail)
 obtain⟨r3,f8⟩:=Qe l4.heap.size;obtain⟨V5,k9,n,-,b⟩:=QL l4 r3 f8 (.cells #[.string R3,Qi (k3:Nat)] 44) (.cells #[.string AB,.slice s4 s5 s3,Qi 2,Qi (t2:Nat),.slice s7 s8 s6,.slice t0 t1 s9,Qi (t3:Nat)] 39);have g4:=Aa (Al b p5);have g5:=Aa (Al b p6);have g1:=Aa n;have v7:=Aa (A9 b m7);rw[f8,k9];clear n b k9 f8 m7   p5 p6;have a0:=BH g4;have a1:=BX g4;have b0:=BH g5;have b1:=BX g5;have c0:=BH g1;have c1:=BX g1;have hk:=q8.out;have v8:=v7
 go_quiet (fail)
 clear a0 a1 b0 b1 c0 c1 hk g4 g5 g1
 go_wp2_with fail
 go_ret
 exact⟨rfl,EW v8 nq⟩
end Go.Proofs.YtoejfkeofbdalaaGreatDoor
namespace Go.Proofs.YtoejfkeofbdalaaGreatDoor.topAdded
open Go.ChangeShapes Go.WideShapes Go.ChangeAt Go.RowKit
open Go.ChangeMaps (open_string shut_string)
theorem own:ownKnob Tryz.prog.godebug=none:=Q2
theorem zuz:laidOutB Tryz.prog=true:=Q2
theorem zut:Rows.topSumsRow.laid=Rows.topAddedRow.laid:=rfl
theorem lifted(os:Os)(b9:os.Started)(H:Type)(enc:TypeId × Value->H) :
 ReturnsInHanded {} Tryz.checked os 3 .any (λw a=>(Rows.topAddedSpec.pre enc Tryz.prog Tryz.f3 Rows.topAddedRow.domain false w a/\laidMetH Tryz.prog Rows.topAddedRow.laid w)/\sizedMet enc Tryz.prog Tryz.f3 (OpenSpec.ofChange Rows.topAddedSpec) false w a)
  (Rows.topAddedSpec.post enc Tryz.prog Tryz.f3 false true false false):=by
 refine returnsInHanded_of_calls own b9 Q2
  (ChangeSpec.witness_shaped (enc:=enc) (C:=Tryz.checked) (os:=os) (X:=λw _=>laidMetH Tryz.prog Rows.topAddedRow.laid w) false (laidW os) #[.string ByteArray.empty,.slice none 0 0,.string ByteArray.empty,.int .i64 0,.int .i64 0,.int .i64 0] 8 (zx5 os)
    (znB os _) Q2 Q2 Q2 (zut ▸ zuD os _)) ?_
 intro d E i _ a4 _ a2 b0 _;obtain⟨_,_,_,a0,a9,_,_,_,_,F⟩:=a2;obtain rfl:a0=Tryz.f3:=JN (a9.symm.trans Tryz.func3);obtain⟨⟨⟨N,gs,e5,a5,-⟩,b8⟩,-⟩:=b0;have g:=DataW.Whole.of_heap (w':=d.forCall E i) Q7 a5
 clear b8;generalize d.forCall E i=W at*
 generalize i.args=a at*
 have b:∀(j:Nat) t v,Tryz.f3.params[j]?=some t->a[j]?=some v->Value.okWide Tryz.prog W .any d.heap.size t v:=F;have a1:=g;obtain⟨p,c1,D,T,rfl,c9,d6⟩:=g;have f:DataW.TrodAll enc Tryz.prog W 0 (λ_=>true) true Tryz.f3.params.toList a.toList N p:=D;rw[Tryz.params3] at f b;obtain⟨n,d7,d0,c3,p0,q0,e4,rfl,rfl,O,r0⟩:=trodAll_cons f;obtain⟨o,d8,d1,c4,Z,q1,rfl,rfl,rfl,e,r1⟩:=trodAll_cons r0;obtain⟨q,d9,d2,c5,p2,q2,rfl,rfl,rfl,P,r2⟩:=trodAll_cons r1;obtain⟨r,e0,d3,c6,p3,q3,rfl,rfl,rfl,Q,r3⟩:=trodAll_cons r2;obtain⟨s,e1,d4,c7,p4,q4,rfl,rfl,rfl,R,r4⟩:=trodAll_cons r3;obtain⟨u,e2,d5,c8,p5,q5,rfl,rfl,rfl,S,r5⟩:=trodAll_cons r4;obtain⟨rfl,rfl,rfl⟩:=trodAll_nil r5;obtain rfl:a=#[n,o,q,r,s,u]:=by cases a;simp_all
 obtain⟨rfl,rfl⟩:=trodVars_none T;obtain⟨G,rfl,rfl,rfl,a7⟩:=open_string Nf (b 0 9 n rfl rfl) O;obtain⟨I,b7,a8,rfl⟩:=okWide_slice Tryz.underlying22 (b 1 22 o rfl rfl);have k:=e;have a6:∀x∈Z,x.block<W.heap.size:=by obtain⟨m,c⟩:=k;exact DataW.trod_lt m _ _ _ c
 obtain⟨Y,a3⟩:∃l,Bn W (.slice I b7 a8) l:=by obtain⟨e3,V⟩:=e;exact zpX V
 obtain⟨J,rfl,rfl,rfl,w2⟩:=open_string Nf (b 2 9 q rfl rfl) P;obtain⟨K,rfl,rfl,rfl,y⟩:=open_int J4 (b 3 3 r rfl rfl) Q;obtain⟨L,rfl,rfl,rfl,z⟩:=open_int J4 (b 4 3 s rfl rfl) R;obtain⟨M,rfl,rfl,rfl,A⟩:=open_int J4 (b 5 3 u rfl rfl) S;clear D F;obtain⟨b1,b2⟩:=wf_i64 y;obtain⟨b3,b4⟩:=wf_i64 z;obtain⟨b5,b6⟩:=wf_i64 A;obtain⟨m,c⟩:=zoG W a4;refine(zBw W (ztr W m c) G J _ Y a3 K L M Q0 Q0 Q0 Q0 Q0 Q0).mono λc0 c2 ⟨U,B⟩=>?_
 subst U;refine ChangeSpec.post_blind ?_;exact⟨_,_,_,[],_,[],a1,(trodAll_cons_mk (shut_bool Tryz.underlying4 _) trodAll_mk0),(trodAll_cons_mk (shut_string Nf a7) (trodAll_cons_mk (Below.trod zuz Q2 (Kk Q2) k B a6) (trodAll_cons_mk (shut_string Nf w2) (trodAll_cons_mk (shut_int J4 y) (trodAll_cons_mk (shut_int J4 z) (trodAll_cons_mk (shut_int J4 A) trodAll_mk0)))))),rfl,B.frame _,λh=>by cases h⟩
end Go.Proofs.YtoejfkeofbdalaaGreatDoor.topAdded