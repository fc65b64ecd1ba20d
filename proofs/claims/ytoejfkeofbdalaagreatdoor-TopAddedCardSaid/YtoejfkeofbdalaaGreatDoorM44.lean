import Derived.Test.YtoejfkeofbdalaaGreatDoorM43
import Derived.Test.YtoejfkeofbdalaaGreatDoorM41
set_option linter.all false
set_option maxRecDepth 100000
set_option maxHeartbeats 8000000
namespace Go.Proofs.YtoejfkeofbdalaaGreatDoor
open Go.RowKit Go.Shelf
variable {Q h:Array Value} {a b i j k m n:Nat} {s:List Value} {t:ByteArray} {v w:World} {x y z:Value}
theorem Dt.deco{f:List Ai}{H:List HE}{r:BF}(h:Dt n m k t x i j y a b f H r s w)(c:Nat):Dt n m k t x i j y a c f H r s (w.setCell ⟨m,6,none⟩ (Qi (c:Nat))):=by
 have d:=(Ab.refl m w).set 6 (Qi (c:Nat));exact⟨Ak h.dk 6 (Qi (c:Nat)),d.other h.rd (λe=>h.ne e.symm),F9 h.iv d h.dk Q5,F9 h.hv d h.dk Q5⟩
theorem zvh(w:World)(a2 b f:Nat)(T:ByteArray)(Q:Value)(R c:Nat)(P:Value)(L j:Nat)(B:List Ai)(a3:List HE)(r:BF)(c4:List Value)(z:Dt a2 b f T Q R c P L j B a3 r c4 w)(p:Ai)(hp:B[r.blk]?=some p)(c9:T.size<=1000000)(h0:p.t≠[])(hl:Gs p.t<=p.room)(e8:1<=p.room)(hr:p.room<=360)(c8:BC T.data.toList p.at0 (Fm p.t))(g4:j<=1099511627776) :
 Qk 162 #[GJ b] w λe a=>BD b f w a/\e=PN/\∃d9,d9<=1099511627776/\Dt a2 b f T Q R c P L d9 B a3 ⟨3,r.off,r.n,r.blk,r.last,r.got,p.t⟩ c4 a:=by
 have a5:=Aa (λW=>zmc W T p.at0 p.room p.t c9 h0 hl e8 hr c8);have a6:=Aa (λ(W:World) h=>zmw W a2 b f T Q R c P L j B a3 r c4 h p hp);have c5:=Aa (λ(W:World) j h=>OO W b f T Q R c P L j h);have h9:=z.ne;obtain⟨n,Y⟩:=Qe ((⟨p.t.toArray⟩:ByteArray):ByteArray);have f0:p.t.length=n.size:=by rw[<-Y];simp[ByteArray.size]
 obtain⟨cs,b9⟩:=Qe (BG p.t);obtain⟨pr,c2⟩:=Qe p.room;obtain⟨A,c1⟩:=Qe p.at0;obtain⟨pe,e7⟩:=Qe (p.at0+(Fm p.t).length);obtain⟨fo,e6⟩:=Qe (BZ B r.blk);rw[e7,Y,b9,c2,c1] at a5;rw[f0,b9,c2,c1,e6] at a6;have f7:=Aa Y
 obtain⟨s,g5,h4⟩:∃s:Nat,min ((j:Int)+1) 1099511627776=(s:Int)/\s<=1099511627776:=by
  by_cases h:j+1<=1099511627776
  ·exact⟨j+1,by rw[Int.min_eq_left Q0];rfl,h⟩
  ·exact⟨1099511627776,by rw[Int.min_eq_right Q0];rfl,Af _⟩
 have g9:IntKind.i64.wrap ((j:Int)+1)=(j:Int)+1:=AU _ Q0
 obtain⟨st,h1,f3,f9,h6,g0,i1⟩:=r
 dsimp only at*
 have h8:=Aj z.dk;have i0:=Aj z.rd;obtain⟨d,g7⟩:=Qe w.heap.size;obtain⟨W,d0,c7,O,a9⟩:=QL w d g7 (.cells #[Qp b 0,Qi 0] 196) (.cells #[.string ⟨#[]⟩,Qi 0] 44);have J:=Aa c7;have a8:=Aa O;have b2:=Aa (z.up a9);have a7:=Aa a9;have c6:=Aa d0;unfold PN GJ NN Hz at*
 clear z hp c9 h0 hl e8 hr c8 Y f0 b9 c2 c1 e7 e6 c7 O a9 d0 g4
 go_enter Tryz.func162,Tryz.ntmps162
 go_upto_region 1 with(fail)
 rw[c6.out];clear c6;have K:=BH J;have a1:=BX J
 go_wp2_with fail
 refine(a6 W b2).mono ?_;rintro e w1 ⟨rfl,b6⟩;clear K a1
 go_upto_region 2 with(fail)
 obtain⟨i,c0⟩:=Qe w1.heap.size;obtain⟨g,e2,b7,e5⟩:=Lf w1 i c0 (.cells #[Qi (A:Nat),Qi (pr:Nat),Qi (fo:Nat),Qi (n.size:Nat),.int .u32 (cs:Nat)] 56);have I:Qb W g:=A9 e5 b6;have b0:=Aa (Al I J);have b5:=Aa (Al I a8);have G:=Aa (b2.up I);have d1:=Aa (A9 I a7);have U:=Aa b7;have h5:i≠b/\i≠f/\i≠d/\i≠d+1:=by have:=a7.size;have:=b6.size;have:=Aj a8;omega
 rw[e2,c0];have f5:Hid (d+1<g.heap.size/\i<g.heap.size):=⟨Aj b5,Aj b7⟩;obtain⟨S,c3⟩:=Qe g.heap.size;clear b6 e5 I b7 e2 c0 J a8 b2 a7 a6
 have E:Hid (∀a:World,Qb g a->Qb g a/\Qc a d 0 (Qp b 0)/\Qc a b 0 (.string T)/\Qc a i 0 (Qi (A:Nat))/\Qc a i 1 (Qi (pr:Nat))):=λa h =>
  ⟨h,BH (Al h b0),BH (Al h G.dk),BH (Al h U),BX (Al h U)⟩
 have b8:Qb g g:=Ag _ _
 go_region_held3 (λa=>Qb g a/\Qc a d 0 (Qp b 0)/\Qc a b 0 (.string T)/\Qc a i 0 (Qi (A:Nat))/\Qc a i 1 (Qi (pr:Nat)))
  ((refine E _ ?_;first|assumption|exact Cq Q3|exact Bh Q3|exact A9 Q3 (Bh Q3)|exact Ay (Bh Q3) _|exact Ay Q3 _|(refine Ce (Ce (Ce (Ce ?_ ?_ _ _) ?_ _ _) ?_ _ _) ?_ _ _<;>first|exact Bh Q3|exact EV c3|exact F.size|exact Ay F _|exact F)|fail))
  ((first
    |(go_at_call 223
      refine(a5 _).mono ?_;rintro e C ⟨rfl,m⟩;have F:Qb g C:=A9 m (Bh Q3)
      first
       |(have l:=Al m (Am g.drew (.cells #[.string ⟨#[]⟩,.int .u32 0,Qi 0,Qi 0] 87) S c3.symm)
         have z0:=BH l;have y1:=BX l;have y2:=Dr l;have y3:=D7 l;have M:=Ah l 0;have g1:=Ah l 1;have g2:=Ah l 2;have g3:=Ah l 3)
       |skip)
    |fail))
 all_goals
  rename_i e1
  have m:=Bh e1;have X:=F.size;clear e1
  first
  |(have Z:=Ak (Ak (Ak (Ak l 0 (.string n)) 1 (.int .u32 (cs:Nat))) 2 (Qi (A:Nat))) 3 (Qi (pe:Nat))
    clear z0 y1 y2 y3 M g1 g2 g3 l X;have X:g.heap.size<=S:=EV c3;generalize(((C.setCell _ _).setCell _ _).setCell _ _).setCell _ _=a4 at*
    generalize h7:S=t at*)
  |(have Z:=Am C (.cells #[.string n,.int .u32 (cs:Nat),Qi (A:Nat),Qi (pe:Nat)] 87) _ rfl
    obtain⟨t,g8⟩:=Qe C.heap.size;rw[g8] at Z X |-;generalize C.alloc _=a4 at*)
 all_goals
  have b1:=Aa (Al m b0);have d7:=Aa (Al m b5);have a0:=Aa (G.up m);have d2:=Aa (A9 m d1);have d3:=Aa (Al m U);have d4:=Aa Z;have e9:t≠b/\t≠f/\t≠d/\t≠d+1/\t≠i:=by have:=f5.out;have:=Aj G.dk;have:=Aj G.rd;omega
  have d6:=DM a0.dk;have f6:=Ah a0.dk 6;have K:=BH b1;clear m X Z F b0 b5 G d1 U E b8 a5
  go_upto_region 3 with(fail)
  go_still_tail 11,Q2
  go_upto_region 4 with(fail)
  have v:=JR ((Ab.refl b a4).set 6 (Qi (s:Nat)));have H:=Aa ((a0.deco s).up (Cq (Ag _ _)));have d5:Hid (BD b f w _):=(BD.of d2).trans (BD.onlyA v);have D:=Aa (v.other b1 Q0)
  have d8:=Aa (v.other d7 Q0)
  have b4:=Aa (v.other d3 h5.1);have V:=Aa (v.other d4 e9.1);clear v b1 d7 a0 d2 d3 d4 d6 f6 K g9 g5;generalize(a4.setCell _ _).drew=o at*
  have t0:=BH V;have t1:=BX V;have e3:=D7 b4;have e4:=DK b4;have K:=BH D;have a1:=BX D
  go_upto_region 8 with(fail)
  have E:Hid (∀a:World,Ab f o a->Ab f o a/\Qc a d 0 (Qp b 0)/\Qc a d 1 (Qi 0)/\Qc a t 0 (.string n)):=λa h =>
   ⟨h,BH (h.other D Q0),BX (h.other D Q0),BH (h.other V e9.2.1)⟩
  have b8:Ab f o o:=Ab.refl _ _
  go_region_held3 (λa=>Ab f o a/\Qc a d 0 (Qp b 0)/\Qc a d 1 (Qi 0)/\Qc a t 0 (.string n))
   ((refine E _ ?_;first|assumption|exact JR Q3|exact Bh Q3|exact Ab.of (x)|exact Ab.of (b3)|exact(Ab.of x).set _ _|exact((Ab.of x).set _ _).set _ _|fail))
   ((first
     |(go_at_call 220
       refine(c5 w8 s (Al b3 H.dk)).mono ?_;rintro e f1 ⟨rfl,f2⟩;have x:Hid (Qb o f1):=A9 f2 b3;have y:=Aa (Al x H.rd);have r0:=A8 y;have r6:=ES y;have M:=Ah y 0;have g6:=Ah y 6;clear f2)
     |(go_at_call 220
       refine(c5 o.drew s H.dk).mono ?_;rintro e w8 ⟨rfl,e0⟩;have b3:Hid (Qb o w8):=A9 e0 (Cq (Ag _ _));clear e0)
     |fail))
  have N:=((Ab.of (k:=f) x).set 0 (Qi 3)).set 6 (.string n);have h2:=Aa (H.rd1 (r':=⟨3,h1,f3,f9,h6,g0,p.t⟩) N ((Ak (Ak y 0 (Qi 3)) 6 (.string n)).trans (by rw[<-f7.out];simp[AO,DH])))
  have u:=Aa (N.other d8 Q0)
  have f8:=Aa (d5.trans (BD.onlyB N));clear N r0 r6 M g6 H d8 d5 y x V D b4 E b8
  try clear hHeld
  generalize(f1.setCell _ _).setCell _ _=f4 at*
  have z0:=BH u;have S:=BX u;have M:=Ah u 0;have g1:=Ah u 1
  go_wp2_with fail
  have O:=Ak (Ak u 0 (.string ⟨#[]⟩)) 1 (Qi 0);have h3:=((Ab.refl (d+1) f4).set 0 (.string ⟨#[]⟩)).set 1 (Qi 0);exact BV (M7 (p:=3) (q:=2) rfl _ _ _ ⟨d+1,0,none⟩ _ rfl (JO _ _ _ _ O)) rfl ⟨(f8.setNew (show w.heap.size<=d+1 by omega) 0 (.string ⟨#[]⟩)).setNew (show w.heap.size<=d+1 by omega) 1 (Qi 0),rfl,s,h4,h2.reply h3 u Q0 Q0⟩
theorem zwz(w:World)(B b s:Nat)(T:ByteArray)(X:Value)(R c:Nat)(i:Value)(Q S:Nat)(k:List Ai)(H:List HE)(r:BF)(a6:List Value)(A:Dt B b s T X R c i Q S k H r a6 w)(e4:B<=w.heap.size)(g9:1<=R/\R<=2)(hc:c+1<=1099511627776)(f0:A7 R c H)(hb:r.blk<=1000000)(f6:(H.any λg5=>decide (g5.b=r.blk))=false)(c9:Kx k H)(d0:Bz k)(p:Ai)(hp:k[r.blk]?=some p)(h7:r.text=p.t)(f7:r.off<=100000)(hn:r.n<=1000000)(e9:r.got.length<=100000)(g3:r.off-BZ k r.blk<=p.t.length)(g4:r.last<=100000) :
 Qk 163 #[GJ b] w λe a=>BD b s w a/\∃v d Y,Fe k r p.t e Y/\Dt B b s T X R (c+1) v Q S k d Y a6 a/\A7 R (c+1) d/\Kx k d:=by
 have a9:Hid (∀W:World,Rd W W.heap.size 3 i H.length (BB H)->B<=W.heap.size->Qk 225 #[.agg #[Qi R,Qi c,i],Qi (r.blk:Nat),.string ⟨p.t.toArray⟩] W λe a=>∃(a5:Int)(d:List HE)(q:Option Addr)(n g:Nat),e=.returned (.tuple #[Qi a5,.agg #[Qi R,Qi ((c+1:Nat):Int),.slice q n g],Qi 0])/\a.ownsRow B 271 3 (.slice q n g) d.length (BB d)/\(A7 R (c+1) d/\Kx k d)/\Qb W a):=λW h U=>(zrn W R c i H h g9 hc f0 r.blk hb f6 p.t).mono (by
  rintro e a ⟨y,a5,d,v,rfl,i,hs,hm⟩;obtain⟨q,g,rfl,-,-⟩:=Rd.isSlice (Rd.own i);refine⟨a5,d,q,_,g,rfl,EY i U,⟨hs,λx hx=>?_⟩,y⟩;rcases hm x hx with rfl|hx
  ·exact⟨p,hp,rfl⟩
  ·exact c9 x hx)
 have g6:=Aa (λ(W:World) h=>OO W b s T X R c i Q S h);have i9:=A.ne;have c5:=Aa (λ(W:World) v d h=>zyG W B b s T X R (c+1) v Q S k d r a6 h d0 p hp f7 hn e9 g3 g4);obtain⟨st,f5,n,a2,f8,h4,j1⟩:=r
 dsimp only at*
 subst h7;obtain⟨P,c0⟩:=Qe ((⟨p.t.toArray⟩:ByteArray):ByteArray);obtain⟨c4,z⟩:=Qe ((⟨h4.toArray⟩:ByteArray):ByteArray);rw[c0] at a9 c5
 have e0:Hid (Qg w s ([Value.int .i64 (st:Nat),Value.int .i64 (f5:Nat),Value.int .i64 (n:Nat),Value.int .i64 (a2:Nat),Value.int .i64 (f8:Nat),Value.string c4,Value.string P]++a6).toArray 185):=by
  have:=A.rd;unfold DH at this
  dsimp only at this
  rw[z,c0] at this;exact this
 have i8:=Aj A.dk;have j0:=Aj A.rd;obtain⟨j,h6⟩:=Qe w.heap.size;obtain⟨W,U,c8,V,y⟩:=QL w j h6 (.cells #[Qp b 0,Qi 0] 196) (.cells #[.string ⟨#[]⟩,Qi 0] 44);have O:=Aa c8;have b1:=Aa V;have b4:=Aa (A.up y);have e1:=Aa (Al y e0);have b0:=Aa y;have c6:=Aa U;have h0:=Aa e4;unfold GJ at*
 clear A f0 f6 c9 d0 hp f7 hn e9 g3 g4 c8 V y U c0 z e0 e4
 go_enter Tryz.func163,Tryz.ntmps163
 go_upto_region 1 with(fail)
 rw[c6.out];clear c6;have F:=BH O;have a1:=BX O
 go_wp2_with fail
 refine(g6 W b4.dk).mono ?_;rintro e w1 ⟨rfl,a3⟩;have t:=Aa (Al a3 e1);clear F a1;have r0:=BH t;have r1:=BX t;have r2:=Dr t;have r3:=D7 t;have r4:=DK t;have r5:=DJ t;have r6:=DM t
 go_upto_region 2 with(fail)
 obtain⟨l,c1⟩:=Qe w1.heap.size;obtain⟨f,e7,b8,e8⟩:=Lf w1 l c1 (.cells #[Qi (st:Nat),Qi (f5:Nat),Qi (n:Nat),Qi (a2:Nat),Qi (f8:Nat),.string c4,.string P] 185);have N:Qb W f:=A9 e8 a3;have b2:=Aa (Al N O);have b7:=Aa (Al N b1);have D:=Aa (b4.up N);have b5:=Aa (A9 N b0);have a0:=Aa b8;have h9:l≠b/\l≠s/\l≠j/\l≠j+1:=by have:=b0.size;have:=a3.size;have:=Aj b1;omega
 rw[e7,c1];have i6:Hid (j+1<f.heap.size/\l<f.heap.size):=⟨Aj b7,Aj b8⟩;obtain⟨Z,c2⟩:=Qe f.heap.size;have d1:=Aa (λc7 (h:Qb f c7)=>a9.out c7 (Rd.own (Cd D.hv h)) (BU h0 (BU b5.size h.size)));clear a3 e8 N b8 e7 c1 O b1 b4 b0 a9 r0 r1 r2 r3 r4 r5 r6 e1 t
 have e3:Hid (∀a:World,Qb f a->Qb f a/\Qc a j 0 (Qp b 0)/\Qc a b 2 (Qi (R:Nat))/\Qc a b 3 (Qi (c:Nat))/\Qc a b 4 i/\Qc a l 3 (Qi (a2:Nat))/\Qc a l 6 (.string P)):=λa h =>
  ⟨h,BH (Al h b2),Dr (Al h D.dk),D7 (Al h D.dk),DK (Al h D.dk),D7 (Al h a0),DM (Al h a0)⟩
 have h5:Qb f f:=Ag _ _
 go_region_held3 (λa=>Qb f a/\Qc a j 0 (Qp b 0)/\Qc a b 2 (Qi (R:Nat))/\Qc a b 3 (Qi (c:Nat))/\Qc a b 4 i/\Qc a l 3 (Qi (a2:Nat))/\Qc a l 6 (.string P))
  ((refine e3 _ ?_;first|assumption|exact Cq Q3|exact Bh Q3|exact A9 Q3 (Bh Q3)|exact Ay (Bh Q3) _|exact Ay Q3 _|(refine Ce (Ce (Ce ?_ ?_ _ _) ?_ _ _) ?_ _ _<;>first|exact Bh Q3|exact EV c2|exact L.size|exact Ay L _|exact L)|fail))
  ((first
    |(go_at_call 225
      refine(d1 _ (Bh Q3)).mono ?_
      rintro e J ⟨a5,d,I,G,g,rfl,f1,e5,m⟩;have b6:=Aa f1;have d8:=Aa e5;clear f1 e5;have L:Qb f J:=A9 m (Bh Q3)
      first
       |(have o:=Al m (Am f.drew (.cells #[Qi 0,Qi 0,.slice none 0 0] 36) Z c2.symm)
         have z0:=BH o;have y1:=BX o;have y2:=Dr o;have g0:=Ah o 0;have g1:=Ah o 1;have g2:=Ah o 2)
       |skip)
    |fail))
 all_goals
  rename_i e6
  have m:=Bh e6;have a4:=L.size;clear e6;have M:((c:Int)+1)=((c+1:Nat):Int):=rfl;rw[M] at m |-;clear M
  first
  |(have C:=Ak (Ak (Ak o 0 (Qi (R:Nat))) 1 (Qi ((c+1:Nat):Int))) 2 (.slice I G g)
    have b9:=zqg b6 o Q5 (Qi (R:Nat)) (Qi ((c+1:Nat):Int)) (.slice I G g)
    clear z0 y1 y2 g0 g1 g2 o a4;have a4:f.heap.size<=Z:=EV c2;generalize((J.setCell _ _).setCell _ _).setCell _ _=a7 at*
    generalize i7:Z=sb at*)
  |(have C:=Am J (.cells #[Qi (R:Nat),Qi ((c+1:Nat):Int),.slice I G g] 36) _ rfl
    have b9:=Cd b6 (Ay (Ag _ _) (.cells #[Qi (R:Nat),Qi ((c+1:Nat):Int),.slice I G g] 36));obtain⟨sb,h8⟩:=Qe J.heap.size;rw[h8] at C a4 |-;generalize J.alloc _=a7 at*)
 all_goals
  have b3:=Aa (Al m b2);have e2:=Aa (Al m b7);have u:=Aa (D.up m);have d6:=Aa (A9 m b5);have d7:=Aa (Al m a0);have d9:=Aa b9;have F:=BH b3;have s0:=BH C;have s1:=BX C;have s2:=Dr C;have d2:=Dr u.dk;have d3:=D7 u.dk;have d4:=DK u.dk;have f2:=Ah u.dk 2;have f3:=Ah u.dk 3;have f4:=Ah u.dk 4;clear m a4 C b9 L b2 b7 D b5 a0 e3 h5 b6 d1
  go_upto_region 5 with(fail)
  have M:((c:Int)+1)=((c+1:Nat):Int):=rfl;rw[M];clear M;have i1:=Aa (Dt.shelf (c':=c+1) u d9);have K:=(((Ab.refl b a7).set 2 (Qi (R:Nat))).set 3 (Qi ((c+1:Nat):Int))).set 4 (.slice I G g);have h2:Hid (BD b s w _):=(BD.of d6).trans (BD.onlyA K);have d5:=Aa (K.other b3 Q0)
  have h3:=Aa (K.other e2 Q0)
  have h1:=Aa (K.other d7 h9.1);clear K F s0 s1 s2 d2 d3 d4 f2 f3 f4 u d9 d6 b3 e2 d7;generalize((a7.setCell _ _).setCell _ _).setCell _ _=g8 at*
  have F:=BH d5;have a1:=BX d5;have t6:=DM h1
  go_wp2_with fail
  refine(c5 g8 _ d i1).mono ?_;rintro e i0 ⟨c3,Y,z,f9⟩;obtain⟨i5,a8,x,he⟩:=z.form;subst he
  dsimp only
  have g7:=Aa z;have i4:=Aa f9;have i2:=Aa (h2.trans (BD.onlyB c3));have E:=Aa (c3.other h3 Q0)
  clear c3 z f9 F a1 t6;have z0:=BH E;have Z:=BX E;have g0:=Ah E 0;have g1:=Ah E 1
  go_wp2_with fail
  have V:=Ak (Ak E 0 (.string ⟨x⟩)) 1 (Qi (a8:Nat));have i3:=((Ab.refl (j+1) i0).set 0 (.string ⟨x⟩)).set 1 (Qi (a8:Nat));exact BV (M7 (p:=3) (q:=2) rfl _ _ _ ⟨j+1,0,none⟩ _ rfl (JO _ _ _ _ V)) rfl ⟨(i2.setNew (show w.heap.size<=j+1 by omega) 0 (.string ⟨x⟩)).setNew (show w.heap.size<=j+1 by omega) 1 (Qi (a8:Nat)),_,d,Y,g7,i4.reply i3 E Q0 Q0,d8.1,d8.2⟩
def S7:Nat->Nat
 |1=>161
 |2=>162
 |_=>163
def Qr(H:List HE)(r:BF):Prop:=2<=r.st->(H.any λy=>decide (y.b=r.blk))=false
theorem Fe.low{b:List Ai}{r a:BF}{f:List UInt8}{e:Ending}(h:Fe b r f e a)(H:List HE):Qr H a:=by
 rcases h with⟨-,-,rfl⟩|⟨-,-,rfl⟩
 ·exact λh=>absurd h Q5
 ·exact λh=>absurd h (by show ¬ 2<=1;omega)
theorem zrf{a:List Ai}{H:List HE}(h:Kx a H)(b c:Nat):Kx a (G9 b c H):=by
 intro x f;obtain⟨y,g,rfl⟩:=C8.1 f;obtain⟨p,d,e⟩:=h y g;exact⟨p,by rw[UF];exact d,by split<;>exact e⟩
theorem zt5(W:World)(B g m:Nat)(T:ByteArray)(s:Value)(R c:Nat)(k:Value)(o d:Nat)(a:List Ai)(H:List HE)(r:BF)(w:List Value)(A:Dt B g m T s R c k o d a H r w W)(S:B<=W.heap.size)(J:1<=R/\R<=2)(K:c+1<=1099511627776)(u:A7 R c H)(z:Kx a H)(q:Gz T.data.toList a)(f:BA a r)(Q:Qr H r)(E:d<=1099511627776) :
 Qk (S7 r.st) #[GJ g] W λe t=>BD g m W t/\∃v G D n l,Ej a r e l/\Dt B g m T s R G v o D a n l w t/\(G<=c+1/\D<=1099511627776)/\A7 R G n/\Kx a n/\Qr n l:=by
 obtain⟨p,b⟩:=f.at_;obtain⟨L,M,N,O,P,F⟩:=f.bounds q.ix b;have U:=f.st3;have a2:=f.st1;have a0:T.size<=1000000:=by have:=q.size;simpa using this
 obtain⟨V,X,Y⟩:=q.at_ _ _ b;have a1:=q.ix.part _ _ b;obtain h|h|h:r.st=1\/r.st=2\/r.st=3:=Q0
 ·rw[h]
  by_cases C:(H.any λy=>decide (y.b=r.blk))=true
  ·refine(zvp W B g m T s R c k o d a H r w A S J K u F C z q.ix p b L M N O P).mono ?_
   rintro e t ⟨i,v,l,x,j⟩;exact⟨i,v,_,d,_,l,znT f U b x,j,⟨Af _,E⟩,zqu u _,zrf z _ _,x.low _⟩
  ·have C:(H.any λy=>decide (y.b=r.blk))=false:=by simpa using C
   refine(zxf W B g m T s R c k o d a H r w A J K u F C).mono ?_;rintro e t ⟨i,rfl,j⟩;exact⟨BD.onlyB i,k,c,d,H,_,ztX f h,A.rd1 i j,⟨M3 _,E⟩,u,z,λ_=>C⟩
 ·rw[h]
  refine(zvh W B g m T s R c k o d a H r w A p b a0 V X Q0 Q0 Y E).mono ?_
  rintro e t ⟨i,rfl,D,j,I⟩;exact⟨i,k,c,D,H,_,zuo f h b,I,⟨M3 _,j⟩,u,z,λ_=>Q Q0⟩
 ·rw[h]
  refine(zwz W B g m T s R c k o d a H r w A S J K u F (Q Q0) z q.ix p b (f.text3 h p b) L M N O P).mono ?_
  rintro e t ⟨i,v,n,l,x,j,I,Z⟩;exact⟨i,v,_,d,n,l,znT f U b x,j,⟨Af _,E⟩,I,Z,x.low _⟩
theorem zuW(W:World)(a:Nat)(d:1<=a)(f:a<=3):Qk 111 #[Qi (a:Nat)] W λe c=>e=.returned (.func (.func (S7 a)) #[] #[])/\Qb W c:=by
 have b:=Aa (Ay (Ag W.heap.size W) (.cells #[.func (.func 160) #[] #[],.func (.func 161) #[] #[],.func (.func 162) #[] #[],.func (.func 163) #[] #[]] 276));obtain rfl|rfl|rfl:a=1\/a=2\/a=3:=Q0
 all_goals
  unfold S7
  go_enter Tryz.func111,Tryz.ntmps111
  go_wp2_with fail
  go_ret
  exact⟨rfl,b⟩
theorem Xl{r:BF}(h:w.ownsRow n 185 7 x 1 (DH r)):∃g c b,x=Qs g 0 1 c/\n<=g/\Qg w g (DH r++b).toArray 185/\1<=c/\c<=maxLen/\7+b.length=c*7:=by
 rcases h.2 with⟨-,h⟩|⟨g,c,a,d,e,f,i,j,k,l⟩
 ·cases h
 ·have m:a=(DH r++a.toList.drop 7).toArray:=by
   rw[<-l,Nat.one_mul,Er]
  refine⟨g,c,a.toList.drop 7,d,e,m ▸ f,i,j,?_⟩;rw[D9,MX,k];omega
theorem WQ{r:BF}{more:List Value}(h:Qg w m (DH r++more).toArray 185)(d:n<=m)(a:1<=k)(b:k<=maxLen)(c:7+more.length=k*7):w.ownsRow n 185 7 (Qs m 0 1 k) 1 (DH r):=by
 refine⟨rfl,.inr ⟨m,k,_,rfl,d,h,a,b,?_,?_⟩⟩
 ·rw[<-c]
  simp[DH];omega
 ·simp[DH]
theorem zoJ(a:Nat):Enters Tryz.prog (S7 a):=by
 unfold S7;split
 ·exact enters_of Tryz.func161 Q2 rfl
 ·exact enters_of Tryz.func162 Q2 rfl
 ·exact enters_of Tryz.func163 Q2 rfl
structure Ar(w:World)(B:Nat)(iv:Value)(R c:Nat)(hv rv:Value)(dc:Nat)(ps:List Ai)(H:List HE)(r:BF):Prop where
 iv:w.ownsRow B 56 5 iv ps.length (DR 0 ps)
 ix:Bz ps
 hv:w.ownsRow B 271 3 hv H.length (BB H)
 hR:1<=R/\R<=2
 hc:c<=1099511627776
 ok:A7 R c H
 held:Kx ps H
 rv:w.ownsRow B 185 7 rv 1 (DH r)
 rok:Ph ps r
 dec:dc<=1099511627776
 low:Qr H r
theorem Ar.at_{a:List Ai}{H:List HE}{r:BF}(h:Ar w n x m k y z i a H r):Ca w x m k y z i a H r :=
 ⟨Rd.own h.iv,h.ix,Rd.own h.hv,h.hR,h.hc,h.ok,h.held,Rd.own h.rv,h.rok,h.dec⟩
theorem Ar.mono{b:List Ai}{H:List HE}{r:BF}(h:Ar w n x k i y z j b H r)(a:m<=n):Ar w m x k i y z j b H r :=
 ⟨EY h.iv a,h.ix,EY h.hv a,h.hR,h.hc,h.ok,h.held,EY h.rv a,h.rok,h.dec,h.low⟩
theorem Ar.up{b:List Ai}{H:List HE}{r:BF}(h:Ar w n x m k y z i b H r)(a:Qb w v):Ar v n x m k y z i b H r :=
 ⟨Cd h.iv a,h.ix,Cd h.hv a,h.hR,h.hc,h.ok,h.held,Cd h.rv a,h.rok,h.dec,h.low⟩
def QJ(W:World)(p q:Nat)(x k a b c d e f g:Value):World :=
 ((((((((W.setCell ⟨p,0,none⟩ x).setCell ⟨p,1,none⟩ k).setCell ⟨q,0,none⟩ a).setCell ⟨q,1,none⟩ b).setCell ⟨q,2,none⟩ c).setCell ⟨q,3,none⟩ d).setCell ⟨q,4,none⟩ e).setCell ⟨q,5,none⟩ f).setCell ⟨q,6,none⟩ g
theorem Wy(u:n≠m)(a k b c d e f g h:Value){x y z H I J K M N:Value}(p:Qg w n #[x,y] 44)(o:Qg w m #[z,H,I,J,K,M,N] 39) :
 Qg (QJ w n m a k b c d e f g h) n #[a,k] 44/\Qg (QJ w n m a k b c d e f g h) m #[b,c,d,e,f,g,h] 39/\BD n m w (QJ w n m a k b c d e f g h):=by
 have t:=Ak (Ak p 0 a) 1 k;have i:=((Ab.refl n w).set 0 a).set 1 k;have r:=i.other o Q0
 generalize q:(w.setCell ⟨n,0,none⟩ a).setCell ⟨n,1,none⟩ k=l at*
 have j:=(((((((Ab.refl m l).set 0 b).set 1 c).set 2 d).set 3 e).set 4 f).set 5 g).set 6 h;have s:=Ak (Ak (Ak (Ak (Ak (Ak (Ak r 0 b) 1 c) 2 d) 3 e) 4 f) 5 g) 6 h;unfold QJ;rw[q];exact⟨j.other t Q0,s,(BD.onlyA i).trans (BD.onlyB j)⟩
def Tp(W:World)(p q:Nat)(x k a b c d e f g:Value):World:=(QJ W p q x k a b c d e f g).drew
theorem WX(q:n≠m)(a k b c d e f g h:Value){x y z H I J K M N:Value}(p:Qg w n #[x,y] 44)(o:Qg w m #[z,H,I,J,K,M,N] 39) :
 Qg (Tp w n m a k b c d e f g h) n #[a,k] 44/\Qg (Tp w n m a k b c d e f g h) m #[b,c,d,e,f,g,h] 39/\BD n m w (Tp w n m a k b c d e f g h):=by
 obtain⟨i,j,l⟩:=Wy q a k b c d e f g h p o;unfold Tp;generalize QJ w n m a k b c d e f g h=X at*
 exact⟨i,j,l.call (Cq (Ag _ _))⟩
theorem zs4(w:World)(a:List UInt8)(t:Value)(R c:Nat)(o K:Value)(l:Nat)(f:List Ai)(H:List HE)(r:BF)(i:Ca w t R c o K l f H r)(d1:Gz a f)(Q:BA f r)(hn:Qr H r)(hc:c+1<=1099511627776) :
 Qk 51 #[Fl a t R c o K l,Qi 0] w λe d6=>∃d h0 c0 z b8 c1 L P S,e=.returned (.tuple #[.bool d,h0,Fl a c0 R z b8 c1 L,Qi 0])/\Ej f r (.returned (.tuple #[.bool d,h0])) S/\Ar d6 w.heap.size c0 R z b8 c1 L f P S/\z<=c+1/\Qb w d6:=by
 have a0:=Aa (λW h=>zka W a t R c o K l f H r h);have a1:=Aa (λW (h:Ca W t R c o K l f H r)=>zl0 W a t R c o K l f h.iv h.ix H h.hh (by have:=h.ok.room;have:=h.hR;omega) r h.rv)
 have Y:=Aa (λW=>zuW W r.st Q.st1 Q.st3);obtain⟨T,a5⟩:=Qe ((⟨a.toArray⟩:ByteArray):ByteArray);have Z:=Aa (λW h3 n m t o A X ha i0=>zt5 W h3 n m T t R c o A l f H r X ha i0 i.hR hc i.ok i.held (by rw[<-a5];exact d1) Q hn i.dec)
 have h6:=Aa i;have i4:=i.ix;have i1:=i.hR;obtain⟨qr,h8,rfl,-,-⟩:=Rd.isSlice i.rv;unfold Fl GJ at*
 rw[a5] at a0 a1 |-;obtain⟨st,i7,h4,h7,i8,h9,i9⟩:=r
 dsimp only at Y Z
 obtain⟨B,i5⟩:=Qe w.heap.size;obtain⟨W,d3,d2,d5,d4,a3⟩:=Ve w B i5 (.cells #[.string T,t,Qi (R:Nat),Qi (c:Nat),o,.slice qr 1 h8,Qi (l:Nat)] 39) (.cells #[.string ⟨#[]⟩,Qi 0] 44) (.cells #[.string ⟨#[]⟩,.slice none 0 0,Qi 0,Qi 0,.slice none 0 0,.slice none 0 0,Qi 0] 39);have k:=Aa d2;have c9:=Aa d5;have c8:=Aa d4;have c5:=Aa a3;have c7:=Aa d3;have a2:=Aa (i.up a3);clear i d1 Q hn a5 d3 d2 d5 d4 a3 h6
 go_enter Tryz.func51,Tryz.ntmps51
 go_upto_region 1 with(fail)
 rw[c7.out];clear c7;have D:=BH k;have E:=BX k;have F:=Dr k;have G:=D7 k;have I:=DK k;have v:=DJ k;have J:=DM k
 go_wp2_with fail
 refine(a0 W a2).mono ?_;rintro e w1 ⟨rfl,C⟩;have u:=Aa (Al C k);have e4:=Aa (Al C c9);have a9:=Aa (Al C c8);have a6:=Aa (A9 C c5);have d9:=Aa (a2.up C);clear C D E F G I v J a0 a2 k c9 c8 c5;have D:=BH u;have E:=BX u;have F:=Dr u;have G:=D7 u;have I:=DK u;have v:=DJ u;have J:=DM u
 go_wp2_with fail
 refine(a1 w1 d9).mono ?_;rintro e w2 ⟨c0,b8,c1,rfl,b5,b6,f9,U⟩;obtain⟨m,A,X,rfl,i6,b7,g7,g8,g9⟩:=Xl f9;obtain⟨qi,ci,rfl,-,-⟩:=Rd.isSlice (Rd.own b5);obtain⟨qh,ch,rfl,-,-⟩:=Rd.isSlice (Rd.own b6);have b9:=a6.size;have c2:=A9 U a6;have e5:=Aa (Al U e4);have b0:=Aa (Al U a9)
 go_upto_region 5 with(fail)
 obtain⟨n,b3⟩:=Qe w2.heap.size;obtain⟨d0,f3,e8,g⟩:=Lf w2 n b3 (.cells #[.string T,.slice qi f.length ci,Qi (R:Nat),Qi (c:Nat),.slice qh H.length ch,Qs m 0 1 A,Qi (l:Nat)] 39);have V:Hid (Dt w.heap.size n m T (.slice qi f.length ci) R c (.slice qh H.length ch) A l f H ⟨st,i7,h4,h7,i8,h9,i9⟩ X d0):=⟨e8,Al g b7,Cd (EY b5 b9) g,Cd (EY b6 b9) g⟩
 have b4:B+1+1<n/\w.heap.size<=n/\w.heap.size<=m/\n≠m:=by
  have:=Aj b0;have:=c2.size;have:=Aj b7;omega
 have j2:B+1+1<m:=by have:=Aj a9;omega
 have d7:=Aa (A9 g c2);have e6:=Aa (Al g e5);have e3:=Aa (Al g b0);have a8:=Aa (Gc g7 (Gc g8 g9));rw[f3,b3];clear D E F G I v J b7 b5 b6 f9 U g e8 f3 b3 a1 u e4 a9 a6 d9 e5 b0 c2 i6 b9 g7 g8 g9;have v:=DJ V.dk;have r0:=A8 V.rd
 go_wp2_with fail
 refine(Y d0).mono ?_;rintro e w4 ⟨rfl,M⟩;have h1:=Aa (V.up M);have a7:=Aa (A9 M d7);have e7:=Aa (Al M e6);have b1:=Aa (Al M e3);clear M v r0 V d7 e6 e3 Y;have f7:=zoJ st;unfold Enters at f7
 go_wp2_with fail
 clear f7;refine(Z w4 _ n m _ _ A X h1 a7.size).mono ?_;rintro e w5 ⟨N,j0,z,L,P,S,a4,b2,f5,h2,f2,f8⟩;obtain⟨d,c3,c4,he⟩:=a4.form;subst he
 dsimp only
 obtain⟨qv,cv,rfl,-,-⟩:=Rd.isSlice (Rd.own b2.hv);have c6:=Aa a4;have y:=Aa (Gc f5 (Gc h2 (Gc f2 f8)));obtain⟨eb,f6⟩:=Qe w5.heap.size;obtain⟨j1,f4,e9,O⟩:=Lf w5 eb f6 (.cells #[.string ⟨c4⟩,Qi (c3:Nat)] 44);have j:=Aa (b2.up O);have h5:=Aa (A9 O (N.bel a7 b4.2.1 b4.2.2.1 (Af _)));have x:=Aa (Al O (N.other e7 Q0 Q0))
 have b:=Aa (Al O (N.other b1 Q0 Q0))
 have d8:=Aa e9;have e2:=Aa f4;have j3:B+1+1<eb:=by have:=Aj (N.other b1 Q0 Q0);omega
 clear N a4 b2 f5 h2 f2 f8 O e9 f4 h1 a7 e7 b1 Z
 go_upto_region 6 with(fail)
 rw[e2.out];clear e2 f6;have e0:=BH d8;have e1:=BX d8;have D:=BH j.dk;have E:=BX j.dk;have F:=Dr j.dk;have G:=D7 j.dk;have I:=DK j.dk;have v:=DJ j.dk;have J:=DM j.dk;have z0:=BH x;have z1:=BX x;have f0:=Ah x 0;have f1:=Ah x 1;have y0:=BH b;have y1:=BX b;have y2:=Dr b;have y3:=D7 b;have y4:=DK b;have y5:=DJ b;have y6:=DM b;have g0:=Ah b 0;have g1:=Ah b 1;have g2:=Ah b 2;have g3:=Ah b 3;have g4:=Ah b 4;have g5:=Ah b 5;have g6:=Ah b 6
 go_region_with (fail)
 all_goals
  clear e0 e1 D E F G I v J z0 z1 f0 f1 y0 y1 y2 y3 y4 y5 y6 g0 g1 g2 g3 g4 g5 g6
  go_wp2_with fail
  obtain⟨i2,i3,g⟩:=WX Q0 (.string ⟨c4⟩) (Qi (c3:Nat)) (.string T) (.slice qi f.length ci) (Qi (R:Nat)) (Qi (z:Nat)) (.slice qv P.length cv) (Qs m 0 1 A) (Qi (L:Nat)) x b
  exact BV (VO (p:=5) (q:=6) (s:=4) (r:=7) rfl _ _ _ ⟨B+1,0,none⟩ ⟨B+1+1,0,none⟩ _ _ rfl rfl (JO _ _ _ _ i2) (O9 _ _ _ _ _ _ _ _ _ i3)) rfl ⟨d,_,_,z,_,_,L,P,S,rfl,c6,
   ⟨N8 j.iv g x b Q5 Q5,i4,N8 j.hv g x b Q5 Q5,i1,BU y.1.1 hc,y.2.1,y.2.2.1,WQ (g.other j.rd Q0 Q0) b4.2.2.1 a8.1 a8.2.1 a8.2.2,c6.ok,y.1.2,y.2.2.2⟩,y.1.1,g.bel h5 Q0 Q0 (Af _)⟩
theorem Dt.out{c f:Nat}{d:List Ai}{H:List HE}{r:BF}(e:Dt k i j t x a b y c f d H r s w)(g:BD n m w v)(o:Qg w n h 44)(p:Qg w m Q 39)(q:j≠n)(u:j≠m)(z:k<=j)(l:1<=c/\c<=maxLen/\7+s.length=c*7)
 (C:Bz d) (A:1<=a/\a<=2) (B:b<=1099511627776) (D:A7 a b H) (F:Kx d H) (E:Ph d r) (dec:f<=1099511627776) (low:Qr H r):Ar v k x a b y (Qs j 0 1 c) f d H r :=
 ⟨N8 e.iv g o p Q5 Q5,C,N8 e.hv g o p Q5 Q5,A,B,D,F,WQ (g.other e.rd q u) z l.1 l.2.1 l.2.2,E,dec,low⟩
theorem zwN(w:World)(a:List UInt8)(t:Value)(R c:Nat)(v z:Value)(k:Nat)(g:List Ai)(H:List HE)(K:Ca w t R c v z k g H DD)(i n:Nat)(ho:i<=100000)(hn:n<=100000) :
 Qk 50 #[Fl a t R c v z k,Qi 0,Qi (i:Nat),Qi (n:Nat)] w λe a5=>∃b6 e0 d9 d7 e1 r',e=.returned (.tuple #[.bool b6,e0,Fl a d9 R c d7 e1 k,Qi 0])/\Ar a5 w.heap.size d9 R c d7 e1 k g H r'/\Qb w a5 /\
  ((b6=true/\r'=DD/\e0=Hz (if(Bi g).length<i+n then 8 else 0) (IY (Bi g) i n))\/(b6=false/\e0=Hz 0 []/\BA g r'/\r'.off=i/\r'.n=n/\r'.st=1)):=by
 have b7:=Aa (λW h=>zka W a t R c v z k g H DD h);have b9:=Aa (λW (h:Ca W t R c v z k g H DD)=>zl0 W a t R c v z k g h.iv h.ix H h.hh (by have:=h.ok.room;have:=h.hR;omega) DD h.rv)
 have e4:Hid (∀W:World,Qk 107 #[Qi (i:Nat),Qi (n:Nat)] W λe a5=>e=.returned (.bool true)/\Qb W a5):=λW=>znx W i n Q0 Q0
 have b8:=Aa (λW (h:Ca W t R c v z k g H DD) hz=>zph W t g h.iv h.ix i n Q0 Q0 hz)
 have c1:=Aa (λW (h:Ca W t R c v z k g H DD) h1 h2=>Zz W t g h.iv h.ix i n h1 Q0 h2)
 have a4:=Aa (λW (h:Ca W t R c v z k g H DD)=>zng W a t R c v z k g h.iv h.ix i n Q0 Q0)
 obtain⟨T,f3⟩:=Qe ((⟨a.toArray⟩:ByteArray):ByteArray);obtain⟨e3,hk⟩:=Qe ((if(Bi g).length<i+n then 8 else 0):Nat)
 rw[show(if(Bi g).length<i+n then(8:Int) else 0)=(e3:Int) by rw[<-hk];split<;>rfl] at a4
 rw[hk];have x:=Aa K;have h4:=K.ix;obtain⟨qr,i2,rfl,-,-⟩:=Rd.isSlice K.rv;obtain⟨rq,ro,i6,i5,h9⟩:=K.rv.cellAt Q5
 subst i6;unfold Fl at*
 rw[f3] at b7 b9 a4 |-;obtain⟨L,i3⟩:=Qe w.heap.size;obtain⟨W,f4,e9,f6,f5,O⟩:=Ve w L i3 (.cells #[.string T,t,Qi (R:Nat),Qi (c:Nat),v,Qs rq ro 1 i2,Qi (k:Nat)] 39) (.cells #[.string ⟨#[]⟩,Qi 0] 44) (.cells #[.string ⟨#[]⟩,.slice none 0 0,Qi 0,Qi 0,.slice none 0 0,.slice none 0 0,Qi 0] 39);have y:=Aa e9;have e8:=Aa f6;have e7:=Aa f5;have e5:=Aa O;have e6:=Aa f4;have c2:=Aa (K.up O);have i9:=K.rv;clear K f3 f4 e9 f6 f5 O hk
 go_enter Tryz.func50,Tryz.ntmps50
 go_upto_region 1 with(fail)
 rw[e6.out];clear e6;have D:=BH y.out;have u:=BX y.out;have E:=Dr y.out;have F:=D7 y.out;have G:=DK y.out;have I:=DJ y.out;have J:=DM y.out
 go_wp2_with fail
 refine(b7.out W c2.out).mono ?_;rintro e w1 ⟨rfl,P⟩;have A:=Aa (Al P y.out);have g2:=Aa (Al P e8.out);have g1:=Aa (Al P e7.out);have c4:=Aa (A9 P e5.out);have f8:=Aa (c2.out.up P);have c0:Qc w1 rq ro (Qi 0):=(c4.out.cell (p:=⟨rq,ro,none⟩) i5).trans (h9 0 _ rfl);clear P D u E F G I J b7 c2 y e8 e7 e5 h9;have D:=BH A.out;have u:=BX A.out;have E:=Dr A.out;have F:=D7 A.out;have G:=DK A.out;have I:=DJ A.out;have J:=DM A.out
 go_wp2_with fail
 refine(e4.out w1).mono ?_;rintro e w2 ⟨rfl,Q⟩;have B:=Aa (Al Q A.out);have g7:=Aa (Al Q g2.out);have c8:=Aa (Al Q g1.out);have c5:=Aa (A9 Q c4.out);have c7:=Aa (f8.out.up Q);clear Q D u E F G I J c0 A g2 g1 c4 f8 e4;have D:=BH B.out;have u:=BX B.out;have E:=Dr B.out;have F:=D7 B.out;have G:=DK B.out;have I:=DJ B.out;have J:=DM B.out
 go_wp2_with fail
 refine(b9.out w2 c7.out).mono ?_;rintro e w3 ⟨d9,d7,e1,rfl,d4,d5,h5,S⟩;obtain⟨C,cr,i7,rfl,i4,d6,h6,h7,h8⟩:=Xl h5;obtain⟨qi,ci,rfl,-,-⟩:=Rd.isSlice (Rd.own d4);obtain⟨qh,ch,rfl,-,-⟩:=Rd.isSlice (Rd.own d5);have d8:=c5.out.size;have e2:=A9 S c5.out;have f7:=Aa (Al S B.out);have g8:=Aa (Al S g7.out);have c9:=Aa (Al S c8.out);have f9:=Aa (c7.out.up S)
 go_upto_region 9 with(fail)
 obtain⟨V,d2⟩:=Qe w3.heap.size;obtain⟨c3,h3,h0,l⟩:=Lf w3 V d2 (.cells #[.string T,.slice qi g.length ci,Qi (R:Nat),Qi (c:Nat),.slice qh H.length ch,Qs C 0 1 cr,Qi (k:Nat)] 39);have b5:Hid (Dt w.heap.size V C T (.slice qi g.length ci) R c (.slice qh H.length ch) cr k g H DD i7 c3):=⟨h0,Al l d6,Cd (EY d4 d8) l,Cd (EY d5 d8) l⟩
 have d3:L+1+1<V/\w.heap.size<=V/\w.heap.size<=C/\V≠C:=by
  have:=Aj c9.out;have:=e2.size;have:=Aj d6;omega
 have j0:L+1+1<C:=by have:=Aj c8.out;omega
 have a6:=Aa (A9 l e2);have a8:=Aa (Al l f7.out);have b1:=Aa (Al l g8.out);have a9:=Aa (Al l c9.out);have a1:=Aa (f9.out.up l);have g0:=Aa (Gc h6 (Gc h7 h8));rw[h3,d2];clear D u E F G I J d6 d4 d5 h5 S l h0 h3 d2 b9 B g7 c8 c5 c7 f7 g8 c9 f9 e2 i4 d8 h6 h7 h8;have u:=BX a8.out
 by_cases hz:n=0\/(Bi g).length<=i
 ·have i1:=Aa hz
  go_wp2_with fail
  refine(b8.out c3 a1.out hz).mono ?_;rintro e w5 ⟨rfl,o⟩;have d:=Aa (b5.out.up o);have N:=Aa (Al o a8.out);have b2:=Aa (Al o b1.out);have b0:=Aa (Al o a9.out);have a7:=Aa (A9 o a6.out);have i0:=Aa (a1.out.up o);clear o hz u b5 a8 b1 a9 a6 a1 b8 c1
  go_upto_region 11 with(fail)
  have D:=BH N.out;have u:=BX N.out;have E:=Dr N.out;have F:=D7 N.out;have G:=DK N.out;have I:=DJ N.out;have J:=DM N.out;have x0:=BH d.out.dk;have x1:=BX d.out.dk;have x2:=Dr d.out.dk;have x3:=D7 d.out.dk;have x4:=DK d.out.dk;have M:=DJ d.out.dk;have x6:=DM d.out.dk
  go_region_with
   (first
    |(go_at_call 110
      refine(a4.out w5.drew (i0.out.up (Cq (Ag _ _)))).mono ?_;rintro e w6 ⟨rfl,g9⟩;have a2:Qb w5 w6:=A9 g9 (Cq (Ag _ _));have j:=Aa (d.out.up a2);have m:=Aa (Al a2 b2.out);have b:=Aa (Al a2 b0.out);have c6:=Aa (A9 a2 a7.out);clear g9 a2 D u E F G I J x0 x1 x2 x3 x4 M x6;have x0:=BH j.out.dk;have x1:=BX j.out.dk;have x2:=Dr j.out.dk;have x3:=D7 j.out.dk;have x4:=DK j.out.dk;have M:=DJ j.out.dk;have x6:=DM j.out.dk;have z0:=BH m.out;have z1:=BX m.out;have f0:=Ah m.out 0;have f1:=Ah m.out 1;have y0:=BH b.out;have y1:=BX b.out;have y2:=Dr b.out;have y3:=D7 b.out;have y4:=DK b.out;have y5:=DJ b.out;have y6:=DM b.out;have X:=Ah b.out 0;have Y:=Ah b.out 1;have Z:=Ah b.out 2;have g3:=Ah b.out 3;have g4:=Ah b.out 4;have g5:=Ah b.out 5;have g6:=Ah b.out 6)
    |fail)
  all_goals
   clear x0 x1 x2 x3 x4 M x6 z0 z1 f0 f1 y0 y1 y2 y3 y4 y5 y6 X Y Z g3 g4 g5 g6
   go_wp2_with fail
   obtain⟨d0,d1,l⟩:=Wy Q0 (.string ⟨#[]⟩) (Qi (e3:Nat)) (.string T) (.slice qi g.length ci) (Qi (R:Nat)) (Qi (c:Nat)) (.slice qh H.length ch) (Qs C 0 1 cr) (Qi (k:Nat)) m.out b.out
   exact BV (VO (p:=9) (q:=10) (s:=8) (r:=11) rfl _ _ _ ⟨L+1,0,none⟩ ⟨L+1+1,0,none⟩ _ _ rfl rfl (JO _ _ _ _ d0) (O9 _ _ _ _ _ _ _ _ _ d1)) rfl ⟨true,_,_,_,_,DD,rfl,
    j.out.out l m.out b.out Q0 Q0 d3.2.2.1 g0.out h4 x.out.hR x.out.hc x.out.ok x.out.held (.inl rfl) x.out.dec (λh=>absurd h Q5),l.bel c6.out Q0 Q0 (Af _),.inl ⟨rfl,rfl,by rw[ztz i1.out.symm];rfl⟩⟩
 ·have b3:1<=n/\i<(Bi g).length:=Q0
  go_wp2_with fail
  refine(c1.out c3 a1.out b3.1 b3.2).mono ?_;rintro e w5 ⟨f,a3,rfl,hf,hl,o⟩;have d:=Aa (b5.out.up o);have b2:=Aa (Al o b1.out);have b0:=Aa (Al o a9.out);have a7:=Aa (A9 o a6.out);have U:=Aa (Gc hf hl);have b4:decide ((f:Int)<0)=false:=AV Q0
  clear o hf hl u b5 a8 b1 a9 a6 a1 b8 c1 a4
  go_upto_region 12 with(fail)
  have M:=DJ d.out.dk;have r0:=A8 d.out.rd;have r1:=AA d.out.rd;have r2:=Bk d.out.rd;have r3:=CY d.out.rd;have r4:=De d.out.rd;have r5:=Df d.out.rd;have r6:=ES d.out.rd;have X:=Ah d.out.rd 0;have Y:=Ah d.out.rd 1;have Z:=Ah d.out.rd 2;have g3:=Ah d.out.rd 3;have g4:=Ah d.out.rd 4;have g5:=Ah d.out.rd 5;have g6:=Ah d.out.rd 6
  go_upto_region 13 with(fail)
  have a0:=(((((((Ab.refl C w5).set 0 (Qi 1)).set 1 (Qi (i:Nat))).set 2 (Qi (n:Nat))).set 3 (Qi (f:Nat))).set 4 (Qi (a3:Nat))).set 5 (.string ⟨#[]⟩)).set 6 (.string ⟨#[]⟩);have f2:=Ak (Ak (Ak (Ak (Ak (Ak (Ak d.out.rd 0 (Qi 1)) 1 (Qi (i:Nat))) 2 (Qi (n:Nat))) 3 (Qi (f:Nat))) 4 (Qi (a3:Nat))) 5 (.string ⟨#[]⟩)) 6 (.string ⟨#[]⟩);have j:=Aa (d.out.rd1 (r':=⟨1,i,n,f,a3,[],[]⟩) a0 (f2.trans (by simp[AO,DH])))
  have m:=Aa (a0.other b2.out Q0)
  have b:=Aa (a0.other b0.out Q0)
  have c6:=Aa (a0.bel a7.out d3.2.2.1 (Af _));clear a0 f2 M r0 r1 r2 r3 r4 r5 r6 X Y Z g3 g4 g5 g6 d b2 b0 a7;generalize((((((w5.setCell _ _).setCell _ _).setCell _ _).setCell _ _).setCell _ _).setCell _ _).setCell _ _=i8 at*
  have x0:=BH j.out.dk;have x1:=BX j.out.dk;have x2:=Dr j.out.dk;have x3:=D7 j.out.dk;have x4:=DK j.out.dk;have M:=DJ j.out.dk;have x6:=DM j.out.dk;have z0:=BH m.out;have z1:=BX m.out;have f0:=Ah m.out 0;have f1:=Ah m.out 1;have y0:=BH b.out;have y1:=BX b.out;have y2:=Dr b.out;have y3:=D7 b.out;have y4:=DK b.out;have y5:=DJ b.out;have y6:=DM b.out;have X:=Ah b.out 0;have Y:=Ah b.out 1;have Z:=Ah b.out 2;have g3:=Ah b.out 3;have g4:=Ah b.out 4;have g5:=Ah b.out 5;have g6:=Ah b.out 6
  go_region_with (fail)
  all_goals
   clear x0 x1 x2 x3 x4 M x6 z0 z1 f0 f1 y0 y1 y2 y3 y4 y5 y6 X Y Z g3 g4 g5 g6
   go_wp2_with fail
   have O:BA g ⟨1,i,n,f,a3,[],[]⟩:=⟨Af _,by show 1<=3;omega,b3.2,b3.1,by show n<=_;omega,⟨f,U.out.1,Af _⟩,Jz.le U.out.1 U.out.2 Q0,U.out.2,(zvZ U.out.1.2.1).symm,λ_=>rfl,λe=>by cases e⟩
   obtain⟨d0,d1,l⟩:=WX Q0 (.string ⟨#[]⟩) (Qi 0) (.string T) (.slice qi g.length ci) (Qi (R:Nat)) (Qi (c:Nat)) (.slice qh H.length ch) (Qs C 0 1 cr) (Qi (k:Nat)) m.out b.out
   exact BV (VO (p:=9) (q:=10) (s:=8) (r:=11) rfl _ _ _ ⟨L+1,0,none⟩ ⟨L+1+1,0,none⟩ _ _ rfl rfl (JO _ _ _ _ d0) (O9 _ _ _ _ _ _ _ _ _ d1)) rfl ⟨false,_,_,_,_,_,rfl,
    j.out.out l m.out b.out Q0 Q0 d3.2.2.1 g0.out h4 x.out.hR x.out.hc x.out.ok x.out.held (.inr O) x.out.dec (λh=>absurd h (by show ¬ 2<=1;omega)),l.bel c6.out Q0 Q0 (Af _),.inr ⟨rfl,rfl,O,rfl,rfl,rfl⟩⟩
def UW(w:World)(g o:Nat):Nat:=match w.cell? ⟨g,o,none⟩ with
 |some (.int _ z)=>z.toNat
 |_=>0
def QM(w:World)(b:Nat):Nat:=match w.cell? ⟨b,5,none⟩ with
 |some (.slice (some a) _ _)=>3*(UW w a.block 4-UW w a.block 3)+(4-UW w a.block 0)
 |_=>0
def muV(v:Value)(w:World)(b:Nat):Nat:=match v with
 | .bool true=>0
 |_=>1+QM w b
theorem zyK{H I J K:Value}{r:BF}(f:Qg w n #[y,z,H,I,J,x,K] 39)(h:w.ownsRow m 185 7 x 1 (DH r)):QM w n=II r:=by
 obtain⟨g,c,i,rfl,-,a,-⟩:=Xl h;have b:=A8 a;have d:=CY a;have e:=De a;unfold QM II;rw[DJ f];simp[UW,b,d,e]
theorem Ar.two{f:List Ai}{H:List HE}{r:BF}(b:Ar w k x i j y z a f H r)(c:BD n m w v)(d:Qg w n h 44)(e:Qg w m Q 39):Ar v k x i j y z a f H r :=
 ⟨N8 b.iv c d e Q5 Q5,b.ix,N8 b.hv c d e Q5 Q5,b.hR,b.hc,b.ok,b.held,N8 b.rv c d e Q5 Q5,b.rok,b.dec,b.low⟩
def KA(a:List Ai)(b n:Nat)(d:Bool)(x:ByteArray)(k:Nat)(r:BF):Prop :=
 (d=true/\r=DD/\Value.agg #[.string x,Qi (k:Nat)]=Hz (if(Bi a).length<b+n then 8 else 0) (IY (Bi a) b n))\/(d=false/\BA a r/\r.off=b/\r.n=n)
theorem KA.next{a:List Ai}{r c:BF}{d:Bool}(i:r.off=n)(g:r.n=m)(h:Ej a r (.returned (.tuple #[.bool d,x])) c):∃(f:ByteArray)(k:Nat),x=.agg #[.string f,Qi (k:Nat)]/\KA a n m d f k c/\(d=false->II c < II r):=by
 rcases h with⟨h,rfl⟩|⟨h,j,l,o,p⟩
 ·unfold XJ at h
  injection h with h
  injection h with h
  have b:d=true/\x=Hz (if(Bi a).length<r.off+r.n then 8 else 0) (IY (Bi a) r.off r.n):=by simpa using h
  obtain⟨rfl,rfl⟩:=b;rw[i,g];exact⟨_,_,rfl,.inl ⟨rfl,rfl,rfl⟩,λe=>by cases e⟩
 ·unfold PN at h
  injection h with h
  injection h with h
  have b:d=false/\x=Hz 0 []:=by simpa using h
  obtain⟨rfl,rfl⟩:=b;exact⟨_,_,rfl,.inr ⟨rfl,j,l.trans i,o.trans g⟩,λ_=>p⟩
theorem zza{a:List Ai}{r:BF}(h:BA a r):1<=II r:=by
 have:=h.st3;unfold II;omega
theorem zAQ{a:List Ai}{r:BF}(h:BA a r)(b:r.st=1):II r<=3*a.length:=by
 have:=h.last.1;unfold II;omega
theorem zpD(w:World)(a:List UInt8)(P:Value)(R c:Nat)(O Q:Value)(v:Nat)(f:List Ai)(H:List HE)(i:Ca w P R c O Q v f H DD)(b8:Gz a f)(y n:Nat)(ho:y<=100000)(hn:n<=100000)(hc:c+3*f.length<=1099511627776) :
 Qk 15 #[Fl a P R c O Q v,Qi 0,Qi (y:Nat),Qi (n:Nat)] w λe c8=>∃b0 h a9 b1 t m,e=.returned (.tuple #[Hz (if(Bi f).length<y+n then 8 else 0) (IY (Bi f) y n),Fl a b0 R h a9 b1 t,Qi 0])/\Ar c8 w.heap.size b0 R h a9 b1 t f m DD/\h<=c+3*f.length/\Qb w c8:=by
 have a2:=Aa (λW h6=>zwN W a P R c O Q v f H h6 y n ho hn);have b3:=Aa (λW P c O Q v H r i hb hn hc=>zs4 W a P R c O Q v f H r i b8 hb hn hc);obtain⟨T,c4⟩:=Qe ((⟨a.toArray⟩:ByteArray):ByteArray);obtain⟨M,a4⟩:=Qe (c+3*f.length);rw[a4] at hc |-;have h7:=Aa a4;obtain⟨kk,a7⟩:=Qe ((if(Bi f).length<y+n then 8 else 0):Nat)
 rw[a7];have i0:=Aa a7;obtain⟨s,i8,rfl,-,-⟩:=Rd.isSlice i.rv;obtain⟨j3,i7,rfl,-,-⟩:=Rd.isSlice i.iv;obtain⟨j2,i6,rfl,-,-⟩:=Rd.isSlice i.hh;unfold Fl at*
 rw[c4] at a2 b3 |-;obtain⟨J,j0⟩:=Qe w.heap.size;obtain⟨W,c5,b9,c7,c6,a3⟩:=Ve w J j0 (.cells #[.string T,.slice j3 f.length i7,Qi (R:Nat),Qi (c:Nat),.slice j2 H.length i6,.slice s 1 i8,Qi (v:Nat)] 39) (.cells #[.string ⟨#[]⟩,Qi 0] 44) (.cells #[.string ⟨#[]⟩,.slice none 0 0,Qi 0,Qi 0,.slice none 0 0,.slice none 0 0,Qi 0] 39);have u:=Aa b9;have l:=Aa c7;have b:=Aa c6;have z:=Aa a3;have b7:=Aa c5;have b5:=Aa (i.up a3);clear i b8 c4 a4 a7 c5 b9 c7 c6 a3
 go_enter Tryz.func15,Tryz.ntmps15
 go_upto_region 1 with(fail)
 rw[b7.out];clear b7;have d0:=BH u;have d1:=BX u;have d2:=Dr u;have d3:=D7 u;have d4:=DK u;have I:=DJ u;have d6:=DM u
 go_wp2_with fail
 refine(a2 W b5).mono ?_;rintro e w1 ⟨d,h0,b0,a9,b1,j,rfl,V,U,c2⟩
 obtain⟨x,k,rfl,f4,a1⟩:∃(x:ByteArray)(k:Nat),h0=.agg #[.string x,Qi (k:Nat)]/\KA f y n d x k j/\(d=false->II j<=3*f.length):=by
  rcases c2 with⟨rfl,rfl,rfl⟩|⟨rfl,rfl,h1,h2,h3,h4⟩
  ·exact⟨_,_,rfl,.inl ⟨rfl,rfl,rfl⟩,λe=>by cases e⟩
  ·exact⟨_,_,rfl,.inr ⟨rfl,h1,h2,h3⟩,λ_=>zAQ h1 h4⟩
 clear c2 d0 d1 d2 d3 d4 I d6;obtain⟨s,C,rfl,-,-⟩:=Rd.isSlice (Rd.own V.rv);obtain⟨E,B,rfl,-,-⟩:=Rd.isSlice (Rd.own V.iv);obtain⟨D,A,rfl,-,-⟩:=Rd.isSlice (Rd.own V.hv);have f9:=z.size;obtain⟨G,f7⟩:=Qe w1.heap.size;obtain⟨j5,f6,c0,c1,N⟩:=QL w1 G f7 (.cells #[.string x,Qi (k:Nat)] 44) (.cells #[.string T,.slice E f.length B,Qi (R:Nat),Qi (c:Nat),.slice D H.length A,.slice s 1 C,Qi (v:Nat)] 39);have c9:=Aa (A9 N (A9 U z));have e6:=Aa (Al N (Al U l));have e5:=Aa (Al N (Al U b));have e2:=Aa ((V.mono f9).up N);have d7:=Aa c0;have d8:=Aa c1;have e3:=Aa f4
 have S:Hid (c<=M/\(d=false->c+II j<=M)):=by
  have:=h7.out;exact⟨Q0,λe=>by have:=a1 e;omega⟩
 have e4:=Aa f6;have j6:J+1+1<G:=by have:=Aj (Al U b);omega
 have j8:w.heap.size<=G:=Q0
 clear U N V c0 c1 f4 a1 f6 u l b z b5 a2 f9
 go_wp2_with fail
 rw[e4.out];clear e4 f7
 go_loopw [11,14] (λdv ev wr=>∃(d:Bool)(x:ByteArray)(k:Nat)(E:Option Addr)(B h:Nat)(D:Option Addr)(A:Nat)(s:Option Addr)(C t:Nat)(m:List HE)(j:BF),dv=.bool d/\ev=Qi 0/\Hid (Qg wr G #[.string x,Qi (k:Nat)] 44)/\Hid (Qg wr (G+1) #[.string T,.slice E f.length B,Qi (R:Nat),Qi (h:Nat),.slice D m.length A,.slice s 1 C,Qi (t:Nat)] 39)/\Hid (Qg wr (J+1) #[.string ⟨#[]⟩,Qi 0] 44)/\Hid (Qg wr (J+1+1) #[.string ⟨#[]⟩,.slice none 0 0,Qi 0,Qi 0,.slice none 0 0,.slice none 0 0,Qi 0] 39)/\Hid (Ar wr w.heap.size (.slice E f.length B) R h (.slice D m.length A) (.slice s 1 C) t f m j)/\Hid (KA f y n d x k j)/\Hid (h<=M/\(d=false->h+II j<=M))/\Hid (Qb w wr)) (λdv _ wr=>muV dv wr (G+1))
 case atStart=>exact⟨d,x,k,E,B,c,D,A,s,C,v,H,j,rfl,rfl,d7,d8,e6,e5,e2,e3,S,c9⟩
 case round =>
  clear d7 d8 e6 e5 e2 e3 S c9;obtain⟨d,x,k,E,B,h,D,A,s,C,t,m,j,rfl,rfl,HE,o,l,b,Y,b6,S,z⟩:=hrel;have x0:=BH o;have x1:=BX o;have x2:=Dr o;have x3:=D7 o;have x4:=DK o;have x5:=DJ o;have x6:=DM o;cases d with
  | true =>
    obtain⟨-,rfl,b2⟩|⟨i,-⟩:=b6.out
    rotate_left
    ·cases i
    rw[i0.out] at b2;have i3:=Aa b2;clear b2;have e0:=BH HE;have e1:=BX HE;have z0:=BH l;have z1:=BX l;have f0:=Ah l 0;have f1:=Ah l 1;have y0:=BH b;have y1:=BX b;have y2:=Dr b;have y3:=D7 b;have y4:=DK b;have y5:=DJ b;have y6:=DM b;have g0:=Ah b 0;have g1:=Ah b 1;have g2:=Ah b 2;have g3:=Ah b 3;have g4:=Ah b 4;have g5:=Ah b 5;have g6:=Ah b 6
    go_wp2_with fail
    go_region_with (fail)
    all_goals
     clear x0 x1 x2 x3 x4 x5 x6 e0 e1 z0 z1 f0 f1 y0 y1 y2 y3 y4 y5 y6 g0 g1 g2 g3 g4 g5 g6
     go_wp2_with fail
     obtain⟨a5,a0,F⟩:=WX Q0 (.string x) (Qi (k:Nat)) (.string T) (.slice E f.length B) (Qi (R:Nat)) (Qi (h:Nat)) (.slice D m.length A) (.slice s 1 C) (Qi (t:Nat)) l b
     exact BV (zpF (p:=8) (q:=9) (r:=10) rfl _ _ _ ⟨J+1,0,none⟩ ⟨J+1+1,0,none⟩ _ _ rfl rfl (JO _ _ _ _ a5) (O9 _ _ _ _ _ _ _ _ _ a0)) rfl ⟨_,h,_,_,t,m,by rw[<-i3.out];rfl,Y.two F l b,S.1,F.bel z Q0 Q0 (Af _)⟩
  | false =>
    obtain⟨i,-⟩|⟨-,a6,h5,f8⟩:=b6.out
    ·cases i
    have a1:=S.2 rfl;have j4:=zza a6;have h8:=Aa (b3 wr _ h _ _ t m j Y.at_ a6 Y.low Q0)
    have d5:=Aa (Gc h5 f8);clear a6 h5 f8
    go_wp2_with fail
    refine h8.mono ?_;rintro e w5 ⟨I,h0,j9,Z,j7,k0,f2,b4,r5,rfl,c3,X,i9,L⟩;obtain⟨x9,k9,rfl,f5,a8⟩:=KA.next d5.1 d5.2 c3;obtain⟨g9,e9,rfl,-,-⟩:=Rd.isSlice (Rd.own X.rv);obtain⟨g8,e8,rfl,-,-⟩:=Rd.isSlice (Rd.own X.iv);obtain⟨g7,e7,rfl,-,-⟩:=Rd.isSlice (Rd.own X.hv);have K:=Aa (Al L HE);have g:=Aa (Al L o);have i5:=Aa (Al L l);have i4:=Aa (Al L b);have h9:=Aa (A9 L z);have i1:=Aa (X.mono z.size);have i2:=Aa f5;have d9:Hid ((Z<=M/\(I=false->Z+II r5<=M))/\(I=false->II r5<II j)):=⟨⟨Q0,λe=>by have:=a8 e;omega⟩,a8⟩
    have j1:=Aa (zyK o Y.rv);clear c3 X f5 a8 L x0 x1 x2 x3 x4 x5 x6 a1 j4 i9;have x0:=BH g;have x1:=BX g;have x2:=Dr g;have x3:=D7 g;have x4:=DK g;have x5:=DJ g;have x6:=DM g;have g0:=Ah g 0;have g1:=Ah g 1;have g2:=Ah g 2;have g3:=Ah g 3;have g4:=Ah g 4;have g5:=Ah g 5;have g6:=Ah g 6;have e0:=BH K;have e1:=BX K;have f0:=Ah K 0;have f1:=Ah K 1
    go_wp2_with fail
    clear x0 x1 x2 x3 x4 x5 x6 g0 g1 g2 g3 g4 g5 g6 e0 e1 f0 f1;obtain⟨a5,a0,F⟩:=Wy Q0 (.string x9) (Qi (k9:Nat)) (.string T) (.slice g8 f.length e8) (Qi (R:Nat)) (Qi (Z:Nat)) (.slice g7 b4.length e7) (.slice g9 1 e9) (Qi (f2:Nat)) K g
    have f3:=i1.two F K g
    go_roundw
    case rel=>exact⟨I,x9,k9,g8,e8,Z,g7,e7,g9,e9,f2,b4,r5,rfl,rfl,a5,a0,F.other i5 Q0 Q0,F.other i4 Q0 Q0,f3,i2,d9.1,F.bel h9 Q0 Q0 (Af _)⟩
    case measure =>
     cases I with
     |true=>show 0<1+_;omega
     | false =>
       have h1:=zyK a0 f3.rv;have h2:=d9.2 rfl;have h3:=j1.out
       show 1+QM _ _<1+QM _ _
       rw[h3];refine Nat.add_lt_add_left ?_ 1;exact lt_of_eq_of_lt h1 h2
end Go.Proofs.YtoejfkeofbdalaaGreatDoor
namespace Go.Proofs.YtoejfkeofbdalaaGreatDoor
open Go.RowKit
theorem zrG(a:List Ai)(k:Nat):(Bi (a.take k)).length<=(Bi a).length:=by
 have h:Bi a=Bi (a.take k)++Bi (a.drop k):=by
  unfold Bi;rw[<-Iw,Er]
 rw[h,AJ];omega
theorem We(i:Nat)(S:Av):Bi (S.parts i)=S.ts.flatten:=by
 unfold Bi;rw[List.flatMap_def,Av.parts_t]
theorem Xn(S:Av):Cl [S]=if S.good then S.parts 0 else[]:=by
 unfold Cl;cases h:S.good<;>simp[Ig,Pb,h]
theorem zyW(l:List Nat)(h:∀x∈l,x<4294967296):Gj l<4294967296:=by
 have:∀(l:List Nat)(a:Nat),a<4294967296->(∀x∈l,x<4294967296)->l.foldl NL a<4294967296:=by
  intro l
  induction l with
  |nil=>intro a b _;exact b
  |cons x l d=>intro a b h;exact d _ (zqf a x b (h x Q6)) λy c=>h y (by simp[c])
 exact this l 0 Q0 h
theorem zxc(b:List (List UInt8)):Gj (b.map BG)<4294967296:=zyW _ λx a=>by
 obtain⟨t,-,rfl⟩:=C8.1 a;exact Qu t
theorem zmM(b:Nat)(a:List (List UInt8))(z:Nat)(e:1<=b)(f:b<=9)(i:∀t∈a,ML (40*b) t)(h:z<4294967296)(n:a.length<=1000)(l:(DX a).length<=7900000)(o:a.flatten.length<=100000) :
 ∃c,Cu (Ba (Ij b a z)) [⟨b,a,z,c⟩]:=by
 obtain⟨c,g⟩:=zrT b a z e f i h
 have m:(Cl [⟨b,a,z,c⟩]).length<=a.length/\(Bi (Cl [⟨b,a,z,c⟩])).length<=a.flatten.length:=by
  rw[Xn];split
  ·rw[Av.length_parts,We]
   exact⟨Af _,Af _⟩
  ·exact⟨BI _,BI _⟩
 refine⟨c,⟨?_,Q6,g,?_,?_,Q0,λk=>?_⟩⟩
 ·rw[WV,OB]
  omega
 ·intro S d
  simp at d;subst d
  show a.length<=_
  omega
 ·have j:(DU 0 [⟨b,a,z,c⟩]).length<=a.length+1:=by
   rw[DU];split<;>simp[DU,Av.length_parts]
  omega
 ·have:=zrG (Cl [⟨b,a,z,c⟩]) k
  omega
theorem Y5(a:Nat)(x:List UInt8)(f:1<=a)(h:a<=9)(m:x.length<=250) :
 ∃L,Cu (Ba (I8 a x)) L/\Ig L=true/\Bi (Cl L)=x/\Cl L=Pb 0 L/\∃c,L=[⟨a,Ev (40*a:Nat) x,Gj ((Ev (40*a:Nat) x).map BG),c⟩]:=by
 have e:=zmZ a f x;have l:=RO ((40*a:Nat):Int) Q0 _ x (Af _)
 have d:=zsb ((40*a:Nat):Int) Q0 x
 have j:=Wv (room:=40*a) Q0 _ e
 unfold I8;obtain⟨b,k⟩:=Qe (Ev ((40*a:Nat):Int) x);rw[k] at e l d j |-;obtain⟨c,i⟩:=zmM a b (Gj (b.map BG)) f h e (zxc _) Q0 Q0 (by rw[d];omega)
 have g:Ig [(⟨a,b,Gj (b.map BG),c⟩:Av)]=true:=by simp[Ig,Av.good]
 refine⟨_,i,g,?_,by rw[Cl,if_pos g],c,rfl⟩
 rw[Xn,if_pos (by simp[Av.good]),We]
 exact d
theorem zoA(b:Nat)(x:List UInt8)(v:1<=b)(w:b<=9)(A:x.length<=250) :
 ∃L,Cu (Ba (I8 b x)) L/\Ig L=true/\Bi (Cl L)=x/\Gz (Ba (I8 b x)).data.toList (Cl L):=by
 obtain⟨L,i,o,g,J,d,n⟩:=Y5 b x v w A;refine⟨L,i,o,g,?_⟩;have E:=i.size;have D:=i.at0;have G:=RO ((40*b:Nat):Int) Q0 _ x (Af _)
 generalize(Ba (I8 b x))=T at*
 obtain⟨a,u⟩:=Qe (Ev ((40*b:Nat):Int) x);obtain⟨z,B⟩:=Qe (Gj (a.map BG));rw[u,B] at n;rw[u] at G;subst n;have j:Bv T.data.toList 0 b a z d:=D.1
 have I:Cl [(⟨b,a,z,d⟩:Av)]=(⟨b,a,z,d⟩:Av).parts 0:=by
  rw[Xn,if_pos (by simpa [Ig] using o)]
 rw[I] at g |-
 have m:∀k p,((⟨b,a,z,d⟩:Av).parts 0)[k]?=some p->∃c:k<a.length,p=⟨a[k],EJ 32 a k,EJ 32 a (k+1),40*b⟩:=by
  intro k p f
  have c:k<a.length:=by
   have:=(Cc.1 f).1
   rwa [Av.length_parts] at this
  refine⟨c,?_⟩;simp only[Av.parts,EA,Ji c,Iz,Om] at f;rw[<-f];simp[Av.part,Cx,Az c]
 have t:=j.ok;have C:T.data.toList.length=T.size:=by simp
 have F:Bz ((⟨b,a,z,d⟩:Av).parts 0):=by
  refine⟨by rw[Av.length_parts];show a.length<=_;omega,by rw[g];omega,λk p f=>?_⟩
  obtain⟨c,rfl⟩:=m k p f;obtain⟨l,r⟩:=t a[k] (Et c);have h:=(j.block k c).1;have H:=Ga.2 l
  have K:a[k].length<=x.length:=by
   rw[<-g,We];exact List.Sublist.length_le (List.sublist_flatten_of_mem (Et c))
  refine⟨H,by show a[k].length<=_;omega,by show 40<=40*b;omega,by show 40*b<=360;omega,by show 40*b%40=0;omega,?_,by show EJ 32 a k<=10000000;rw[Nat.mul_zero,DC] at h;omega⟩
  show Q9 _ k<EJ 32 a k
  cases k with
  |zero=>rw[zkj];show 31<32;omega
  | succ k =>
    have s:k<a.length:=Q0
    have:=zp8 32 a k s
    have e:Q9 ((⟨b,a,z,d⟩:Av).parts 0) (k+1)=EJ 32 a k:=by
     have q:((⟨b,a,z,d⟩:Av).parts 0)[k]?=some (((⟨b,a,z,d⟩:Av).parts 0)[k]'(by rw[Av.length_parts];exact s)):=Az _
     obtain⟨_,y⟩:=m k _ q
     show(((⟨b,a,z,d⟩:Av).parts 0)[k]?.map (·.at0)).getD 0=_
     rw[q,y];rfl
    omega
 refine⟨by rw[C];exact E,F,λk p f=>?_⟩
 obtain⟨c,rfl⟩:=m k p f;obtain⟨l,r⟩:=t a[k] (Et c);have h:=j.block k c;rw[Nat.mul_zero,DC] at h;exact⟨l,r,h⟩
theorem zjI(w:World)(m:Int)(f:Qc w 0 0 (Qi m))(s:ByteArray)(k:s.size<=1000000)(a:List ByteArray)(g:Lib.splitB ⟨#[10]⟩ 1 a.length s=a++[⟨#[]⟩])(h:Lib.countB s ⟨#[10]⟩=a.length)(j:a.length<=s.size) :
 Qk 74 #[.string s,.string ⟨#[10]⟩] w λe i=>e=.returned (Qs w.heap.size 0 (a.length+1) (a.length+1))/\i=w.alloc (.cells ((a++[(⟨#[]⟩:ByteArray)]).map Value.string).toArray 9):=by
 have b:=Aa (Tryz.strings_genSplit s ⟨#[10]⟩ 1 (-1) (a.length+1) m w Q0 f Q5 Q5 Q5 Q5 (by rw[if_pos Q5,h];omega))
 rw[show a.length+1-1=a.length from rfl,g] at b
 rw[show Lib.cellsOf (a++[(⟨#[]⟩:ByteArray)]) (a.length+1)=((a++[(⟨#[]⟩:ByteArray)]).map Value.string).toArray by rw[show a.length+1=(a++[(⟨#[]⟩:ByteArray)]).length by simp];exact Lib.cellsOf_full _,show(a++[(⟨#[]⟩:ByteArray)]).length=a.length+1 by simp] at b
 obtain⟨N,c⟩:=Qe a.length;obtain⟨R,d⟩:=Qe (((a++[(⟨#[]⟩:ByteArray)]).map Value.string).toArray);rw[c,d] at b;rw[c,d];clear g h j f c d
 go_enter Tryz.func74,Tryz.ntmps74
 go_wp2_with fail
 refine b.mono ?_;rintro e l ⟨rfl,rfl⟩
 go_wp2_with fail
 go_ret
 exact⟨rfl,rfl⟩
def JV(o:Nat->List UInt8)(k:Nat):List UInt8:=(List.range k).flatMap o
theorem zkg(o:Nat->List UInt8)(k:Nat):JV o (k+1)=JV o k++o k:=by
 unfold JV;rw[Fh,Iw];simp
theorem zmp(o:Nat->List UInt8)(B:Nat)(h:∀i,(o i).length<=B):∀k,(JV o k).length<=B*k
 |0=>by simp[JV]
 | k+1=>by
   have:=zmp o B h k;have:=h k;rw[zkg,AJ,SF];omega
theorem ztY{T e d:TypeId}{n m k:Nat}{s:List Value}{w v:World}{h:Array Value}{z:Nat × Nat}(a:Lib.IsBuilderF T e n m s w)(o:Qh w k (.cells h d z))(i:d≠T)(j:d≠e)(l:Ab k w v):Lib.IsBuilderF T e n m s v :=
 Nw a λf c t q b p=>l.block f (Aj b) λg=>by
  subst g;rw[o] at b;cases b
  rcases p with a|a
  ·exact i a
  ·exact j a
def Ck:Array Value:=#[.string ⟨#[]⟩,.string ⟨#[]⟩,.string ⟨#[]⟩,.slice none 0 0,Qi 0,Qi 0,.slice none 0 0,.slice none 0 0,Qi 0,.bool false]
theorem zvy(w:World)(a1:Int)(hm:Qc w 0 0 (Qi a1))(s:ByteArray)(hs:s.size<=60000)(c:List ByteArray)(c5:Lib.splitB ⟨#[10]⟩ 1 c.length s=c++[⟨#[]⟩])(d9:Lib.countB s ⟨#[10]⟩=c.length)(c4:c.length<=s.size)(hn:c.length<=300)(c7:∀x∈c,x.size<=1000000)
 (j:Nat->Nat->World->Prop) (o:Nat->List UInt8) (L:∀i,(o i).length<=1000000)
 (h0:∀a W,Qb w W->w.heap.size<=a->Qg W a Ck 145->j 0 a W)
 (c3:∀i a W,j i a W->∃y,Qg W a y 145)
 (c8:∀i a a0 y W r,j i a W->Qg W a0 y 134->Lib.OthersKept 5 (some a0) W r->j i a r)
 (C:∀i (x:ByteArray),c[i]?=some x->∀a W,Qb w W->w.heap.size<=a->j i a W->Qk 75 #[Qp a 0,.string ⟨(Lib.trimSuffix x.data.toList [10]).toArray⟩] W λe F=>e=.returned (.string ⟨(o i).toArray⟩)/\j (i+1) a F/\Ab a W F) :
 Qk 25 #[.string s] w λe F=>e=.returned (.tuple #[.string ⟨(JV o c.length).toArray⟩,Qi 0])/\Qb w F:=by
 have v:=Aa (zjI w a1 hm s Q0 c c5 d9 c4)
 have a3:=Aa (λ(x:ByteArray)(f3:x.size<=1000000)(W:World)=>Tryz.strings_TrimSuffix x ⟨#[10]⟩ W Q0)
 have a6:=Aa C;have a8:=Aa L;have a5:=Aa h0;have b1:=Aa c3;have b4:=Aa c8;have b2:=Aa c7;have b3:=Aa (zmp o 1000000 L);clear C L h0 c3 c8 c7 c5 d9 c4 hm;obtain⟨N,t⟩:=Qe c.length;rw[t] at v hn |-;obtain⟨R,A⟩:=Qe (((c++[(⟨#[]⟩:ByteArray)]).map Value.string).toArray);rw[A] at v;obtain⟨z,E⟩:=Qe w.heap.size;have a7:=Aa t;have a9:=Aa A
 have b9:R[N]?=some (.string ⟨#[]⟩):=by
  rw[<-A,<-t];simp
 have I:=Am w (.cells R 9) z E.symm;have b7:=Ay (Ag w.heap.size w) (.cells R 9);have e1:=(Ae I N).trans b9;have b5:=Aa I;have O:=Aa b7;have d1:decide ((s.size:Int)> 60000)=false:=AV Q0
 have d2:decide (60000<(s.size:Int))=false:=AV Q0
 have d3:decide (300<(N:Int))=false:=AV Q0
 have w1:IntKind.i64.wrap ((N:Int)+1-1)=(N:Int):=(AU _ Q0).trans Q0
 have w2:IntKind.i64.wrap (((N+1:Nat):Int)-1)=(N:Int):=(AU _ Q0).trans Q0
 have Y:z<(w.alloc (.cells R 9)).heap.size:=Aj I;obtain⟨a,q⟩:=Qe ((w.alloc (.cells R 9)).heap.size);clear A b9 I b7
 go_enter Tryz.func25,Tryz.ntmps25
 go_wp2_with fail
 refine v.mono ?_;rintro e l ⟨rfl,rfl⟩;rw[E];generalize w.alloc (.cells R 9)=l at*
 clear v
 go_upto_region 8 with(fail)
 obtain⟨b,U⟩:=Qe ((l.alloc (.cells Ck 145)).heap.size);have d8:b=a+1:=by rw[<-U];simp[q]
 have d0:Qh ((l.alloc (.cells Ck 145)).alloc (.cells #[.pointer none,.slice none 0 0] 134)) a (Obj.cells Ck 145 (0,0)):=Bb _ (Am _ _ _ q.symm);have c9:Qh ((l.alloc (.cells Ck 145)).alloc (.cells #[.pointer none,.slice none 0 0] 134)) b (Obj.cells #[.pointer none,.slice none 0 0] 134 (0,0)):=Am _ _ _ U.symm;have d4:Qh ((l.alloc (.cells Ck 145)).alloc (.cells #[.pointer none,.slice none 0 0] 134)) z (Obj.cells R 9 (0,0)):=Bb _ (Bb _ b5);have G:=Ay (Ay O (.cells Ck 145)) (.cells #[.pointer none,.slice none 0 0] 134);have e8:=zwx G;have g:Hid (Lib.IsBuilderF 134 5 b b (Lib.byteCells (JV o 0)) ((l.alloc (.cells Ck 145)).alloc (.cells #[.pointer none,.slice none 0 0] 134))):=.inl ⟨Af _,_,c9,⟨rfl,.inl ⟨rfl,rfl⟩⟩,by simp[Value.ownBlock]⟩
 have X:w.heap.size<=a:=by rw[<-q];exact O.size
 have h:=Aa (a5 a _ G X d0);have f:=Aa d4;have d:=Aa G;have d5:z<a:=by rw[<-q];exact Y
 have m:Hid (w.heap.size<=a/\w.heap.size<=b/\z<a/\z<b):=⟨X,Q0,d5,Q0⟩
 clear d5;unfold Ck at g h f d;rw[<-d8];clear d8;clear U d0 c9 d4 G e8 X b5 O e1 a5;generalize(l.alloc (.cells #[.string ⟨#[]⟩,.string ⟨#[]⟩,.string ⟨#[]⟩,.slice none 0 0,Qi 0,Qi 0,.slice none 0 0,.slice none 0 0,Qi 0,.bool false] 145)).alloc (.cells #[.pointer none,.slice none 0 0] 134)=f4 at*
 go_wp2_with fail
 go_loopw [33] (λM wr=>∃k:Nat,k<=N/\M=Qi k/\Hid (Lib.IsBuilderF 134 5 b b (Lib.byteCells (JV o k)) wr)/\Hid (j k a wr)/\Hid (Qh wr z (Obj.cells R 9 (0,0)))/\Hid (Qb w wr)) (λM _=>N+1-(intOf M).toNat)
 case atStart=>exact⟨0,Q0,rfl,g,h,f,d⟩
 case round =>
  clear g h f d;obtain⟨k,hk,rfl,g,h,f,d⟩:=hrel
  by_cases c6:k<N
  ·have hd:decide ((k:Int)<(N:Int))=true:=Bl Q0
   obtain⟨x,D⟩:∃x,c[k]?=some x:=⟨_,Az (by rw[a7.out];exact c6)⟩
   have ck:Qc wr z k (.string x):=(Ae f k).trans (by
    rw[<-a9.out];have:k<c.length:=by rw[a7.out];exact c6
    rw[JM,EA,FP this,D];rfl)
   have J:=Aa (a3 x (b2 x (Cn D)) wr);have Q:=Aa (a6 k x D a wr d m.1 h);obtain⟨f1,K⟩:=Qe ((⟨(Lib.trimSuffix x.data.toList [10]).toArray⟩:ByteArray):ByteArray);obtain⟨T,B⟩:=Qe ((⟨(o k).toArray⟩:ByteArray):ByteArray);have e3:Hid (T.size=(o k).length):=by show _=_;rw[<-B];rfl
   rw[K] at J;rw[K,B] at Q;have e7:(k:Int)<(N:Int):=Q0
   have e6:(0:Int)<=(k:Int):=Q0
   have e4:=Aa B;clear D K B
   go_wp2_with fail
   refine J.mono ?_;rintro e w3 ⟨rfl,rfl⟩;clear J
   go_wp2_with fail
   refine Q.mono ?_;rintro e w4 ⟨rfl,d7,H⟩;obtain⟨y,c2⟩:=b1 _ _ _ h;have Z:=ztY g c2 Q5 Q5 H
   have c0:=H.other f (Nat.ne_of_lt m.2.2.1);have b8:=H.bel d m.1 (Af _);obtain⟨cb,p⟩:=OU Z
   have e0:(Lib.byteCells (JV o k)).length+T.size<=140737488355328:=by
    have h1:=b3 k;have h2:=a8 k;rw[Mr,e3.out];omega
   have a4:=Aa (Tryz.Builder_WriteString_k b b _ T _ Z e0 (by have:=Aj p;omega))
   have d6:=Aa (λr (e2:Lib.OthersKept 5 (some b) w4 r)=>b4.out _ _ _ _ _ r d7 p e2);have b6:=Aa c0;have b0:=Aa b8;clear Q c2 Z c0 b8 d7 H p e0 g h f d ck w1 w2 d1 d2 d3 E q Y t e7 e6 hd
   go_wp2_with fail
   refine a4.mono ?_;rintro e n ⟨rfl,c1,u,S⟩
   have e9:Hid (Lib.IsBuilderF 134 5 b b (Lib.byteCells (JV o (k+1))) n):=.inr (by
    have h1:Lib.byteCells (JV o k)++Lib.strCells T=Lib.byteCells (JV o (k+1)):=by
     rw[zkg,<-e4.out];simp[Lib.byteCells,Lib.strCells]
    rw[<-h1];exact c1)
   have f0:=Aa (d6 n S);have e5:Hid (Qh n z (Obj.cells R 9 (0,0))):=S z _ b6 (λe=>by cases e;have:=m.2.2.2;omega) (λf2 fz e=>by cases e)
   have P:Hid (Qb w n):=b0.trans (u.mono m.2.1);clear c1 u S d6 b6 b0 a4
   go_wp2_with fail
   go_roundw
   case rel=>exact⟨k+1,Q0,by go_num,e9,f0,e5,P⟩
   case measure=>simp[intOf];omega
  ·obtain rfl:k=N:=Q0
   have V:=g.out;obtain⟨cb,p⟩:=OU V;have a2:=Aa (Tryz.Builder_String_any_k b b (JV o k) wr V (by have:=Aj p;omega))
   clear V p w1 w2 d1 d2 d3 E q Y b4 b1 a6 a3 b3 a8 b2 t a9
   go_wp2_with fail
   refine a2.mono ?_;rintro e n ⟨rfl,-,u,-⟩;have P:Hid (Qb w n):=d.trans (u.mono m.2.1);clear u a2 g d f h
   go_wp2_with fail
   go_ret2
   exact⟨rfl,P⟩
