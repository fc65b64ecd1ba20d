import Derived.Test.YtoejfkeofbdalaaGreatDoorM18
import Derived.Test.YtoejfkeofbdalaaGreatDoorM19
import Derived.Test.YtoejfkeofbdalaaGreatDoorM27
import Derived.Test.YtoejfkeofbdalaaGreatDoorM22
set_option linter.all false
set_option maxRecDepth 100000
set_option maxHeartbeats 8000000
namespace Go.Proofs.YtoejfkeofbdalaaGreatDoor
open Go.RowKit
variable {n:Nat} {v w:World} {x:Value}
theorem Ab.grown{u:World}(h:Ab n w v)(a:v.grownBy u x.ownBlock)(c:∀r,x.ownBlock=some r->w.heap.size<=r):Ab n w u :=
 ⟨a.os.trans h.os,a.tape.trans h.tape,a.output.trans h.output,BU h.size a.size,λj b d=>(a.block j (Iy b h.size) (λe=>by have:=c j e.symm;omega)).trans (h.block j b d)⟩
theorem WN{m k i j:Nat}{y:Value}{s S:List Value}(h:w.ownsRow n k 1 x i s)(f:w.ownsRow m 67 1 y j S)(l:k≠67)(e:w.grownBy v y.ownBlock):v.ownsRow n k 1 x i s:=by
 refine Oa h e ?_;cases hv:x.ownBlock with
 |none=>exact .inl rfl
 | some g =>
   refine .inr λb=>?_;obtain⟨c,d⟩:=Gr h hv;obtain⟨o,a⟩:=Gr f b.symm;rw[d] at a;injection a with a
   injection a with _ a
   exact l a
theorem zwC(w:World)(k:Nat)(s:ByteArray)(c a1 G n:Nat)(C:List Nat)(T:Nat->List Nat)(b:Nat->Nat)(b2:Dj w k s c (.slice none 0 0) (.slice none 0 0) (Qi (n:Nat)))(R:s.size<=1099511627776)
 (g2:2<=n) (hn:n<=258) (h3:B.num (B.slice s.data.toList c 3)=2) (e6:B.num (B.slice s.data.toList (c+3) 15)=G) (h6:0<G) (h8:G<=32767) (h1:c+18<=8*s.size) (f8:LW s.data.toList 2 (c+18) G=.ok (C,b 0)) (e9:∀i,b i<=9223372036854775807)
 (c2:∀i,i<2->NH s.data.toList (b i) n=.ok (T i,b (i+1))/\Code (T i)) :
 Qk 286 #[Qp k 0] w λe a=>e=.returned (.tuple #[])/\Ab k w a/\∃z cv L,Dj a k s (b 2) z cv (Qi (n:Nat))/\Ad a w.heap.size cv (ints C)/\AC a w.heap.size z L/\L.map (·.2)=(List.range 2).map λi=>ints (T i):=by
 have a7:Hid (∀W,Dj W k s c (.slice none 0 0) (.slice none 0 0) (Qi (n:Nat))->Qk 283 #[Qp k 0,Qi 3] W λe a=>e=.returned (Qi 2)/\Dj a k s (c+3) (.slice none 0 0) (.slice none 0 0) (Qi (n:Nat))/\Ab k W a):=λW h=>RD W k s c 3 2 _ _ _ h R Q0 Q0 h3
 have V:Hid (∀W,Dj W k s (c+3) (.slice none 0 0) (.slice none 0 0) (Qi (n:Nat))->Qk 283 #[Qp k 0,Qi 15] W λe a=>e=.returned (Qi (G:Nat))/\Dj a k s (c+18) (.slice none 0 0) (.slice none 0 0) (Qi (n:Nat))/\Ab k W a):=λW h=>RD W k s (c+3) 15 G _ _ _ h R Q0 Q0 e6
 have a9:Hid (∀W,Qk 311 #[.string s,Qi ((c+18:Nat):Int),Qi (G:Nat),Qi 2] W λe a=>∃v,e=.returned (.tuple #[v,Qi (b 0:Nat),Qi 0])/\Ad a W.heap.size v (ints C)/\Qb W a):=λW=>by
  have:=zn9 W s (c+18) G 2 R Q0 Q0 Q0 Q0
  rw[f8] at this;exact this
 have a8:=Aa U3
 have c4:Hid (∀i,i<2->∀W,Qk 312 #[.string s,Qi (b i:Nat),Qi (n:Nat)] W λe a=>∃v,e=.returned (.tuple #[v,Qi (b (i+1):Nat),Qi 0])/\Ad a W.heap.size v (ints (T i))/\Qb W a):=λi Q W=>by
  have:=zuG W s (b i) n R (e9 i) g2 hn;rw[(c2 i Q).1] at this;exact this
 have c3:Hid (∀i,i<2->∀W v,Ac W W.heap.size v (ints (T i))->Qk 31 #[v] W λe a=>e=.returned (Qi 0)/\Qb W a):=λi Q W v h=>by
  have I:=(c2 i Q).2;have:=RI W v (ints (T i)) h (by rw[Bj];have:=I.most;omega)
  rw[I.ok] at this;exact this
 have HE:=Aa b2;have d1:decide (0<(G:Int))=true:=Bl Q0
 have d:=Aa (Aj b2);clear b2 h3 e6 f8 c2 h1 e9;obtain⟨b3,D⟩:=Qe (c+3);obtain⟨Y,f7⟩:=Qe (c+18);rw[D] at a7 V;rw[f7] at V a9;clear D f7
 go_enter Tryz.func286,Tryz.ntmps286
 go_wp2_with fail
 refine(a7.out _ HE.out).mono ?_;rintro e w1 ⟨rfl,l,f⟩;have d9:=Aa l;have d3:=Aa f;clear l f HE a7
 go_wp2_with fail
 refine(a8.out _ _).mono ?_;rintro e K ⟨rfl,rfl⟩
 go_wp2_with fail
 refine(V.out _ d9.out).mono ?_;rintro e A ⟨rfl,l,f⟩;have t:=Aa l;have b4:=Aa (d3.out.trans f);clear l f d9 d3 V
 go_wp2_with fail
 refine(a8.out _ _).mono ?_;rintro e w4 ⟨rfl,rfl⟩;have k0:=(Ae t.out 0).trans rfl;have k1:=(Ae t.out 1).trans rfl;have y:=Aj t.out
 go_upto_region 4 with(fail)
 have M:Hid (∀a:World,Qb A a->Qb A a/\Qc a k 0 (.string s)/\Qc a k 1 (Qi (Y:Nat))):=λa h=>by
  have u:=(h.block k (Aj t.out)).trans t.out;exact⟨h,(Ae u 0).trans rfl,(Ae u 1).trans rfl⟩
 have D:Qb A A:=Ag _ _
 go_region_held3 (λa=>Qb A a/\Qc a k 0 (.string s)/\Qc a k 1 (Qi (Y:Nat)))
  ((refine M.out _ ?_;first|assumption|exact Cq Q3|exact A9 Q3 (Bh Q3)|fail))
  ((go_at_call 311
    refine(a9.out _).mono ?_;rintro e S ⟨cv,rfl,b8,e7⟩;have b7:Qb A S:=A9 e7 (Bh Q3)))
 have e0:Hid (Dj S k s Y (.slice none 0 0) (.slice none 0 0) (Qi (n:Nat))):=(b7.block k y).trans t.out;have d4:=Aa (b4.out.trans (Ab.of b7));obtain⟨q,o,rfl⟩:=b8.shape;have d0:Hid (Ad S w.heap.size (.slice q (ints C).length o) (ints C)):=b8.mono (by have:=b4.out.size;simpa using this)
 clear b8 e7 b7 D M k0 k1 y t b4 a9 a8
 try clear hHeld
 go_wp2_with fail
 refine(Ux S k s Y (b 0) _ _ _ e0.out).mono ?_;rintro e w6 ⟨rfl,l,f⟩;have X:=Aa l;have d5:=Aa (d4.out.trans f);have c6:=Aa (Dq d0.out f d.out);have f3:=Ah X.out 3;have k3:=(Ae X.out 3).trans rfl;clear l e0 d4
 go_upto_region 7 with(fail)
 have f5:Dj (w6.setCell ⟨k,3,none⟩ (.slice q (ints C).length o)) k s (b 0) (.slice none 0 0) (.slice q (ints C).length o) (Qi (n:Nat)):=by
  have:=Ak X.out 3 (.slice q (ints C).length o);unfold Dj;simpa using this
 have e1:=Aa f5;have b9:=(Ab.refl k w6).set 3 (.slice q (ints C).length o);have d6:=Aa (d5.out.trans b9);have c7:=Aa (Dq c6.out b9 d.out);clear f5 b9 X d5 c6 d0 f3 k3;generalize w6.setCell ⟨k,3,none⟩ (.slice q (ints C).length o)=h5 at*
 go_wp2_with fail
 go_loopw [56] (λiv wr=>∃i:Nat,i<=2/\iv=Qi i/\∃(z:Value)(L:List SV),Hid (Dj wr k s (b i) z (.slice q (ints C).length o) (Qi (n:Nat)))/\Hid (Ab k w wr)/\Hid (Ad wr w.heap.size (.slice q (ints C).length o) (ints C))/\Hid (AC wr w.heap.size z L)/\Hid (L.map (·.2)=(List.range i).map λi=>ints (T i))) (λiv _=>3-(intOf iv).toNat)
 case atStart=>exact⟨0,Q0,rfl,_,[],e1,d6,c7,AC.nil _ _,rfl⟩
 case round =>
  clear e1 d6 c7;obtain⟨i,Q,rfl,z,L,m,P,b0,F,b1⟩:=hrel;obtain⟨vq,vc,rfl⟩:=F.out.shape;have Z:=Co List.length b1.out;simp only[Da,Gn] at Z;rw[Z] at m F;have d2:=Aa Z;clear Z
  by_cases f1:i<2
  ·have y:=Aj m.out
   have k0:=(Ae m.out 0).trans rfl;have k1:=(Ae m.out 1).trans rfl;have k4:=(Ae m.out 4).trans rfl
   have M:Hid (∀a:World,Qb wr a->Qb wr a/\Qc a k 0 (.string s)/\Qc a k 1 (Qi (b i:Nat))/\Qc a k 4 (Qi (n:Nat))):=λa h=>by
    have u:=(h.block k (Aj m.out)).trans m.out;exact⟨h,(Ae u 0).trans rfl,(Ae u 1).trans rfl,(Ae u 4).trans rfl⟩
   have D:Qb wr wr:=Ag _ _;have c5:=Aa (c4.out i f1);have g0:=Aa (c3.out i f1);clear c4 c3
   go_wp2_with fail
   go_region_held3 (λa=>Qb wr a/\Qc a k 0 (.string s)/\Qc a k 1 (Qi (b i:Nat))/\Qc a k 4 (Qi (n:Nat)))
    ((refine M.out _ ?_;first|assumption|exact Cq Q3|exact A9 Q3 (Bh Q3)|fail))
    ((go_at_call 312
      refine(c5.out _).mono ?_;rintro e U ⟨vt,rfl,c0,e8⟩;have N:Qb wr U:=A9 e8 (Bh Q3)))
   obtain⟨j,g,rfl⟩:=c0.shape;have g3:=P.out.size;have e5:Hid (Ad U w.heap.size (.slice j (ints (T i)).length g) (ints (T i))):=c0.mono (by simpa using g3)
   have e2:Hid (Dj U k s (b i) (.slice vq i vc) (.slice q (ints C).length o) (Qi (n:Nat))):=(N.block k y).trans m.out;have d7:=Aa (P.out.trans (Ab.of N));have c8:=Aa (Dq b0.out (Ab.of (k:=k) N) d.out);have e3:=Aa (F.out.only (Ab.of (k:=k) N) d.out);clear c0 e8 N D M k0 k1 k4 y m P b0 F c5
   try clear hHeld
   go_wp2_with fail
   refine(Ux U k s (b i) (b (i+1)) _ _ _ e2.out).mono ?_;rintro e w9 ⟨rfl,l,f⟩;have b5:=Aa l;have d8:=Aa (d7.out.trans f);have c9:=Aa (Dq c8.out f d.out);have e4:=Aa (e3.out.only f d.out);have b6:=Aa (Dq e5.out f d.out);clear l f e2 d7 c8 e3 e5
   go_wp2_with fail
   refine(g0.out _ _ (Ad.is b6.out)).mono ?_;rintro e a2 ⟨rfl,x⟩;have a3:=Aa ((x.block k (Aj b5.out)).trans b5.out);have f6:=Aa (d8.out.trans (Ab.of x));have g4:=Aa (Dq c9.out (Ab.of (k:=k) x) d.out);have a5:=Aa (e4.out.only (Ab.of (k:=k) x) d.out);have g8:=Aa (Dq b6.out (Ab.of (k:=k) x) d.out);clear x b5 d8 c9 e4 b6
   go_wp2_with fail
   refine(UG _).mono ?_;rintro e i1 ⟨rfl,rfl⟩;have k2:=(Ae a3.out 2).trans rfl;have f2:=Ah a3.out 2;have y:=Aj a3.out;have i2:=f6.out.size
   go_wp2_with
    (at_builtin
     refine JC (⟨Tryz.underlying113,X0,rfl,Q5⟩:Dh 113 67 (.slice none 0 0) 1 24) Q7 _ _ Q7 w.heap.size _ i (L.map (·.1)) Q7 (by have:=a5.out.own.alloc (.cells #[.slice j (ints (T i)).length g] 67);rw[d2.out] at this;exact this) (a2.heap.size+1) 1 _ [.slice j (ints (T i)).length g] Q7 (Rd.mono (GX (Am _ _ _ rfl) rfl Q7 (by simp[maxLen])) Q6) (by intro h4 I;simp at I;subst I;rfl) Q0 Q0 Q4 ?_
     intro J H K f9 f0 h0;have E:(a2.alloc (.cells #[.slice j (ints (T i)).length g] 67)).grownBy K (Value.slice vq i vc).ownBlock:=f0;have c1:∀a6,(Value.slice vq i vc).ownBlock=some a6->w.heap.size<=a6:=λa6 e=>Dm a5.out.own e;have f4:=f6.out.trans (Ab.of (Ay (Ag a2.heap.size a2) (.cells #[.slice j (ints (T i)).length g] 67)));have g7:=Aa (f4.grown E c1);have a0:=a5.out.own.alloc (.cells #[.slice j (ints (T i)).length g] 67);have g5:=Aa (WN (g4.out.alloc (.cells #[.slice j (ints (T i)).length g] 67)) a0 Q5 E)
     have g9:=Aa (WN (g8.out.alloc (.cells #[.slice j (ints (T i)).length g] 67)) a0 Q5 E)
     have g6:Hid (∀p∈L,Ad K w.heap.size p.1 p.2):=λp r=>WN ((a5.out.has p r).alloc (.cells #[.slice j (ints (T i)).length g] 67)) a0 Q5 E
     have a4:=Aa ((E.block k Q4 (λe=>by have:=c1 k e.symm;have:=d.out;omega)).trans (Bb (.cells #[.slice j (ints (T i)).length g] 67) a3.out))
     have h9:=(Ae a4.out 2).trans rfl;have h7:=Ah a4.out 2;have i0:=Aj a4.out;have g1:=Aa f9;clear f9 f0 E h0 c1 f4 a0)
   have h2:Dj (K.setCell ⟨k,2,none⟩ (.slice J (i+1) H)) k s (b (i+1)) (.slice J (i+1) H) (.slice q (ints C).length o) (Qi (n:Nat)):=by
    have:=Ak a4.out 2 (.slice J (i+1) H);unfold Dj;simpa using this
   have O:=(Ab.refl k K).set 2 (.slice J (i+1) H)
   go_roundw
   case rel =>
    refine⟨i+1,Q0,by go_num,.slice J (i+1) H,L++[(.slice j (ints (T i)).length g,ints (T i))],Aa h2,Aa (g7.out.trans O),Aa (Dq g5.out O d.out),Aa ⟨?_,λp r=>?_⟩,Aa ?_⟩
    ·have:=Dq g1.out O d.out
     rw[D3,AJ,d2.out];exact this
    ·rcases FZ.1 r with r|r
     ·exact Dq (g6.out p r) O d.out
     ·obtain rfl:p=(.slice j (ints (T i)).length g,ints (T i)):=by simpa using r
      exact Dq g9.out O d.out
    ·rw[D3,b1.out,Fh,D3];rfl
   case measure=>simp[intOf];omega
  ·obtain rfl:i=2:=Q0
   go_wp2_with fail
   exact Fu (Dw rfl _ _ _) rfl ⟨rfl,P.out,_,_,L,m.out,b0.out,F.out,b1.out⟩
theorem UQ(s:ByteArray)(a n v:Nat)(W:World)(g:s.size<=1099511627776)(f:n<=64)(h:a+n<=8*s.size)(b:B.num (B.slice s.data.toList a n)=v) :
 Qk 231 #[.string s,Qi (a:Nat),Qi (n:Nat)] W λe c=>e=.returned (.tuple #[.int .u64 (v:Nat),Qi 0])/\W=c:=by
 have d:s.data.toList.length=s.size:=by simp
 have:=NA s a n W Q0
 rw[Sg _ a n Q0 Q0,Si _ a n Q0 Q0,b] at this
 exact this
theorem zjX(s p:ByteArray)(w:World)(h:p.size<=s.size)(a:s.extract 0 p.size=p) :
 Qk 292 #[.string s,.string p] w λe b=>e=.returned (.bool true)/\w=b:=by
 have c:decide ((p.size:Int)<=(s.size:Int))=true:=Bl Q0
 go_enter Tryz.func292,Tryz.ntmps292
 go_wp2_with fail
 go_ret
 exact⟨by first|rfl|simp[a],rfl⟩
theorem zle(s p:ByteArray)(w:World)(h:p.size<=s.size)(a:s.extract 0 p.size=p) :
 Qk 262 #[.string s,.string p] w λe b=>e=.returned (.bool true)/\w=b:=by
 have C:=Aa (λW=>zjX s p W h a);clear h a
 go_enter Tryz.func262,Tryz.ntmps262
 go_wp2_with fail
 refine(C.out _).mono ?_;rintro e c ⟨rfl,rfl⟩
 go_wp2_with fail
 go_ret
 exact⟨rfl,rfl⟩
theorem zy5(w:World)(s:ByteArray)(i lv:Nat)(hs:s.size<=1099511627776)(hi:i+4<=s.size)(h1:1<=lv)(h9:lv<=9)(hd:∀k,k<4->s.data.toList.getD (i+k) 0=([80,77,107,UInt8.ofNat (48+lv)]:List UInt8).getD k 0) :
 Qk 230 #[.string s,Qi (i:Nat)] w λe w'=>e=.returned (.tuple #[Qi ((40*lv:Nat):Int),Qi 0])/\w=w':=by
 obtain⟨t,ht⟩:=Qe (s.extract i s.size);have htl:t.data.toList=s.data.toList.drop i:=by rw[<-ht];exact Us s i
 have htz:t.size=s.size-i:=by rw[<-ht];simp
 have hg:∀k,k<4->t.data.toList[k]?=some (([80,77,107,UInt8.ofNat (48+lv)]:List UInt8).getD k 0):=by
  intro k hk;rw[htl,Kh,<-hd k hk,Cx,Az Q4]
  rfl
 have h3t:3<t.size:=Q0
 have hp:t.extract 0 3=⟨#[80,77,107]⟩:=by
  rw[RS]
  have:t.data.toList.take 3=[80,77,107]:=by
   apply KF
   intro k
   by_cases hk:k<3
   ·rw[Lp,if_pos hk,hg k Q0]
    rcases(by omega:k=0\/k=1\/k=2) with rfl|rfl|rfl<;>rfl
   ·rw[Lp,if_neg hk,EU Q4]
  rw[this]
 obtain⟨c,hc⟩:=Qe ((t[3]'h3t).toNat)
 have hcl:c=48+lv:=by
  have h4:=hg 3 Q0
  rw[OT t 3 h3t] at h4;have h5:t[3]'h3t=UInt8.ofNat (48+lv):=JN h4;rw[<-hc,h5,Ms];omega
 have CP:Hid (∀W,Qk 262 #[.string t,.string ⟨#[80,77,107]⟩] W λe w'=>e=.returned (.bool true)/\W=w'):=λW=>zle t ⟨#[80,77,107]⟩ W (by show 3<=t.size;omega) hp
 have d0:decide ((t.size:Int)<4)=false:=AV Q0
 have d1:decide ((c:Int)<49)=false:=AV Q0
 have d2:decide (57<(c:Int))=false:=AV Q0
 have e1:IntKind.u8.wrap ((c:Int)-48)=(lv:Int):=by simp[IntKind.wrap,IntKind.signed,IntKind.bits];omega
 have e2:IntKind.i64.wrap (40*(lv:Int))=((40*lv:Nat):Int):=by rw[AU _ Q0];omega
 have e3:IntKind.i64.wrap (lv:Int)=(lv:Int):=AU _ Q0
 have HT:=Aa ht;clear hd htl hg hp hcl ht htz
 go_enter Tryz.func230,Tryz.ntmps230
 go_upto_region 2 with(fail)
 rw[HT.out]
 go_wp2_with fail
 refine(CP.out _).mono ?_;rintro e w1 ⟨rfl,rfl⟩
 go_wp2_with fail
 go_ret2
 exact⟨rfl,rfl⟩
abbrev Fv(w:World)(k:Nat)(s:ByteArray)(b:Nat)(a:Value):Prop:=w.heap[k]?=some (Obj.cells #[.string s,Qi (b:Nat),a] 292 (0,0))
theorem zxD(w:World)(k:Nat)(s:ByteArray)(a z c:Nat)(j:Value)(l:List Nat)(i:Fv w k s a j)(M:s.size<=1099511627776)(Z:(a+80+c)%8=0)(b4:c<8)
 (h:a+80+c<=8*s.size) (u:B.num (B.slice s.data.toList (a+48) 32)=z) (E:B.num (B.slice s.data.toList (a+80) c)=0)
 (N:w.ownsRow (k+1) 53 1 j l.length (Jy l)) (L:∀x∈l,x<4294967296) (hm:l.length<=1000000) :
 Qk 232 #[Qp k 0] w λe n=>e=.returned (Qi (if z=Gj l then 0 else 7))/\Fv n k s (a+80+c) j/\Ab k w n:=by
 have a3:z<4294967296:=by
  rw[<-u];have K:=B.num_lt (B.slice s.data.toList (a+48) 32);rw[B.length_slice] at K;exact K
 have a0:s.data.toList.length=s.size:=by simp
 obtain⟨A,S⟩:=Qe (a+48);obtain⟨b,T⟩:=Qe (a+80);obtain⟨g,U⟩:=Qe (a+80+c);rw[S] at u;rw[T] at E;rw[U] at h Z |-;have V:Hid (∀W,Qk 231 #[.string s,Qi (A:Nat),Qi 32] W λe n=>e=.returned (.tuple #[.int .u64 (z:Nat),Qi 0])/\W=n):=λW=>UQ s A 32 z W M Q0 Q0 u
 have X:Hid (∀W,Qk 231 #[.string s,Qi (b:Nat),Qi (c:Nat)] W λe n=>e=.returned (.tuple #[.int .u64 0,Qi 0])/\W=n):=λW=>UQ s b c 0 W M Q0 Q0 E
 obtain⟨q,a2⟩:=Qe (Gj l);have D:=Aa (λ(W:World)(ho:Ab k w W)=>zuJ W j l (Rd.own (Dq N ho (Kj k))) L hm);rw[a2] at D |-;obtain⟨J,I⟩:=Qe ((if z=q then(0:Int) else 7):Int)
 rw[I];have O:=Aa I;clear I;have F:Qc w k 0 (.string s):=Ae i 0;have G:Qc w k 1 (Qi a):=Ae i 1;have C:w.frozen? ⟨k,1,none⟩=false:=Ah i 1;have x0:k<w.heap.size:=Aj i;obtain⟨r,hr⟩:=Qe (b%8);obtain⟨m,a1⟩:=Qe (8-r);have b0:IntKind.i64.wrap ((a:Int)+48)=(A:Int):=by rw[AU _ Q0];omega
 have b1:IntKind.i64.wrap ((a:Int)+80)=(b:Int):=by rw[AU _ Q0];omega
 have b2:IntKind.i64.wrap ((b:Int)+(c:Int))=(g:Int):=by rw[AU _ Q0];omega
 have b3:IntKind.i64.wrap (8-(r:Int))=(m:Int):=by rw[AU _ Q0];omega
 have a4:(b:Int)%8=(r:Int):=Q0
 have a5:(b:Int).tmod 8=(r:Int):=by rw[KE Q0];omega
 have a6:(m:Int)%8=(c:Int):=Q0
 have a7:(m:Int).tmod 8=(c:Int):=by rw[KE Q0];omega
 have a8:(8-(r:Int))%8=(c:Int):=Q0
 have a9:IntKind.u32.wrap (z:Int)=(z:Int):=by simp[IntKind.wrap,IntKind.signed,IntKind.bits];omega
 have HE:=Aa i;clear i a0 u E N L hr a1 S T U a3
 go_enter Tryz.func232,Tryz.ntmps232
 go_wp2_with fail
 go_quiet ((go_at_call 231;exact N0 (V.out _)))
 go_upto_region 3 with(fail)
 have d:=EW (Ag w.heap.size w) nq
 have Q:Fv ((w.drewN nq).setCell ⟨k,1,none⟩ (Qi (b:Nat))) k s b j:=by
  have:=Ak ((d.block k x0).trans HE.out) 1 (Qi ((b:Nat):Int));unfold Fv;simpa using this
 have o:=Aa Q;have P:=Aa ((Ab.of (k:=k) d).set 1 (Qi ((b:Nat):Int)));clear Q d F G C;generalize(w.drewN nq).setCell ⟨k,1,none⟩ (Qi ((b:Nat):Int))=f at*
 have F:=A8 o.out;have G:=AA o.out;have C:f.frozen? ⟨k,1,none⟩=false:=Ah o.out 1;have x1:k<f.heap.size:=Aj o.out
 go_upto_region 4 with(fail)
 go_quiet ((go_at_call 231;exact N0 (X.out _)))
 go_upto_region 6 with(fail)
 have d:=EW (Ag f.heap.size f) nq
 have R:Fv ((f.drewN nq).setCell ⟨k,1,none⟩ (Qi (g:Nat))) k s g j:=by
  have:=Ak ((d.block k x1).trans o.out) 1 (Qi ((g:Nat):Int));unfold Fv;simpa using this
 have v:=Aa R;have y:=Aa (P.out.trans ((Ab.of (k:=k) d).set 1 (Qi ((g:Nat):Int))));clear R d F G C o P;generalize(f.drewN nq).setCell ⟨k,1,none⟩ (Qi ((g:Nat):Int))=Y at*
 have k2:=Bk v.out;have x2:k<Y.heap.size:=Aj v.out
 by_cases t:z=q
 ·have hb:((z:Int) !=(q:Int))=false:=by subst t;simp
  have p:J=0:=by rw[<-O.out,if_pos t]
  have H:=Aa p;clear t p
  go_wp2_with fail
  refine(D.out _ y.out).mono ?_;rintro e w1 ⟨rfl,hq,rfl⟩
  go_wp2_with fail
  go_ret
  exact⟨by rw[H.out];rfl,v.out,y.out⟩
 ·have hb:((z:Int) !=(q:Int))=true:=by simp;omega
  have p:J=7:=by rw[<-O.out,if_neg t]
  have H:=Aa p;clear t p
  go_wp2_with fail
  refine(D.out _ y.out).mono ?_;rintro e w1 ⟨rfl,hq,rfl⟩
  go_wp2_with fail
  go_ret
  exact⟨by rw[H.out];rfl,v.out,y.out⟩
theorem zqZ(w:World)(k a1:Nat)(s:ByteArray)(n G M:Nat)(tv cv:Value)(L:List SV)(C S:List Nat)(T:Nat->List Nat)(f:Nat->Nat)
 (r:Dj w k s (f 0) tv cv (Qi (n:Nat))) (hs:s.size<=1099511627776) (e3:k<a1) (hb:a1<=w.heap.size)
 (K:Ad w a1 cv (ints C)) (N:AC w a1 tv L) (a3:L.map (·.2)=(List.range 2).map λi=>ints (T i)) (a9:∀c∈C,c<2) (b0:C.length=G) (d7:∀i,i<2->Code (T i))
 (c0:S.length=M) (h9:0<M) (i1:M<=10*G) (h8:10*G<M+10) (i0:M<=100000) (i4:2<=n) (hn:n<=258)
 (f0:∀q,q<M->(S.getD q 0=n-1↔q+1=M)) (d6:∀q,q<M->S.getD q 0<n)
 (hw:∀q,q<M->La (T (C.getD (q / 10) 0)) s.data.toList (f q)= .ok (S.getD q 0,((f (q+1):Nat):Int))) :
 Qk 287 #[Qp k 0] w λe a=>∃sv,e=.returned sv/\Ab k w a/\Dj a k s (f M) tv cv (Qi (n:Nat))/\Ad a w.heap.size sv (ints S):=by
 obtain⟨cq,cc,rfl⟩:=K.shape;obtain⟨tq,D,rfl⟩:=N.shape
 have b1:L.length=2:=by
  have:=Co List.length a3;simpa using this
 rw[Bj,b0] at r K |-;rw[b1] at r N |-
 have b8:Hid (∀q,q<M->∀W u,Ac W W.heap.size u (ints (T (C.getD (q / 10) 0)))->Qk 313 #[u,.string s,Qi (f q:Nat)] W λe a=>e=.returned (.tuple #[Qi (S.getD q 0:Nat),Qi (f (q+1):Nat),Qi 0])/\Qb W a):=λq hq W u hi=>by
  have b3:C.getD (q / 10) 0<2:=by
   have hl:q / 10<C.length:=Q0
   rw[Cx,Az hl];exact a9 _ (Et hl)
  have:=zvt W u (T (C.getD (q / 10) 0)) s (f q:Nat) hi (d7 _ b3) Q0
  rw[hw q hq] at this;exact this
 have f3:=Aa U3;have f5:=Aa a3;have f4:=Aa K;have f6:=Aa N;have HE:=Aa r;have c1:=Aa b0;have f7:=Aa a9;have g0:=Aa f0;have g1:=Aa d6;have J:=Aa c0;have h7:=Aa b1;have a7:=Aa (Aj r);have k3:=(Ae r 3).trans rfl;have x0:=Aj r;clear a3 K N r b0 a9 d7 f0 d6 hw c0 b1
 go_enter Tryz.func287,Tryz.ntmps287
 go_wp2_with fail
 go_loopw [13,2] (λiv B wr=>∃i:Nat,10*i<M/\iv=Qi i/\∃o m,B=.slice o (10*i) m/\Hid (Dj wr k s (f (10*i)) (.slice tq 2 D) (.slice cq G cc) (Qi (n:Nat)))/\Hid (Ab k w wr)/\Hid (Ad wr w.heap.size B (ints (S.take (10*i))))) (λiv _ _=>G+1-(intOf iv).toNat)
 case atStart=>exact⟨0,Q0,rfl,_,_,rfl,HE,Aa (Ab.refl _ _),Aa (Ad.nil _ _)⟩
 case round =>
  clear HE k3 x0;obtain⟨i,hi,rfl,o,m,rfl,b,g,p⟩:=hrel;have e2:i<G:=Q0
  have hd:decide ((i:Int)<(G:Int))=true:=Bl Q0
  obtain⟨c,t⟩:=Qe (C.getD i 0);have H:i<C.length:=by rw[c1.out];exact e2
  have d9:(ints C)[i]?=some (c:Int):=by
   rw[<-t,Cx,Az H];simp[ints,H]
  have b3:c<2:=by
   rw[<-t,Cx,Az H];exact f7.out _ (Et H)
  obtain⟨g3,o3,g7,Z,d8⟩:=(Ad.is (Dq f4.out g.out e3)).at i (by rw[Bj,c1.out];exact e2)
  rw[d9] at d8;have f9:=Aa t;subst g7;clear t H d9
  go_wp2_with fail
  obtain⟨wo,rfl⟩:∃wo:World,wo=wr:=⟨_,rfl⟩
  go_loopw [18,2] (λjv B wr=>∃j:Nat,j<=10/\10*i+j<M/\jv=Qi j/\∃o m,B=.slice o (10*i+j) m/\Hid (Dj wr k s (f (10*i+j)) (.slice tq 2 D) (Qs g3 o3 G cc) (Qi (n:Nat)))/\Hid (Ab k w wr)/\Hid (Ad wr w.heap.size B (ints (S.take (10*i+j))))) (λjv _ _=>11-(intOf jv).toNat)
  case atStart=>exact⟨0,Q0,hi,rfl,_,_,rfl,b,g,p⟩
  case round =>
   clear b g p d8;obtain⟨j,hj,hq,rfl,o,m,rfl,b,g,p⟩:=hrel
   by_cases i3:j<10
   ·have i2:decide ((j:Int)<10)=true:=Bl Q0
    obtain⟨u,e8⟩:∃u,L[c]?=some (u,ints (T c)):=by
     have d:=Co (λf2=>f2[c]?) f5.out;simp only[EA,Ji b3,Iz] at d;cases l:L[c]? with
     |none=>rw[l] at d;simp at d
     |some x=>rw[l] at d;simp only[Iz,Om] at d;exact⟨x.1,by rw[<-d]⟩
    obtain⟨v,A,h0,g8,Y,a0⟩:=(f6.out.only g.out e3).is.at c _ e8
    dsimp only at Y a0
    obtain⟨qt,ct,h6,-,-⟩:=a0.shape;subst h6;obtain⟨q,b6⟩:=Qe (10*i+j);have g9:q / 10=i:=Q0
    have a5:=b8.out q Q0
    rw[g9,f9.out] at a5;have a4:=Aa a5;obtain⟨x,z⟩:=Qe (S.getD q 0);have i8:x<n:=by rw[<-z];exact g1.out q Q0
    have y:x=n-1↔q+1=M:=by rw[<-z];exact g0.out q Q0
    have g2:=Aa y
    have e7:S.take (q+1)=S.take q++[x]:=by
     rw[Ep (by rw[J.out];omega),<-z,Cx,Az (by rw[J.out];omega)]
     rfl
    have c9:=Aa e7;obtain⟨P,b4⟩:=Qe (f q);obtain⟨pr,b5⟩:=Qe (f (q+1));rw[b6] at b p |-;rw[z,b4,b5] at a4;rw[b4] at b;have c6:=Aa b5;have Q:=Aa b6;subst h0;have kl:=Aj b.out;have k0:=(Ae b.out 0).trans rfl;have k1:=(Ae b.out 1).trans rfl;have k2:=(Ae b.out 2).trans rfl;have a6:=Aa a0;clear e8 a5 z y e7 b4 b5 a0 b6 b8;obtain⟨ll,e4⟩:=Qe ((ints (T c)).length);rw[e4] at Y a6
    have d3:Hid (∀a:World,Qb wr a->Qb wr a/\Qc a k 0 (.string s)/\Qc a k 1 (Qi (P:Nat))/\Qc a k 2 (Qs v A 2 D)/\Qc a v (A+c) (.slice qt ll ct)):=λa h=>by
     have l:=(h.block k (Aj b.out)).trans b.out;exact⟨h,(Ae l 0).trans rfl,(Ae l 1).trans rfl,(Ae l 2).trans rfl,(KG (w:=wr) (h.block v g8)).trans Y⟩
    have g5:Qb wr wr:=Ag _ _;clear e4;have h5:(c:Int)<2:=Q0
    have h4:(0:Int)<=(c:Int):=Q0
    go_wp2_with fail
    go_region_held3 (λa=>Qb wr a/\Qc a k 0 (.string s)/\Qc a k 1 (Qi (P:Nat))/\Qc a k 2 (Qs v A 2 D)/\Qc a v (A+c) (.slice qt ll ct))
     ((refine d3.out _ ?_;first|assumption|exact Cq Q3|exact A9 Q3 (Bh Q3)|fail))
     ((go_at_call 313
       refine(a4.out _ _ (DS a6.out (Bh Q3))).mono ?_
       rintro e w5 ⟨rfl,d4⟩;have V:Qb wr w5:=A9 d4 (Bh Q3)))
    have c7:Hid (Dj w5 k s P (Qs v A 2 D) (Qs g3 o3 G cc) (Qi (n:Nat))):=(V.block k kl).trans b.out;have c3:=Aa (g.out.trans (Ab.of V));have d1:=Aa (Dq p.out (Ab.of (k:=k) V) a7.out);clear d4 V g5 d3 k0 k1 k2 kl b g p a6 Y a4 h5 h4
    try clear hHeld
    go_wp2_with fail
    refine(Ux w5 k s P pr _ _ _ c7.out).mono ?_;rintro e E ⟨rfl,hr,ho⟩;have c8:=Aa hr;have c4:=Aa (c3.out.trans ho);have a8:=Aa (Dq d1.out ho a7.out);clear hr ho c7 c3 d1;obtain⟨X,O⟩:=Qe (S.take q);have b2:(ints X).length=q:=by rw[Bj,<-O,BO,J.out];have:=Q.out;omega
    rw[O] at a8
    have d2:Hid (E.ownsRow w.heap.size 3 1 (.slice o q m) q (C4 (ints X))):=by
     have h:=a8.out;unfold Ad at h;rw[b2] at h;exact h
    have h1:Hid (ints (S.take (q+1))=ints X++[(x:Int)]):=by
     show _=_
     rw[c9.out,O];simp[ints]
    have g4:=Aa b2;have kl:=Aj c8.out;have i9:=c4.out.size;have i5:q<=100000:=by have:=Q.out;omega
    clear O b2 a8 c9
    go_wp2_with
     (at_builtin
      refine JC (⟨Oj,OH,rfl,Q5⟩:Dh 67 3 (Qi 0) 1 8) Q7 _ _ Q7 w.heap.size _ q (C4 (ints X)) Q7 (d2.out.alloc _) (E.heap.size+1) 1 _ [Qi (x:Int)] Q7 (Rd.mono (GX (Am _ _ _ rfl) rfl Q7 (by simp[maxLen])) Q6) (by intro c t;simp at t;subst t;rfl) Q0 Q0 Q4 ?_
      intro q2 c2 w2 f1 e0 h2;have Z:(E.alloc (.cells #[Qi (x:Int)] 3)).grownBy w2 (Value.slice o q m).ownBlock:=e0;have b7:∀a2,(Value.slice o q m).ownBlock=some a2->w.heap.size<=a2:=λa2 e=>Dm d2.out e;have e6:=c4.out.trans (Ab.of (Ay (Ag E.heap.size E) (.cells #[Qi (x:Int)] 3)));have c5:=Aa (e6.grown Z b7);have U:=Aa ((Z.block k Q4 (λe=>by have:=b7 k e.symm;have:=a7.out;omega)).trans (Bb (.cells #[Qi (x:Int)] 3) c8.out))
      have k4:=(Ae U.out 4).trans rfl;have k3:=(Ae U.out 3).trans rfl
      have d0:Hid (Ad w2 w.heap.size (.slice q2 (q+1) c2) (ints (S.take (q+1)))):=by
       show w2.ownsRow _ _ _ _ _ _
       rw[h1.out,AJ,g4.out,V8];exact f1
      obtain⟨n1,e5⟩:=Qe (n-1);obtain⟨b9,d5⟩:=Qe (G-1);have i7:IntKind.i64.wrap ((n:Int)-1)=(n1:Int):=by rw[AU _ Q0];omega
      have i6:IntKind.i64.wrap ((G:Int)-1)=(b9:Int):=by rw[AU _ Q0];omega
      have y:=g2.out;rw[e5] at y;have e9:=Aa y;have f8:=Aa d5;clear f1 e0 Z h2 b7 e6 e5 d5 y)
    ·have F:((x:Int)==(n1:Int))=true:=Q3
     have I:q+1=M:=e9.out.1 (by rw[FQ] at F;omega)
     have R:=Aa I;have g6:((i:Int)==(b9:Int))=true:=by rw[FQ];have:=f8.out;have:=Q.out;omega
     clear I F;rw[g6];refine(f3.out _ _).mono ?_;rintro e w9 ⟨rfl,rfl⟩
     go_wp2_with fail
     go_ret
     refine⟨.slice q2 (q+1) c2,rfl,c5.out,?_,?_⟩
     ·have d:=U.out
      rw[<-c6.out,R.out] at d;exact d
     ·have e1:S.take (q+1)=S:=BR (by rw[J.out,R.out];exact Af _)
      have d:=d0.out;rw[e1] at d;exact d
    ·have F:((x:Int)==(n1:Int))=false:=Q3
     have I:q+1≠M:=λh=>by
      have l:=e9.out.2 h;rw[Ez] at F;omega
     have R:=Aa I;clear I F
     go_roundw
     case rel =>
      have d:=Q.out;have l:=R.out;have h3:10*i+(j+1)=q+1:=Q0
      refine⟨j+1,Q0,Q0,by go_num,q2,c2,by rw[h3],?_⟩
      rw[h3,c6.out];exact⟨U,c5,d0⟩
     case measure=>simp[intOf];omega
   ·obtain rfl:j=10:=Q0
    go_wp2_with fail
    go_roundw
    case rel=>exact⟨i+1,Q0,by go_num,_,_,rfl,b,g,p⟩
    case measure=>simp[intOf];omega
end Go.Proofs.YtoejfkeofbdalaaGreatDoor
namespace Go.Proofs.YtoejfkeofbdalaaGreatDoor
open Go.RowKit Go.Shelf
attribute [local go_sem] Oper.semAt_some
variable {a:List (List UInt8)} {g:Int}
def JH(a:List (List UInt8)):Nat:=(a.map List.length).sum
theorem zki(a:List (List UInt8))(x:List UInt8):JH (a++[x])=JH a+x.length:=by simp[JH]
def QD(b:Int)(a:List (List UInt8)):Prop:=∀rest,H7 (a++rest) b=JH a+H7 rest (b-EK a)
theorem ztd(a:Int):QD a []:=λrest=>by simp[JH,EK]
theorem zsE(h:QD g a)(x:List UInt8)(b:(Ea x.length:Int)<=g-EK a):QD g (a++[x]):=λrest=>by
 rw[BN,Mh,h,H7,if_pos b,zki,WP,Lv,show g-(EK a:Int)-(Ea x.length:Int)=g-((EK a+Ea x.length:Nat):Int) by omega]
theorem zsm(h:QD g a)(x:List UInt8)(b:¬ (Ea x.length:Int)<=g-EK a):∀rest,H7 ((a++[x])++rest) g=JH a+min (min (g-EK a).toNat 3) x.length:=λrest=>by
 rw[BN,Mh,h,H7,if_neg b]
theorem ztL(h:QD g a):H7 a g=JH a:=by
 have:=h [];rw[Eu] at this;rw[this];rfl
theorem zqE:∀a:List (List UInt8),(∀x∈a,x.length<=255)->JH a<=255*a.length
 | [],_=>Af _
 | p::a,h=>by
   have b:=zqE a λx c=>h x (J6 _ c);have d:=h p Jh;unfold JH at b |-;rw[Dz,IL,Bt];omega
theorem zxI(s:ByteArray)(b:Int)(w:World)(hs:s.size<=1000000)(f5:-1000000000000<=b)(f6:b<=1000000000000) :
 Qk 102 #[.string s,Qi b] w λe v=>e=.returned (Qi (Gf s.data.toList b:Nat))/\Qb w v:=by
 have b8:=Aa (λW=>Wn s W);obtain⟨D,e7⟩:∃D:Nat,8<=D:=⟨8,Q0⟩
 have c6:1<=D:=Q0
 refine(Em (n:=D)).1 ?_;refine Lr Tryz.func102 rfl trivial ?_ rfl;simp only[Tryz.ntmps102,F6,Bt,D4,Nat.reduceAdd,Nat.reduceSub,GM,GL,GQ,GN,C6,Di]
 gi_wp2_with fail
 refine⟨trivial,(Em.2 (b8.out _)).mono ?_⟩;rintro e w1 ⟨rfl,rfl⟩
 gi_wp2_with fail
 obtain⟨g,f⟩:=Qe w.heap.size;have I:Qg (((w.alloc (.cells #[Qi b] 3)).alloc (.cells #[Qi 0] 3)).alloc (.cells #[.string s] 9)) g #[Qi b] 3:=Bb _ (Bb _ (Am _ _ _ f.symm));have J:Qg (((w.alloc (.cells #[Qi b] 3)).alloc (.cells #[Qi 0] 3)).alloc (.cells #[.string s] 9)) (g+1) #[Qi 0] 3:=Bb _ (Am _ _ _ (by simp[f]))
 have K:Qg (((w.alloc (.cells #[Qi b] 3)).alloc (.cells #[Qi 0] 3)).alloc (.cells #[.string s] 9)) (g+1+1) #[.string s] 9:=Am _ _ _ (by simp[f])
 have a7:(((w.alloc (.cells #[Qi b] 3)).alloc (.cells #[Qi 0] 3)).alloc (.cells #[.string s] 9)).heap.size=g+3:=by simp[f]
 have H:Below g w (((w.alloc (.cells #[Qi b] 3)).alloc (.cells #[Qi 0] 3)).alloc (.cells #[.string s] 9)):=by
  rw[<-f];exact(((Ag _ w).alloc (Af _) _).alloc Q6 _).alloc Q4 _
 rw[f];generalize(((w.alloc (.cells #[Qi b] 3)).alloc (.cells #[Qi 0] 3)).alloc (.cells #[.string s] 9))=b9 at*
 refine Ug (n:=D) (ib:=g+1+1) c6 (gf:=164) (lb:=#[.pointer (some ⟨g+1+1,0,none⟩)]) rfl VA (encs:=Jf) (λ_=>rfl) LY (λk=>k=g\/k=g+1)
  (Wk (D-1) Q0 (g+1+1) s hs (λk=>k=g\/k=g+1) b9 K (by show ¬ (g+1+1=g\/g+1+1=g+1);omega)) (Ag _ _) Q0
  (λa W=>((Boxed W g 3 (Qi (b-EK a))/\Boxed W (g+1) 3 (Qi (JH a:Nat)))/\(QD b a/\∀x∈a,x.length<=255))/\Below g w W)
  (λc a W=>(Boxed W (g+1) 3 (Qi (H7 a b:Nat))/\(c=.ret/\∀rest,H7 (a++rest) b=H7 a b))/\Below g w W)
  (I1 (I1 (I1 (Ko (boxed_own _ _ (λa:List (List UInt8)=>Qi (b-EK a))) _) (Ko (boxed_own _ _ (λa:List (List UInt8)=>Qi (JH a:Nat))) _)) (ownFrom_pure _ _)) (Nj Q0 Q0))
  (λa e4 b7 ⟨⟨⟨h0,Z⟩,h2⟩,h3⟩=>⟨⟨⟨(Bg _ _ _ _ (by show g≠g+1+1;omega)).trans h0,(Bg _ _ _ _ (by show g+1≠g+1+1;omega)).trans Z⟩,h2⟩,h3.setCell (p:=⟨g+1+1,0,none⟩) (by show g<=g+1+1;omega) b7⟩)
  (λc=>I1 (I1 (Ko (boxed_own _ _ (λa:List (List UInt8)=>Qi (H7 a b:Nat))) _) (ownFrom_pure _ _)) (Nj Q0 Q0))
  ⟨⟨⟨by rw[show b-((EK []:Nat):Int)=b by simp[EK]];exact I,J⟩,ztd b,λx hx=>absurd hx List.not_mem_nil⟩,H⟩
  (λx Y W=>LY x W/\Y = { tmps:=#[.string s,Qi b,undef,.pointer (some ⟨g,0,none⟩),.pointer (some ⟨g+1,0,none⟩),.string ⟨x.toArray⟩,undef,.string s,.func (.func 164) #[] #[.pointer (some ⟨g+1+1,0,none⟩)],.string ⟨x.toArray⟩,undef,undef,undef,undef,undef,undef,undef,undef,undef,undef,undef,undef,undef,undef,undef,undef,undef,undef,undef,undef,undef],defers:=[] })
  (λx Y s W e6 f7 h f4 hr=>h)
  ?assign ?body ?done ?stop
 case assign =>
  intro y a x W e5 hi O d2 c1;simp only[Jf]
  gi_wp2_with fail
  exact c1 _ _ (Pz _ _) (Ao.refl _ _) hi ⟨O,rfl⟩
 case body =>
  rintro y a x Y W ⟨⟨⟨o,d⟩,u,A⟩,j⟩ ⟨O,rfl⟩ d2 e2;have d5:=TJ s.data.toList;have d7:s.data.toList.length=s.size:=by simp
  have b0:=UJ a;have b3:=zqE a A;have d8:(⟨x.toArray⟩:ByteArray).size=x.length:=rfl;have b1:=O.2;have d1:Ea x.length<=5:=by unfold Ea;split<;>omega
  have P:=WP a x;have U:=zki a x;have b6:∀z∈a++[x],z.length<=255:=λz hz=>(FZ.1 hz).elim (A z) λh=>by rw[Li.1 h];exact b1
  have Q:=zsE u x;have i:=zsm u x;obtain⟨a4,a5⟩:=Qe (EK a);obtain⟨l,a6⟩:=Qe (JH a);obtain⟨T,a1⟩:=Qe (Ea x.length);obtain⟨L,F⟩:=Qe x.length
  have b4:Hid (∀C,Qk 113 #[Qi L] C λe v=>e=.returned (Qi T)/\C=v):=λC=>by
   have:=Z5 L C Q0
   rw[<-F,a1,F] at this;exact this
  rw[a1] at Q i P d1;rw[F] at i d8 b1 U;rw[a5] at Q i o b0 P;rw[a6] at i d b3 U;have c3:=Aa P;have e0:=Aa U;have c5:=Aa Q;have c4:=Aa i;have d9:=Aa b6;have c2:=Aa o;have r:=Aa d;have t:=Aa j;have e9:a4<=5000000:=Q0
  have f8:l<=255000000:=Q0
  have c8:=o.cell;have f2:=o.frozen;have f0:=d.cell;have f3:=d.frozen;obtain⟨R,a0⟩:=Qe (b-(a4:Int));rw[a0] at c8;have B:=Aa a0;have e8:-1000005000000<=R/\R<=1000000000000:=Q0
  have f1:1<=D-1-1:=Q0
  clear P U o d j O d5 d7 b0 b3 a5 a6 a1 F e2 I J K H Q i A b6 u a0
  by_cases S:(T:Int)<=R
  ·have e1:decide ((T:Int)<=R)=true:=Bl S
   gi_wp2_with (refine⟨trivial,(CallsIn.inRound y (Em.2 (b4.out _))).mono ?_⟩;rintro e v ⟨rfl,rfl⟩)
   have d3:b-((EK (a++[x]):Nat):Int)=R-(T:Int):=by have Z:=c3.out;have h2:=B.out;omega
   have d4:((JH (a++[x]):Nat):Int)=(l:Int)+(L:Int):=by have Z:=e0.out;omega
   refine⟨((FO W _ _).trans (FO _ _ _)).from _,((Ao.refl _ _).set (q:=⟨g,0,none⟩) (.inl rfl) _).set (q:=⟨g+1,0,none⟩) (.inr rfl) _,⟨⟨?_,?_⟩,c5.out (by rw[B.out];exact S),d9.out⟩,(t.out.setCell (p:=⟨g,0,none⟩) (Af g) _).setCell (p:=⟨g+1,0,none⟩) (by show g<=g+1;omega) _⟩
   ·rw[d3];exact(Bg _ _ _ _ (by show g≠g+1;omega)).trans (Ak c2.out 0 _)
   ·rw[d4];exact Ak ((Bg _ _ _ _ (by show g+1≠g;omega)).trans r.out) 0 _
  ·have e1:decide ((T:Int)<=R)=false:=AV S
   gi_wp2_with (refine⟨trivial,(CallsIn.inRound y (Em.2 (b4.out _))).mono ?_⟩;rintro e v ⟨rfl,rfl⟩)
   all_goals
    have i:=c4.out (by rw[B.out];exact S)
    rw[B.out] at i;have a8:=i [];rw[Eu] at a8;refine⟨(FO W _ _).from _,⟨?_,rfl,λrest=>(i rest).trans a8.symm⟩,t.out.setCell (p:=⟨g+1,0,none⟩) (by show g<=g+1;omega) _⟩
    first
     |(rw[show((H7 (a++[x]) b:Nat):Int)=(l:Int)+(L:Int) by omega];exact Ak r.out 0 _)
     |(rw[show((H7 (a++[x]) b:Nat):Int)=(l:Int)+3 by omega];exact Ak r.out 0 _)
     |(rw[show((H7 (a++[x]) b:Nat):Int)=(l:Int)+R by omega];exact Ak r.out 0 _)
     |(rw[show((H7 (a++[x]) b:Nat):Int)=(l:Int)+0 by omega];exact Ak r.out 0 _)
     |(rw[show((H7 (a++[x]) b:Nat):Int)=(l:Int) by omega];exact Ak r.out 0 _)
 case done =>
  rintro E xs W c0 rfl ⟨⟨⟨o,d⟩,u,A⟩,j⟩ G;obtain⟨N,m⟩:=Qe (JH (Ef s.data.toList));have X:Hid (Gf s.data.toList b=N):=(ztL u).trans m;rw[m] at d;have c9:=d.cell;have d0:=d.frozen;have V:=Aa d;have t:=Aa j;have M:E≠g+1:=Q0
  have a2:w.heap.size<=E:=Q0
  clear I J K a7 H d j o m u A
  gi_wp2_with fail
  have a9:Qh (W.setCell ⟨g+1,0,none⟩ (Qi ((N:Nat):Int))) E (.deferred (some [])):=(Bg _ _ _ _ M).trans G;have d6:Qg (W.setCell ⟨g+1,0,none⟩ (Qi ((N:Nat):Int))) (g+1) #[Qi ((N:Nat):Int)] 3:=Ak V.out 0 _;have c7:=t.out.setCell (p:=⟨g+1,0,none⟩) (by show g<=g+1;omega) (Qi ((N:Nat):Int))
  refine⟨Q6,.inl ⟨_,_,rfl,J9 a9,?_⟩⟩
  have a3:Qg ((W.setCell ⟨g+1,0,none⟩ (Qi ((N:Nat):Int))).putObj E (.deferred none)) (g+1) #[Qi ((N:Nat):Int)] 3:=(GK (λe=>M e.symm)).trans d6;refine⟨_,L7 rfl _ _ _ _ _ rfl (L8 _ _ _ ((Ae a3 0).trans rfl)),by rw[X.out];rfl,?_⟩
  rw[f];refine c7.trans (Kn (w:=w) (EV f.symm) _ E _ _ a2 a9 rfl rfl)
 case stop =>
  rintro E c a W c0 b5 ⟨⟨d,rfl,b2⟩,j⟩ G;obtain⟨N,m⟩:=Qe (H7 a b)
  have X:Hid (Gf s.data.toList b=N):=by
   obtain⟨rest,e3⟩:=b5
   show Gf _ _=N
   unfold Gf;rw[<-e3,b2,m]
  rw[m] at d;have c9:=d.cell;have d0:=d.frozen;have V:=Aa d;have t:=Aa j;have M:E≠g+1:=Q0
  have a2:w.heap.size<=E:=Q0
  clear I J K a7 H d j b2 m b5
  gi_wp2_with fail
  refine⟨Q6,.inl ⟨_,_,rfl,J9 G,?_⟩⟩
  have a3:Qg (W.putObj E (.deferred none)) (g+1) #[Qi ((N:Nat):Int)] 3:=(GK (λe=>M e.symm)).trans V.out;refine⟨_,L7 rfl _ _ _ _ _ rfl (L8 _ _ _ ((Ae a3 0).trans rfl)),by rw[X.out];rfl,?_⟩
  rw[f];refine t.out.trans (Kn (w:=w) (EV f.symm) _ E _ _ a2 G rfl rfl)
end Go.Proofs.YtoejfkeofbdalaaGreatDoor
namespace Go.Proofs.YtoejfkeofbdalaaGreatDoor
open Go.RowKit Go.Shelf
attribute [local go_sem] Oper.semAt_some
theorem zkv(R:Int)(c:5<=R):∀(m k:Nat)(l:List UInt8),l.length<=m->l.length<=k->Im R m l=Im R k l
 | 0,k,l,hm,hk=>by
   have a:l=[]:=Ey Q0
   subst a;cases k with
   |zero=>rfl
   |succ k=>rw[Im,Im,if_pos rfl]
 | m+1,k,l,hm,hk=>by
   by_cases a:l=[]
   ·subst a
    cases k with
    |zero=>rw[Im,Im,if_pos rfl]
    |succ k=>rw[Im,Im,if_pos rfl,if_pos rfl]
   ·have e:0<l.length:=Ga.2 a
    obtain⟨b,rfl⟩:∃b,k=b+1:=⟨k-1,Q0⟩
    rw[Im,Im,if_neg a,if_neg a];have d:=Qj a R c;rw[zkv R c m b (l.drop (Gf l R)) (by rw[D9];omega) (by rw[D9];omega)]
def Ev(R:Int)(l:List UInt8):List (List UInt8):=Im R l.length l
theorem zuR(R:Int):Ev R []=[]:=rfl
theorem zkb(R:Int)(b:5<=R){e:List UInt8}(a:e≠[]):Ev R e=e.take (Gf e R)::Ev R (e.drop (Gf e R)):=by
 have f:0<e.length:=Ga.2 a;obtain⟨k,c⟩:∃k,e.length=k+1:=⟨e.length-1,Q0⟩
 have d:=Qj a R b;unfold Ev;rw[c,Im,if_neg a];congr 1
 exact zkv R b k _ _ (by rw[D9];omega) (Af _)
theorem zsb(R:Int)(a:5<=R)(l:List UInt8):(Ev R l).flatten=l:=zkw R a _ l (Af _)
theorem zx1(R:Int)(a:5<=R)(l:List UInt8):∀p∈Ev R l,p≠[]/\(Gs p:Int)<=R:=zqe R a _ l
theorem RO(R:Int)(b:5<=R):∀(m:Nat)(l:List UInt8),l.length<=m->(Ev R l).length<=l.length
 | 0,l,hm=>by
   have a:l=[]:=Ey Q0
   subst a;exact Af _
 | m+1,l,hm=>by
   by_cases a:l=[]
   ·subst a;exact Af _
   ·have e:0<l.length:=Ga.2 a
    have d:=Qj a R b;have c:=RO R b m (l.drop (Gf l R)) (by rw[D9];omega)
    rw[zkb R b a,Bt];rw[D9] at c;omega
def S8(x:List UInt8)(W:World):Prop:=x.length<=1000000
theorem zyp(s:ByteArray)(a:Int)(w:World) :
 Qk 38 #[.string s,Qi a] w λe b=>e=.returned (.func (.func 101) #[] #[.pointer (some ⟨w.heap.size,0,none⟩),.pointer (some ⟨w.heap.size+1,0,none⟩)])/\(w.alloc (.cells #[.string s] 9)).alloc (.cells #[Qi a] 3)=b:=by
 have Cw:=Cw
 go_enter Tryz.func38,Tryz.ntmps38
 go_wp2
 go_ret
 exact⟨Q6,rfl⟩
theorem zot:Enters Tryz.prog 101:=enters_of Tryz.func101 Q2 rfl
theorem zzb(n:Nat)(hn:3<=n)(y c f:Nat)(s:ByteArray)(hs:s.size<=1000000)(d:Nat)(h1:1<=d)(q:d<=9)(E:Nat->Prop)(J K:List (List UInt8)->World->Prop)(W:World)(Y:Qg W c #[.string s] 9)(Z:Qg W f #[Qi (d:Nat)] 3)
 (a8:¬ E c) (b4:¬ E f) (i:c≠f)
 (M:∀s A C,J s A->Qb A C->J s C) (V:∀s A b7,J s A->J s (A.setCell ⟨c,0,none⟩ b7))
 (r:∀b x j,J b j->b.length<(Ev (40*d:Nat) s.data.toList).length->S8 x j->YieldAt Fence.wide (n-1) Tryz.prog y (Jf x) j λe a=>(e=.returned (.bool true)/\J (b++[x]) a/\Ao E j a/\j.heap.size<=a.heap.size)\/(e=.returned (.bool false)/\K (b++[x]) a))
 (L:J [] W) :
 CallsIn Fence.wide n Tryz.prog 101 #[.func (.yield y) #[] #[],.pointer (some ⟨c,0,none⟩),.pointer (some ⟨f,0,none⟩)] W λe a=>(∃b8,e=.returned b8)/\((∃P,P=Ev (40*d:Nat) s.data.toList/\J P a)\/(∃b,b <+: Ev (40*d:Nat) s.data.toList/\K b a)):=by
 obtain⟨R,N⟩:=Qe (((40*d:Nat):Int):Int);rw[N] at r |-;have X:5<=R:=Q0
 have e3:IntKind.i64.wrap ((d:Int)*40)=R:=by rw[AU _ Q0];omega
 have b9:Hid (∀(t:ByteArray),t.size<=1000000->∀W,Qk 102 #[.string t,Qi R] W λe c3=>e=.returned (Qi (Gf t.data.toList R:Nat))/\Qb W c3):=λt v W=>zxI t R W v Q0 Q0
 have d4:=Aa a8;have d8:=Aa b4;have c0:=Aa M;have c5:=Aa V;have c1:=Aa r;have g:=Aa Y;have h:=Aa Z;have c7:=Aa i;clear a8 b4 M V r Y Z N i;refine Mw Tryz.func101 rfl trivial ?_ rfl;simp only[Tryz.ntmps101,F6,Bt,D4,Nat.reduceAdd,Nat.reduceSub,GM,GL,GQ,GN,C6,Di];have d9:1<=n:=Q0
 refine wpIn_block ?_
 gi_loopw [4] (λnv wr=>∃(b:List (List UInt8)) (t:ByteArray),t.size<=1000000/\Hid (Qg wr c #[.string t] 9)/\Hid (Qg wr f #[Qi (d:Nat)] 3)/\Hid (b++Ev R t.data.toList=Ev R s.data.toList)/\Hid (J b wr)/\Hid (W.heap.size<=wr.heap.size)) (λnv wr=>zyD (wr.cell? ⟨c,0,none⟩))
 case atStart=>exact⟨[],s,hs,g.out,h.out,rfl,L,Af _⟩
 case round =>
  clear L g h;obtain⟨b,t,v,g,h,p,l,c2⟩:=hrel;have a6:=A8 g.out;have d3:=A8 h.out
  by_cases a4:t.size=0
  ·have d2:t=⟨#[]⟩:=by
    cases t with
    | mk b5 =>
      have:b5.size=0:=a4;rw[Array.eq_empty_of_size_eq_zero this]
   subst d2;have u:=p.out;have b1:(⟨#[]⟩:ByteArray).data.toList=[]:=rfl;rw[b1,zuR,Eu] at u;rw[u] at l;clear u b1
   gi_wp2_with fail
   refine Fu (Dw rfl _ _ _) rfl ?_
   first
    |exact⟨⟨_,rfl⟩,.inl ⟨_,rfl,l.out⟩⟩
    |exact⟨⟨_,rfl⟩,.inl l.out⟩
  ·have i:t.data.toList≠[]:=λb6=>a4 (by have:=Co List.length b6;simpa using this)
   have e0:t.toList.isEmpty=false:=by rw[SH,SX];exact i
   have d0:=Qj i R X;have a0:=(Xu t.data.toList.length t.data.toList R (Af _) Q0).1
   have b0:t.data.toList.length=t.size:=by simp
   rw[b0] at a0;have H:=zkb R X i;have B:=Aa (b9.out t v);obtain⟨k,O⟩:=Qe (Gf t.data.toList R);rw[O] at d0 a0 H B;have D:=Aa H;clear O b0 H i
   gi_wp2_with fail
   refine⟨trivial,(Em.2 (B.out _)).mono ?_⟩;rintro e z ⟨rfl,m⟩;have Q:=Aa (c0.out _ _ _ l.out m);have I:=Aa ((m.block c (Aj g.out)).trans g.out);have a7:=Aa ((m.block f (Aj h.out)).trans h.out);have c8:Hid (W.heap.size<=z.heap.size):=BU c2.out m.size;have d1:=A8 I.out;have a1:t.extract 0 k=⟨(t.data.toList.take k).toArray⟩:=RS t k;have a9:(t.extract k t.size).data.toList=t.data.toList.drop k:=Us t k
   have a3:b.length<(Ev R s.data.toList).length:=by
    rw[<-p.out,D.out,AJ,Bt];omega
   have a2:S8 (t.data.toList.take k) z:=by
    show(t.data.toList.take k).length<=_
    have:t.data.toList.length=t.size:=by simp
    rw[BO,this];omega
   obtain⟨fn,e7,e8,e6,w,F⟩:=c1.out b (t.data.toList.take k) z Q.out a3 a2;simp only[Jf,<-a1] at w
   have S:Hid ((b++[t.data.toList.take k])++Ev R (t.extract k t.size).data.toList=Ev R s.data.toList):=by
    show _=_
    rw[a9,BN,Mh,<-D.out];exact p.out
   have b2:(t.extract k t.size).size<=1000000/\(t.extract k t.size).size<t.size:=by
    have h1:(t.extract k t.size).size=t.size-k:=by simp
    omega
   have T:=Aa b2;have e2:(k:Int)<=(t.size:Int):=Q0
   have e1:(0:Int)<=(k:Int):=Q0
   have d5:=Aa a6;clear a3 a2 a1 a9 b2 m l g h a6 d3 D B
   gi_wp2_with fail
   refine F.mono ?_;rintro e a (⟨rfl,U,G,a5⟩|⟨rfl,d7⟩)
   ·have o:Qg a c #[.string t] 9:=G.cells d4.out I.out
    have b3:Qg a f #[Qi (d:Nat)] 3:=G.cells d8.out a7.out;have e4:=A8 o;have e5:a.frozen? ⟨c,0,none⟩=false:=Ah o 0;have c6:=Aa o;have d6:=Aa b3;have c4:=Aa U;have c9:Hid (W.heap.size<=a.heap.size):=BU c8.out a5;clear F w o b3 U G a5 Q d1 I a7
    gi_wp2_with fail
    have q:Qg (a.setCell ⟨c,0,none⟩ (.string (t.extract k t.size))) c #[.string (t.extract k t.size)] 9:=Ak c6.out 0 _;refine⟨⟨_,t.extract k t.size,T.out.1,q,(Bg _ _ _ _ (λe=>c7.out e.symm)).trans d6.out,S.out,c5.out _ _ _ c4.out,?_⟩,?_⟩
    ·show _<=_
     rw[show(a.setCell ⟨c,0,none⟩ (.string (t.extract k t.size))).heap.size=a.heap.size by simp[World.setCell]];exact c9.out
    ·rw[d5.out,(Ae q 0).trans rfl]
     exact T.out.2
   ·clear F w
    gi_wp2_with fail
    exact BV (Dw rfl _ _ _) rfl ⟨⟨_,rfl⟩,.inr ⟨_,⟨_,S.out⟩,d7⟩⟩
theorem zxw(n:Nat)(p:3<=n)(a c:Nat)(s:ByteArray)(q:s.size<=1000000)(b:Nat)(k:1<=b)(l:b<=9)(d:Nat->Prop)(e:World)(g:Qg e a #[.string s] 9)(h:Qg e c #[Qi (b:Nat)] 3)(w:¬ d a)(x:¬ d c)(u:a≠c) :
 XE a n 101 #[.pointer (some ⟨a,0,none⟩),.pointer (some ⟨c,0,none⟩)] Jf S8 (Ao d) (λr=>r=Ev (40*b:Nat) s.data.toList) (λv=>v <+: Ev (40*b:Nat) s.data.toList) (Ev (40*b:Nat) s.data.toList).length e :=
 λy J i W f m z t o j=>zzb n p y a c s q b k l d J i W ((f.block a (Aj g)).trans g) ((f.block c (Aj h)).trans h) w x u m t o j
