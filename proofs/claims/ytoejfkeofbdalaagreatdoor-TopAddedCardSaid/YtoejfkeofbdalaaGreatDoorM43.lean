import Derived.Test.YtoejfkeofbdalaaGreatDoorM42
import Derived.Test.YtoejfkeofbdalaaGreatDoorM40
set_option linter.all false
set_option maxRecDepth 100000
set_option maxHeartbeats 8000000
namespace Go.Proofs.YtoejfkeofbdalaaGreatDoor
open Go.RowKit Go.Shelf
variable {P:World->Prop} {a b c i j k m n:Nat} {e:Ending} {h:Array Value} {s:List Value} {t:ByteArray} {v w:World} {x y:Value}
theorem Dt.up{d:List Ai}{H:List HE}{r:BF}(h:Dt n m k t x i j y a b d H r s w)(c:Qb w v):Dt n m k t x i j y a b d H r s v :=
 ⟨Al c h.dk,Al c h.rd,Cd h.iv c,Cd h.hv c⟩
theorem Dt.ne{d:List Ai}{H:List HE}{r:BF}(h:Dt n m k t x i j y a b d H r s w):m≠k:=by
 intro e;have c:=h.dk;rw[e,h.rd] at c;injection c with c
 injection c with _ c
 exact absurd c Q5
theorem Dt.rd1{d:List Ai}{H:List HE}{r r':BF}(h:Dt n m k t x i j y a b d H r s w)(c:Ab k w v)(e:Qg v k (DH r'++s).toArray 185):Dt n m k t x i j y a b d H r' s v :=
 ⟨c.other h.dk h.ne,e,F9 h.iv c h.rd Q5,F9 h.hv c h.rd Q5⟩
theorem zz4(g t:List UInt8)(f u:Nat):(⟨g.toArray⟩:ByteArray)++(⟨t.toArray⟩:ByteArray).extract f u=⟨(g++(t.take u).drop f).toArray⟩:=by
 apply Ov
 simp[ByteArray.data_append,Vt,Vo,List.drop_take]
theorem XV(T:ByteArray):(⟨T.data.toList.toArray⟩:ByteArray)=T:=by cases T;simp
def Pn(a:List Ai)(r:BF)(t:List UInt8):List UInt8:=r.got++(t.take (Kq r.off r.n (BZ a r.blk) t.length)).drop (r.off-BZ a r.blk)
theorem zx2(w:World)(a6 j b:Nat)(T:ByteArray)(y:Value)(R c:Nat)(C:Value)(J B:Nat)(l:List Ai)(a9:List HE)(r:BF)(E:List Value)(O:Dt a6 j b T y R c C J B l a9 r E w)(b3:Bz l)(p:Ai)(hp:l[r.blk]?=some p)(m8:r.off<=100000)(hn:r.n<=1000000)(k9:r.got.length<=100000)(l7:r.off-BZ l r.blk<=p.t.length)(n0:r.last<=100000) :
 Qk 221 #[GJ j,.string ⟨p.t.toArray⟩] w λe a=>Ab b w a /\
  ((r.blk=r.last/\e=.returned (.tuple #[.bool true,Hz (if(Bi l).length<r.off+r.n then 8 else 0) (Pn l r p.t)])/\Qg a b (DH DD++E).toArray 185) \/
   (r.blk≠r.last/\e=.returned (.tuple #[.bool false,Hz 0 []])/\Qg a b (DH ⟨1,r.off,r.n,r.blk+1,r.last,Pn l r p.t,[]⟩++E).toArray 185)):=by
 have e0:=Aa (λ(W:World) h=>zmw W a6 j b T y R c C J B l a9 r E h p hp);have k0:=Aa (λ(W:World)(h1:BF)(h:Dt a6 j b T y R c C J B l a9 h1 E W) k hk=>zrY W a6 j b T y R c C J B l a9 h1 E h k hk);obtain⟨k,hk⟩:=Qe ((if(Bi l).length<r.off+r.n then 8 else 0):Nat)
 have j4:k=0\/k=8:=by rw[<-hk];split<;>simp
 have g4:Hid (∀(W:World)(rv:Value),Au W y l->Qk 110 #[.agg #[.string T,y,Qi (R:Nat),Qi (c:Nat),C,rv,Qi (B:Nat)],Qi (r.off:Nat),Qi (r.n:Nat)] W λe a=>e=.returned (Qi (k:Nat))/\Qb W a):=λW rv h=>by
  have:=zng W T.data.toList y R c C rv B l h b3 r.off r.n Q0 Q0
  unfold Fl at this;rw[XV,show(if(Bi l).length<r.off+r.n then(8:Int) else 0)=(k:Int) by rw[<-hk];split<;>rfl] at this
  exact this
 rw[hk];have g5:=Aa (λ(W:World) h=>OO W j b T y R c C J B h);have j8:=b3.part r.blk p hp;have b9:r.blk<l.length:=(Cc.1 hp).1;have j0:BZ l r.blk<=100000:=BU (OV l r.blk) b3.len;have c3:=Aa (λW=>zqh W p.at0 p.room (BZ l r.blk) p.t.length (BG p.t) r.off r.n j0 Q0 Q0 Q0)
 have l1:=O.ne;have k4:=Aa O;have m9:r.blk<=100000:=by have:=b3.few;omega
 obtain⟨st,M,n,m,V,a2,l5⟩:=r
 dsimp only[Pn] at*
 obtain⟨F,e2⟩:=Qe (M-BZ l m);obtain⟨U,e3⟩:=Qe (Kq M n (BZ l m) p.t.length);have k7:F<=U/\U<=p.t.length:=by rw[<-e2,<-e3];unfold Kq;omega
 rw[e2,e3] at c3 |-;have l2:p.t.length<=18720:=j8.2.1;have b0:=Aa (zz4 a2 p.t F U);have d9:(⟨p.t.toArray⟩:ByteArray).size=p.t.length:=by simp[ByteArray.size]
 have j3:(⟨a2.toArray⟩:ByteArray).size=a2.length:=by simp[ByteArray.size]
 have j9:((⟨p.t.toArray⟩:ByteArray).extract F U).size=U-F:=by rw[Vs,d9];omega
 obtain⟨a8,b2⟩:=Qe ((⟨a2.toArray⟩:ByteArray):ByteArray);obtain⟨g3,e4⟩:=Qe ((⟨l5.toArray⟩:ByteArray):ByteArray);obtain⟨Y,e5⟩:=Qe ((⟨p.t.toArray⟩:ByteArray):ByteArray);obtain⟨D,j2⟩:=Qe (a2++(p.t.take U).drop F);rw[j2] at b0 |-;rw[b2,e5] at b0;rw[e5] at d9 j9 |-;rw[b2] at j3;have l0:a8.size<=100000:=Q0
 have m7:¬ 9223372036854775807<a2.length+(U-F):=Q0
 have k8:(Y.extract F U).size<=100000:=Q0
 have k1:a8.size+(Y.extract F U).size<=200000:=Q0
 have l4:(a8++Y.extract F U).size<=200000:=by rw[QY];exact k1
 obtain⟨pl,f7⟩:=Qe p.t.length;obtain⟨pr,j7⟩:=Qe p.room;obtain⟨pa,j6⟩:=Qe p.at0;obtain⟨fo,j1⟩:=Qe (BZ l m);obtain⟨cs,i9⟩:=Qe (BG p.t);rw[f7,j7,j6,j1,i9] at e0 c3;rw[f7] at l2 d9 k7
 have h5:Hid (Qg w b ([Value.int .i64 (st:Nat),Value.int .i64 (M:Nat),Value.int .i64 (n:Nat),Value.int .i64 (m:Nat),Value.int .i64 (V:Nat),Value.string a8,Value.string g3]++E).toArray 185):=by
  have:=O.rd;unfold DH at this
  dsimp only at this
  rw[b2,e4] at this;exact this
 have m3:=Aj O.dk;have m4:=Aj O.rd;have l8:=Aa b2;have l9:=Aa e4;obtain⟨f,j5⟩:=Qe w.heap.size;have d7:=Ay (Ay (Ag w.heap.size w) (.cells #[Qp j 0,Qi 0] 196)) (.cells #[.string ⟨#[]⟩,Qi 0] 44);have c4:=Aa (Bb (.cells #[.string ⟨#[]⟩,Qi 0] 44) (Am w (.cells #[Qp j 0,Qi 0] 196) f j5.symm));have g8:=Aa (Am (w.alloc (.cells #[Qp j 0,Qi 0] 196)) (.cells #[.string ⟨#[]⟩,Qi 0] 44) (f+1) (by simp[j5]))
 have e8:=Aa (O.up d7);have g7:=Aa (Al d7 h5);have g6:=Aa d7;unfold GJ NN Hz at*
 clear O d7 b3 hp j8 e2 e3 b2 e4 e5 j2 f7 j7 j6 j1 i9 h5 j0 l7 k4 b9 k9
 go_enter Tryz.func221,Tryz.ntmps221
 go_upto_region 1 with(fail)
 generalize(w.alloc _).alloc _=W at*
 have a0:=A8 c4;have a1:=AA c4
 go_wp2_with fail
 refine(g5 W e8.dk).mono ?_;rintro e P ⟨rfl,a3⟩;have e6:=Aa (Al a3 c4);have h6:=Aa (Al a3 g8);have f8:=Aa (e8.up a3);have f1:=Aa (Al a3 g7);have h2:=Aa (A9 a3 g6);clear a0 a1 a3 c4 g8 e8 g7 g6 g5
 go_upto_region 2 with(fail)
 have h9:Hid (∀a:World,Qb P a->Qb P a/\Qc a f 0 (Qp j 0)/\Qc a f 1 (Qi 0)/\Qc a b 1 (Qi (M:Nat))/\Qc a b 2 (Qi (n:Nat))):=λa h=>by
  have b1:=Al h e6;have h0:=Al h f1;exact⟨h,(Ae b1 0).trans rfl,(Ae b1 1).trans rfl,(Ae h0 1).trans rfl,(Ae h0 2).trans rfl⟩
 have d8:Qb P P:=Ag _ _
 go_region_held3 (λa=>Qb P a/\Qc a f 0 (Qp j 0)/\Qc a f 1 (Qi 0)/\Qc a b 1 (Qi (M:Nat))/\Qc a b 2 (Qi (n:Nat)))
  ((refine h9 _ ?_;first|assumption|exact Cq Q3|exact Bh Q3|exact A9 Q3 (Bh Q3)|fail))
  ((first
    |(go_at_call 222
      refine(e0 _ (f8.up (Cq (Ag _ _)))).mono ?_;rintro e G ⟨rfl,a4⟩;have i7:Qb P G:=A9 a4 (Cq d8))
    |(go_at_call 255
      refine(c3 _).mono ?_;rintro e w9 ⟨rfl,i0⟩;have i8:Qb P w9:=A9 i0 i7;have Z:=Aa i8)
    |fail))
 have k3:=Aa (Al Z e6);have h8:=Aa (Al Z h6);have l3:=Aa (f8.up Z);have f2:=Aa (Al Z f1);have e9:=Aa (A9 Z h2);clear e6 h6 f8 f1 h2 Z h9 d8 i7 i8 a4 i0 e0 c3
 try clear x
 generalize w9=N at*
 have r5:=Df f2;have f5:=Ah f2 5;have d8:Ab b N N:=Ab.refl _ _;have m0:(0:Int)<=(F:Int):=Q0
 have m6:(F:Int)<=(U:Int):=Q0
 have m1:(U:Int)<=(Y.size:Int):=Q0
 have m2:U<=Y.size:=Q0
 have m5:F<=U:=Q0
 go_upto_region 3 with(fail)
 go_still_tail 11,Q2
 go_upto_region 4 with(fail)
 obtain⟨a7,g9⟩:=Qe (a8++Y.extract F U);rw[g9] at b0 |-;have i3:(N.setCell ⟨b,5,none⟩ (.string a7)).drew.heap[b]?=_:=Ak f2 5 (.string a7);have i1:=JR ((Ab.refl b N).set 5 (.string a7));have c8:=Aa i3;have h3:=Aa i1;clear i3 i1 k1 l4 k8 l0 j9 d9 j3 g9;generalize(N.setCell ⟨b,5,none⟩ (.string a7)).drew=e1 at*
 have r6:Qc e1 b 6 (.string g3):=(Ae c8 6).trans QC
 have f6:=Ah c8 6;clear r5 f5 d8
 go_upto_region 5 with(fail)
 have i4:Qg (e1.setCell ⟨b,6,none⟩ (.string ⟨#[]⟩)) b ([Value.int .i64 (st:Nat),Value.int .i64 (M:Nat),Value.int .i64 (n:Nat),Value.int .i64 (m:Nat),Value.int .i64 (V:Nat),Value.string a7,Value.string ⟨#[]⟩]++E).toArray 185:=(Ak c8 6 (.string ⟨#[]⟩)).trans QC
 have i2:=h3.set 6 (.string ⟨#[]⟩);have X:=Aa i4;have c7:=Aa i2;clear i4 i2 c8 h3 r6 f6;generalize e1.setCell ⟨b,6,none⟩ (.string ⟨#[]⟩)=c5 at*
 have r3:=CY X;have r4:=De X
 by_cases b9:m=V
 ·have d1:((m:Int)==(V:Int))=true:=FQ.2 Q0
  go_quiet (fail)
  go_upto_region 6 with(fail)
  have L:Hid ((c5.drewN nq).heap[b]?=_):=X.out;have H:=Aa (c7.drewN nq);clear r3 r4 X c7;generalize c5.drewN nq=q at*
  have e7:=Aa (H.other k3 Q0)
  have b6:=Aa (H.other h8 Q0)
  have a5:Hid (Dt a6 j b T y R c C J B l a9 ⟨st,M,n,m,V,D,[]⟩ E q):=l3.rd1 H (by
   refine L.trans ?_;rw[b0.out];rfl)
  have s:=a5.dk;have a0:=A8 e7;have a1:=AA e7;have d0:=A8 s;have d1:=AA s;have d2:=Bk s;have d3:=CY s;have d4:=De s;have d5:=Df s;have d6:=ES s;have r1:=AA L;have r2:=Bk L;clear s
  have u:Hid (∀a:World,BD (f+1) b q a->(λa=>BD (f+1) b q a/\Qc a f 0 (Qp j 0)/\Qc a f 1 (Qi 0)/\Qc a j 0 (.string T)/\Qc a j 1 y/\Qc a j 2 (Qi (R:Nat))/\Qc a j 3 (Qi (c:Nat))/\Qc a j 4 C/\Qc a j 5 (Qs b 0 1 J)/\Qc a j 6 (Qi (B:Nat))) a):=λa h=>by
   have b1:=h.other e7 Q0 Q0
   have s:=h.other a5.dk Q0 l1
   exact⟨h,(Ae b1 0).trans rfl,(Ae b1 1).trans rfl,(Ae s 0).trans rfl,(Ae s 1).trans rfl,(Ae s 2).trans rfl,(Ae s 3).trans rfl,(Ae s 4).trans rfl,(Ae s 5).trans rfl,(Ae s 6).trans rfl⟩
  refine wp_region_held_drew (S:=λa=>BD (f+1) b q a/\Qc a f 0 (Qp j 0)/\Qc a f 1 (Qi 0)/\Qc a j 0 (.string T)/\Qc a j 1 y/\Qc a j 2 (Qi (R:Nat))/\Qc a j 3 (Qi (c:Nat))/\Qc a j 4 C/\Qc a j 5 (Qs b 0 1 J)/\Qc a j 6 (Qi (B:Nat))) Q2 (u _ (BD.of (Cq (Ag _ _)))) (λx=>?_)
  refine wpAnyH_take (i:=0) (oi:=⟨some 48,_,_,_,_,none⟩) (v:=?_) rfl Q2 Q2 Q2 (λ_ _ _ h=>h) (Or.inl ⟨Q7,?_⟩) Q3 ?_
  rotate_left 1
  ·intro w g
   try dsimp only at g
   go_simp
   try with_reducible rfl
  try simp only[Act.put,AO,AR,AL]
  refine wpAnyH_take (i:=1) (oi:=⟨some 49,_,_,_,_,none⟩) (v:=?_) rfl Q2 Q2 Q2 (λ_ _ _ h=>h) (Or.inl ⟨Q7,?_⟩) Q3 ?_
  rotate_left 1
  ·intro w g
   try dsimp only at g
   go_simp
   try with_reducible rfl
  try simp only[Act.put,AO,AR,AL]
  refine wpAnyH_take (i:=2) (oi:=⟨some 50,_,_,_,_,none⟩) (v:=?_) rfl Q2 Q2 Q2 (λ_ _ _ h=>h) (Or.inl ⟨Q7,?_⟩) Q3 ?_
  rotate_left 1
  ·intro w g
   try dsimp only at g
   go_simp
   try with_reducible rfl
  try simp only[Act.put,AO,AR,AL]
  refine wpAnyH_take (i:=3) (oi:=⟨some 51,_,_,_,_,none⟩) (v:=?_) rfl Q2 Q2 Q2 (λ_ _ _ h=>h) (Or.inl ⟨Q7,?_⟩) Q3 ?_
  rotate_left 1
  ·intro w g
   try dsimp only at g
   go_simp
   try with_reducible rfl
  try simp only[Act.put,AO,AR,AL]
  refine wpAnyH_take (i:=4) (oi:=⟨some 52,_,_,_,_,none⟩) (v:=?_) rfl Q2 Q2 Q2 (λ_ _ _ h=>h) (Or.inl ⟨Q7,?_⟩) Q3 ?_
  rotate_left 1
  ·intro w g
   try dsimp only at g
   go_simp
   try with_reducible rfl
  try simp only[Act.put,AO,AR,AL]
  refine wpAnyH_take (i:=5) (oi:=⟨some 53,_,_,_,_,none⟩) (v:=?_) rfl Q2 Q2 Q2 (λ_ _ _ h=>h) (Or.inl ⟨Q7,?_⟩) Q3 ?_
  rotate_left 1
  ·intro w g
   try dsimp only at g
   go_simp
   try with_reducible rfl
  try simp only[Act.put,AO,AR,AL]
  refine wpAnyH_take (i:=6) (oi:=⟨some 54,_,_,_,_,none⟩) (v:=?_) rfl Q2 Q2 Q2 (λ_ _ _ h=>h) (Or.inl ⟨Q7,?_⟩) Q3 ?_
  rotate_left 1
  ·intro w g
   try dsimp only at g
   go_simp
   try with_reducible rfl
  try simp only[Act.put,AO,AR,AL]
  refine wpAnyH_take (i:=7) (oi:=⟨some 55,_,_,_,_,none⟩) (v:=?_) rfl Q2 Q2 Q2 (λ_ _ _ h=>h) (Or.inl ⟨Q7,?_⟩) Q3 ?_
  rotate_left 1
  ·intro w g
   try dsimp only at g
   go_simp
   try with_reducible rfl
  try simp only[Act.put,AO,AR,AL]
  refine wpAnyH_take (i:=9) (oi:=⟨some 57,_,_,_,_,none⟩) (v:=?_) rfl Q2 Q2 Q2 (λ_ _ _ h=>h) (Or.inl ⟨Q7,?_⟩) Q3 ?_
  rotate_left 1
  ·intro w g
   try dsimp only at g
   go_simp
   try with_reducible rfl
  try simp only[Act.put,AO,AR,AL]
  refine wpAnyH_take (i:=10) (oi:=⟨some 58,_,_,_,_,none⟩) (v:=?_) rfl Q2 Q2 Q2 (λ_ _ _ h=>h) (Or.inl ⟨Q7,?_⟩) Q3 ?_
  rotate_left 1
  ·intro w g
   try dsimp only at g
   go_simp
   try with_reducible rfl
  try simp only[Act.put,AO,AR,AL]
  refine wpAnyH_take (i:=11) (oi:=⟨some 59,_,_,_,_,none⟩) (v:=?_) rfl Q2 Q2 Q2 (λ_ _ _ h=>h) (Or.inl ⟨Q7,?_⟩) Q3 ?_
  rotate_left 1
  ·intro w g
   try dsimp only at g
   go_simp
   try with_reducible rfl
  try simp only[Act.put,AO,AR,AL]
  refine wpAnyH_ready (rs:=[8,12]) Q2 Q6 (AllReadyH.cons (o:=⟨some 56,_,_,_,_,none⟩) rfl (λK d=>?_) (AllReadyH.cons (o:=⟨some 60,_,_,_,_,none⟩) rfl (λK d=>?_) AllReadyH.nil))
  ·go_simp
   refine d _ _ (u _ (BD.of (Cq (Ag _ _)))) (λx=>?_);clear d K
   try simp only[Act.put,AO,AR,AL]
   refine wpAnyH_ready (rs:=[12]) Q2 Q6 (AllReadyH.cons (o:=⟨some 60,_,_,_,_,none⟩) rfl (λK d=>?_) AllReadyH.nil)
   go_simp
   refine d _ _ (u _ (BD.of (Cq (Ag _ _)))) (λx=>?_);clear d K
   try simp only[Act.put,AO,AR,AL]
   refine wpAnyH_ready (rs:=[13]) Q2 Q6 (AllReadyH.cons (o:=⟨some 61,_,_,_,_,none⟩) rfl (λK d=>?_) AllReadyH.nil)
   go_simp
   refine(g4 q.drew _ (Rd.own a5.iv)).mono ?_;rintro e G ⟨rfl,a4⟩;have z:=A9 a4 (Cq (Ag q.heap.size q))
   try dsimp only
   refine d _ _ (u _ (BD.of z)) (λx=>?_);clear d K
   try simp only[Act.put,AO,AR,AL]
   have c2:=Aa (a5.up z);have b8:=Aa (Al z b6);have b5:Hid (Ab b N G):=H.trans (Ab.of z);have f4:Hid (BD (f+1) b q G):=BD.of z;refine wpAnyH_ready (rs:=[14]) Q2 Q6 (AllReadyH.cons (o:=⟨some 62,_,_,_,_,none⟩) rfl (λK d=>?_) AllReadyH.nil)
   go_simp
   refine(k0 G _ c2 k j4).mono ?_;rintro e c1 ⟨rfl,t,c0⟩
   try dsimp only
   have Q:Hid (BD (f+1) b q c1):=f4.trans (BD.onlyB t);refine d _ _ (u _ Q) (λx=>?_);clear d K
   try simp only[Act.put,AO,AR,AL]
   have A:=Aa (t.other b8 Q0)
   have f9:=Aa (b5.trans t);have g2:=Aa c0;clear t c0 c2 b8 b5;have z0:=A8 A;have z1:=AA A;have g0:=Ah A 0;have g1:=Ah A 1;refine wpAnyH_take (i:=15) (oi:=⟨some 63,_,_,_,_,none⟩) (v:=?_) rfl Q2 Q2 Q2 (λ_ _ _ h=>h) (Or.inl ⟨Q7,?_⟩) Q3 ?_
   rotate_left 1
   ·intro w g
    try dsimp only at g
    go_simp
    try with_reducible rfl
   try simp only[Act.put,AO,AR,AL]
   refine wpAnyH_take (i:=16) (oi:=⟨some 64,_,_,_,_,none⟩) (v:=?_) rfl Q2 Q2 Q2 (λ_ _ _ h=>h) (Or.inl ⟨Q7,?_⟩) Q3 ?_
   rotate_left 1
   ·intro w g
    try dsimp only at g
    go_simp
    try with_reducible rfl
   try simp only[Act.put,AO,AR,AL]
   refine wpAnyH_ready (rs:=[17]) Q2 Q6 (AllReadyH.cons (o:=⟨some 4,_,_,_,_,none⟩) rfl (λK d=>?_) AllReadyH.nil)
   go_simp
   refine d _ _ (u _ Q) (λx=>?_);clear d K
   try simp only[Act.put,AO,AR,AL]
   refine wpAnyH_ready (rs:=[18]) Q2 Q6 (AllReadyH.cons (o:=⟨none,_,_,_,_,none⟩) rfl (λK d=>?_) AllReadyH.nil)
   go_simp
   refine d _ _ (u _ ((Q.setA 0 (.string ⟨D.toArray⟩)).setA 1 (Qi (k:Nat)))) (λx=>?_);clear d K
   try simp only[Act.put,AO,AR,AL]
   refine wpAnyH_done Q2 ?_ _
   have b4:=Ak (Ak A 0 (.string ⟨D.toArray⟩)) 1 (Qi (k:Nat));have I:=(((Ab.refl (f+1) c1).set 0 (.string ⟨D.toArray⟩)).set 1 (Qi (k:Nat))).other g2 Q0
   have t:=Ab.setNew (Ab.setNew ((Ab.of e9).trans f9) (show w.heap.size<=f+1 by omega) 0 (.string ⟨D.toArray⟩)) (show w.heap.size<=f+1 by omega) 1 (Qi (k:Nat))
   go_wp2_with fail
   exact BV (M7 rfl _ _ _ ⟨f+1,0,none⟩ _ rfl (JO _ _ _ _ b4)) rfl ⟨t,by first|exact .inl ⟨b9,rfl,I⟩|exact⟨rfl,I⟩|exact .inl ⟨rfl,I⟩⟩
  ·go_simp
   refine d _ _ (u _ (BD.of (Cq (Ag _ _)))) (λx=>?_);clear d K
   try simp only[Act.put,AO,AR,AL]
   refine wpAnyH_ready (rs:=[8]) Q2 Q6 (AllReadyH.cons (o:=⟨some 56,_,_,_,_,none⟩) rfl (λK d=>?_) AllReadyH.nil)
   go_simp
   refine d _ _ (u _ (BD.of (Cq (Ag _ _)))) (λx=>?_);clear d K
   try simp only[Act.put,AO,AR,AL]
   refine wpAnyH_ready (rs:=[13]) Q2 Q6 (AllReadyH.cons (o:=⟨some 61,_,_,_,_,none⟩) rfl (λK d=>?_) AllReadyH.nil)
   go_simp
   refine(g4 q.drew _ (Rd.own a5.iv)).mono ?_;rintro e G ⟨rfl,a4⟩;have z:=A9 a4 (Cq (Ag q.heap.size q))
   try dsimp only
   refine d _ _ (u _ (BD.of z)) (λx=>?_);clear d K
   try simp only[Act.put,AO,AR,AL]
   have c2:=Aa (a5.up z);have b8:=Aa (Al z b6);have b5:Hid (Ab b N G):=H.trans (Ab.of z);have f4:Hid (BD (f+1) b q G):=BD.of z;refine wpAnyH_ready (rs:=[14]) Q2 Q6 (AllReadyH.cons (o:=⟨some 62,_,_,_,_,none⟩) rfl (λK d=>?_) AllReadyH.nil)
   go_simp
   refine(k0 G _ c2 k j4).mono ?_;rintro e c1 ⟨rfl,t,c0⟩
   try dsimp only
   have Q:Hid (BD (f+1) b q c1):=f4.trans (BD.onlyB t);refine d _ _ (u _ Q) (λx=>?_);clear d K
   try simp only[Act.put,AO,AR,AL]
   have A:=Aa (t.other b8 Q0)
   have f9:=Aa (b5.trans t);have g2:=Aa c0;clear t c0 c2 b8 b5;have z0:=A8 A;have z1:=AA A;have g0:=Ah A 0;have g1:=Ah A 1;refine wpAnyH_take (i:=15) (oi:=⟨some 63,_,_,_,_,none⟩) (v:=?_) rfl Q2 Q2 Q2 (λ_ _ _ h=>h) (Or.inl ⟨Q7,?_⟩) Q3 ?_
   rotate_left 1
   ·intro w g
    try dsimp only at g
    go_simp
    try with_reducible rfl
   try simp only[Act.put,AO,AR,AL]
   refine wpAnyH_take (i:=16) (oi:=⟨some 64,_,_,_,_,none⟩) (v:=?_) rfl Q2 Q2 Q2 (λ_ _ _ h=>h) (Or.inl ⟨Q7,?_⟩) Q3 ?_
   rotate_left 1
   ·intro w g
    try dsimp only at g
    go_simp
    try with_reducible rfl
   try simp only[Act.put,AO,AR,AL]
   refine wpAnyH_ready (rs:=[17]) Q2 Q6 (AllReadyH.cons (o:=⟨some 4,_,_,_,_,none⟩) rfl (λK d=>?_) AllReadyH.nil)
   go_simp
   refine d _ _ (u _ Q) (λx=>?_);clear d K
   try simp only[Act.put,AO,AR,AL]
   refine wpAnyH_ready (rs:=[18]) Q2 Q6 (AllReadyH.cons (o:=⟨none,_,_,_,_,none⟩) rfl (λK d=>?_) AllReadyH.nil)
   go_simp
   refine d _ _ (u _ ((Q.setA 0 (.string ⟨D.toArray⟩)).setA 1 (Qi (k:Nat)))) (λx=>?_);clear d K
   try simp only[Act.put,AO,AR,AL]
   refine wpAnyH_done Q2 ?_ _
   have b4:=Ak (Ak A 0 (.string ⟨D.toArray⟩)) 1 (Qi (k:Nat));have I:=(((Ab.refl (f+1) c1).set 0 (.string ⟨D.toArray⟩)).set 1 (Qi (k:Nat))).other g2 Q0
   have t:=Ab.setNew (Ab.setNew ((Ab.of e9).trans f9) (show w.heap.size<=f+1 by omega) 0 (.string ⟨D.toArray⟩)) (show w.heap.size<=f+1 by omega) 1 (Qi (k:Nat))
   go_wp2_with fail
   exact BV (M7 rfl _ _ _ ⟨f+1,0,none⟩ _ rfl (JO _ _ _ _ b4)) rfl ⟨t,by first|exact .inl ⟨b9,rfl,I⟩|exact⟨rfl,I⟩|exact .inl ⟨rfl,I⟩⟩
 ·have d1:((m:Int)==(V:Int))=false:=Ez.2 Q0
  go_quiet (fail)
  go_upto_region 7 with(fail)
  have L:Hid ((c5.drewN nq).heap[b]?=_):=X.out;have H:=Aa (c7.drewN nq);clear r3 r4 X c7;generalize c5.drewN nq=q at*
  have b6:=Aa (H.other h8 Q0)
  have r3:=CY L;have f3:=Ah L 3;have w3:IntKind.i64.wrap ((m:Int)+1)=((m+1:Nat):Int):=(AU _ Q0).trans Q0
  go_upto_region 8 with(fail)
  have i5:=Ak L 3 (Qi ((m+1:Nat):Int));have c9:=Aa i5;have h4:=Aa (H.set 3 (Qi ((m+1:Nat):Int)));have h7:=Aa (((Ab.refl b q).set 3 (Qi ((m+1:Nat):Int))).other b6 Q0)
  clear r3 f3 i5 L H b6 w3;have l6:((m:Int)+1)=((m+1:Nat):Int):=Q0
  try rw[l6]
  generalize q.setCell ⟨b,3,none⟩ (Qi ((m+1:Nat):Int))=c6 at*
  have r0:Qc c6 b 0 (Qi (st:Nat)):=(Ae c9 0).trans QC
  have f0:=Ah c9 0
  go_upto_region 9 with(fail)
  have i6:Qg (c6.setCell ⟨b,0,none⟩ (Qi 1)) b (DH ⟨1,M,n,m+1,V,D,[]⟩++E).toArray 185:=(Ak c9 0 (Qi 1)).trans (by
   rw[b0.out];simp[AO,DH])
  have k6:=Aa i6;have k5:=Aa (h4.set 0 (Qi 1));have b7:=Aa (((Ab.refl b c6).set 0 (Qi 1)).other h7 Q0)
  clear r0 f0 i6 c9 h4 h7;generalize c6.setCell ⟨b,0,none⟩ (Qi 1)=k2 at*
  have z0:=A8 b7;have z1:=AA b7;have g0:=Ah b7 0;have g1:=Ah b7 1
  go_wp2_with fail
  have b4:=Ak (Ak b7 0 (.string ⟨#[]⟩)) 1 (Qi 0);have I:=(((Ab.refl (f+1) k2).set 0 (.string ⟨#[]⟩)).set 1 (Qi 0)).other k6 Q0
  have t:=Ab.setNew (Ab.setNew ((Ab.of e9).trans k5) (show w.heap.size<=f+1 by omega) 0 (.string ⟨#[]⟩)) (show w.heap.size<=f+1 by omega) 1 (Qi 0)
  exact BV (M7 rfl _ _ _ ⟨f+1,0,none⟩ _ rfl (JO _ _ _ _ b4)) rfl ⟨t,.inr ⟨b9,rfl,I⟩⟩
theorem zBd(h:Qb w v)(k:∀Y,Qb w Y->P Y):P v:=k v h
theorem zxf(w:World)(B b f:Nat)(T:ByteArray)(L:Value)(R c:Nat)(l:Value)(F G:Nat)(ps:List Ai)(H:List HE)(r:BF)(C:List Value)(m:Dt B b f T L R c l F G ps H r C w)(a8:1<=R/\R<=2)(hc:c+1<=1099511627776)(X:A7 R c H)(hb:r.blk<=1000000)(Z:(H.any λy=>decide (y.b=r.blk))=false) :
 Qk 161 #[GJ b] w λe a=>Ab f w a/\e=.returned (.tuple #[.bool false,Hz 0 []])/\Qg a f (DH ⟨2,r.off,r.n,r.blk,r.last,r.got,r.text⟩++C).toArray 185:=by
 have a4:Hid (∀W:World,Rd W W.heap.size 3 l H.length (BB H)->Qk 219 #[.agg #[Qi R,Qi c,l],Qi (r.blk:Nat)] W λe a=>e=.returned (.tuple #[.string ⟨#[]⟩,.agg #[Qi 0,Qi 0,.slice none 0 0],Qi 5])/\Qb W a):=λW h=>(ZC W R c l H h a8 hc X r.blk hb).mono (by
  rintro e a ⟨a7,⟨y,hy,c0,-⟩|⟨-,he⟩⟩
  ·have:(H.any λy=>decide (y.b=r.blk))=true:=J8.2 ⟨y,hy,by simpa using c0⟩
   rw[Z] at this;cases this
  ·exact⟨he,a7⟩)
 have D:=Aa (λ(W:World) h=>OO W b f T L R c l F G h);have b0:=Aa m;have c8:=m.ne;obtain⟨st,c1,a3,v,c4,b6,c5⟩:=r
 dsimp only at*
 have c7:=Aj m.dk;have c9:=Aj m.rd;obtain⟨d,V⟩:=Qe w.heap.size;have z:=Ay (Ay (Ag w.heap.size w) (.cells #[Qp b 0,Qi 0] 196)) (.cells #[.string ⟨#[]⟩,Qi 0] 44);have E:=Aa (Bb (.cells #[.string ⟨#[]⟩,Qi 0] 44) (Am w (.cells #[Qp b 0,Qi 0] 196) d V.symm));have a6:=Aa (Am (w.alloc (.cells #[Qp b 0,Qi 0] 196)) (.cells #[.string ⟨#[]⟩,Qi 0] 44) (d+1) (by simp[V]))
 have n:=Aa (m.up z);have a5:=Aa z;unfold GJ Hz at*
 clear m z b0 X Z
 go_enter Tryz.func161,Tryz.ntmps161
 go_upto_region 1 with(fail)
 generalize(w.alloc _).alloc _=W at*
 have b5:Hid (∀a:World,Qb W a->Qb W a/\Qc a d 0 (Qp b 0)/\Qc a d 1 (Qi 0)/\Qc a b 2 (Qi (R:Nat))/\Qc a b 3 (Qi (c:Nat))/\Qc a b 4 l/\Qc a f 3 (Qi (v:Nat))):=λa h=>by
  have K:=Al h E;have u:=Al h n.dk;have hr:=Al h n.rd;exact⟨h,(Ae K 0).trans rfl,(Ae K 1).trans rfl,(Ae u 2).trans rfl,(Ae u 3).trans rfl,(Ae u 4).trans rfl,(Ae hr 3).trans rfl⟩
 have c6:Qb W W:=Ag _ _
 go_region_held3 (λa=>Qb W a/\Qc a d 0 (Qp b 0)/\Qc a d 1 (Qi 0)/\Qc a b 2 (Qi (R:Nat))/\Qc a b 3 (Qi (c:Nat))/\Qc a b 4 l/\Qc a f 3 (Qi (v:Nat)))
  ((refine b5 _ ?_;first|assumption|exact Cq Q3|exact Bh Q3|exact A9 Q3 (Bh Q3)|exact Ay (Bh Q3) _|exact Ay Q3 _|(refine Ce (Ce (Ce ?_ ?_ _ _) ?_ _ _) ?_ _ _<;>first|exact Bh Q3|exact Af _|exact b9.size|exact x.size|exact Ay x _|exact x)|fail))
  ((first
    |(go_at_call 220
      refine(D _ (Al (Bh Q3) n.dk)).mono ?_
      rintro e k ⟨rfl,Q⟩;have b9:Qb W k:=A9 Q (Bh Q3))
    |(go_at_call 219
      refine(a4 _ (Rd.own (Cd n.hv (Bh Q3)))).mono ?_
      rintro e g ⟨rfl,j⟩;have x:Qb W g:=A9 j (Bh Q3)
      first
       |(have i:=Al j (Am k (.cells #[Qi 0,Qi 0,.slice none 0 0] 36) _ rfl)
         have M:Qc g k.heap.size 0 (Qi 0):=(Ae i 0).trans rfl;have N:Qc g k.heap.size 1 (Qi 0):=(Ae i 1).trans rfl;have z2:Qc g k.heap.size 2 (.slice none 0 0):=(Ae i 2).trans rfl;have I:g.frozen? ⟨k.heap.size,0,none⟩=false:=Ah i 0;have J:g.frozen? ⟨k.heap.size,1,none⟩=false:=Ah i 1;have g2:g.frozen? ⟨k.heap.size,2,none⟩=false:=Ah i 2)
       |(have i:=Al j (Al Q (Am W.drew (.cells #[Qi 0,Qi 0,.slice none 0 0] 36) _ rfl))
         have M:Qc g W.heap.size 0 (Qi 0):=(Ae i 0).trans rfl;have N:Qc g W.heap.size 1 (Qi 0):=(Ae i 1).trans rfl;have z2:Qc g W.heap.size 2 (.slice none 0 0):=(Ae i 2).trans rfl;have I:g.frozen? ⟨W.heap.size,0,none⟩=false:=Ah i 0;have J:g.frozen? ⟨W.heap.size,1,none⟩=false:=Ah i 1;have g2:g.frozen? ⟨W.heap.size,2,none⟩=false:=Ah i 2)
       |skip)
    |fail))
 all_goals(
  rename_i S
  refine zBd (P:=λa2=>Exit.then _ _ _ _ a2) (Bh S) ?_;clear S;intro t j;have O:=Aa (Al j E);have b4:=Aa (Al j a6);have Y:=Aa (n.up j);have b1:=Aa (A9 j a5);have a0:Qc t d 0 (Qp b 0):=(Ae O 0).trans rfl;have a1:Qc t d 1 (Qi 0):=(Ae O 1).trans rfl;clear j
  go_wp2_with fail
  refine(D t Y.dk).mono ?_;rintro e p ⟨rfl,q⟩;have c3:=Aa (Al q b4);have A:=Aa (Y.up q).rd;have c2:=Aa (A9 q b1);have r0:Qc p f 0 (Qi (st:Nat)):=(Ae A 0).trans rfl;have f0:=Ah A 0;clear a0 a1 q
  go_upto_region 4 with(fail)
  have U:Qg (p.setCell ⟨f,0,none⟩ (Qi 2)) f (DH ⟨2,c1,a3,v,c4,b6,c5⟩++C).toArray 185:=(Ak A 0 (Qi 2)).trans (by simp[AO,DH])
  have b3:=Aa U;have b2:Hid (Ab f w (p.setCell ⟨f,0,none⟩ (Qi 2))):=(Ab.of c2).set 0 (Qi 2);have o:=Aa (((Ab.refl f p).set 0 (Qi 2)).other c3 Q0)
  clear r0 f0 U;generalize p.setCell ⟨f,0,none⟩ (Qi 2)=s at*
  have M:Qc s (d+1) 0 (.string ⟨#[]⟩):=(Ae o 0).trans rfl;have N:Qc s (d+1) 1 (Qi 0):=(Ae o 1).trans rfl;have I:=Ah o 0;have J:=Ah o 1
  go_wp2_with fail
  have a9:=Ak (Ak o 0 (.string ⟨#[]⟩)) 1 (Qi 0);have b8:=(((Ab.refl (d+1) s).set 0 (.string ⟨#[]⟩)).set 1 (Qi 0)).other b3 Q0
  have b7:=Ab.setNew (Ab.setNew b2 (show w.heap.size<=d+1 by omega) 0 (.string ⟨#[]⟩)) (show w.heap.size<=d+1 by omega) 1 (Qi 0)
  exact BV (M7 rfl _ _ _ ⟨d+1,0,none⟩ _ rfl (JO _ _ _ _ a9)) rfl ⟨b7,rfl,b8⟩)
def Fe(a:List Ai)(r:BF)(t:List UInt8)(e:Ending)(b:BF):Prop :=
 (r.blk=r.last/\e=.returned (.tuple #[.bool true,Hz (if(Bi a).length<r.off+r.n then 8 else 0) (Pn a r t)])/\b=DD) \/
 (r.blk≠r.last/\e=.returned (.tuple #[.bool false,Hz 0 []])/\b=⟨1,r.off,r.n,r.blk+1,r.last,Pn a r t,[]⟩)
theorem Fe.form{a:List Ai}{r b:BF}{f:List UInt8}(h:Fe a r f e b):∃d k x,e=.returned (.tuple #[.bool d,.agg #[.string ⟨x⟩,Qi (k:Nat)]]):=by
 rcases h with⟨-,h,-⟩|⟨-,h,-⟩<;>exact⟨_,_,_,h⟩
theorem zyG(w:World)(B b f:Nat)(T:ByteArray)(n:Value)(R c:Nat)(m:Value)(g h:Nat)(a:List Ai)(H:List HE)(r:BF)(q:List Value)(l:Dt B b f T n R c m g h a H r q w)(t:Bz a)(p:Ai)(v:a[r.blk]?=some p)(y:r.off<=100000)(u:r.n<=1000000)(x:r.got.length<=100000)(z:r.off-BZ a r.blk<=p.t.length)(A:r.last<=100000) :
 Qk 221 #[GJ b,.string ⟨p.t.toArray⟩] w λe o=>Ab f w o/\∃s,Fe a r p.t e s/\Dt B b f T n R c m g h a H s q o:=by
 refine(zx2 w B b f T n R c m g h a H r q l t p v y u x z A).mono ?_;rintro e o ⟨d,⟨i,j,k⟩|⟨i,j,k⟩⟩
 ·exact⟨d,_,.inl ⟨i,j,rfl⟩,l.rd1 d k⟩
 ·exact⟨d,_,.inr ⟨i,j,rfl⟩,l.rd1 d k⟩
theorem zqg(c:w.ownsRow n m k x i s)(d:Qg w j h a)(e:m≠a)(b y z:Value):(((w.setCell ⟨j,0,none⟩ b).setCell ⟨j,1,none⟩ y).setCell ⟨j,2,none⟩ z).ownsRow n m k x i s :=
 F9 c ((((Ab.refl j w).set 0 b).set 1 y).set 2 z) d e
theorem Dt.shelf{c':Nat}{z:Value}{f:List Ai}{H a:List HE}{r:BF}(h:Dt n m k t x i j y b c f H r s w)(g:w.ownsRow n 271 3 z a.length (BB a)) :
 Dt n m k t x i c' z b c f a r s (((w.setCell ⟨m,2,none⟩ (Qi (i:Nat))).setCell ⟨m,3,none⟩ (Qi (c':Nat))).setCell ⟨m,4,none⟩ z):=by
 have d:=(((Ab.refl m w).set 2 (Qi (i:Nat))).set 3 (Qi (c':Nat))).set 4 z;exact⟨Ak (Ak (Ak h.dk 2 (Qi (i:Nat))) 3 (Qi (c':Nat))) 4 z,d.other h.rd (λe=>h.ne e.symm),F9 h.iv d h.dk Q5,F9 g d h.dk Q5⟩
theorem zA4(h:Qb w v)(b:v.ownsRow n m 3 x k s)(a:∀Y,Qb w Y->Y.ownsRow n m 3 x k s->P Y):P v:=a v h b
theorem Dt.reply{g:List Ai}{H:List HE}{r:BF}(d:Dt n m k t x j a y b c g H r s w)(e:Ab i w v)(f:Qg w i h 44)(l:i≠m)(o:i≠k):Dt n m k t x j a y b c g H r s v :=
 ⟨e.other d.dk (Ne.symm l),e.other d.rd (Ne.symm o),F9 d.iv e f Q5,F9 d.hv e f Q5⟩
theorem zvp(w:World)(B b l:Nat)(T:ByteArray)(E:Value)(R c:Nat)(i:Value)(C D:Nat)(j:List Ai)(H:List HE)(r:BF)(V:List Value)(t:Dt B b l T E R c i C D j H r V w)(d8:B<=w.heap.size)(c9:1<=R/\R<=2)(hc:c+1<=1099511627776)(b6:A7 R c H)(hb:r.blk<=1000000)(b8:(H.any λy=>decide (y.b=r.blk))=true)(a5:Kx j H)(a6:Bz j)(p:Ai)(N:j[r.blk]?=some p)(b9:r.off<=100000)(hn:r.n<=1000000)(b3:r.got.length<=100000)(c1:r.off-BZ j r.blk<=p.t.length)(c2:r.last<=100000) :
 Qk 161 #[GJ b] w λe a=>BD b l w a/\∃v F,Fe j r p.t e F/\Dt B b l T E R (c+1) v C D j (G9 r.blk c H) F V a:=by
 have X:Hid (∀W:World,Rd W W.heap.size 3 i H.length (BB H)->B<=W.heap.size->Qk 219 #[.agg #[Qi R,Qi c,i],Qi (r.blk:Nat)] W λe a=>∃q n o,e=.returned (.tuple #[.string ⟨p.t.toArray⟩,.agg #[Qi R,Qi ((c+1:Nat):Int),.slice q n o],Qi 0])/\a.ownsRow B 271 3 (.slice q n o) (G9 r.blk c H).length (BB (G9 r.blk c H))/\Qb W a):=λW h d0=>(ZC W R c i H h c9 hc b6 r.blk hb).mono (by
  rintro e a ⟨c8,⟨y,hy,e2,v,rfl,i⟩|⟨b5,he⟩⟩
  ·obtain⟨p2,J,e3⟩:=a5 y hy
   rw[e2,N] at J;injection J with J
   obtain⟨q,o,rfl,-,-⟩:=Rd.isSlice (Rd.own i);exact⟨q,_,o,by rw[e3,J],by rw[show(G9 r.blk c H).length=H.length by simp[G9]];exact EY i d0,c8⟩
  ·rw[b8] at b5
   cases b5)
 have c5:=Aa (λ(W:World) h=>OO W b l T E R c i C D h);have d3:=Aa t;have f5:=t.ne;have c4:=Aa (λ(W:World) v h=>zyG W B b l T E R (c+1) v C D j (G9 r.blk c H) r V h a6 p N b9 hn b3 c1 c2);obtain⟨st,f7,n,b0,f8,e9,f9⟩:=r
 dsimp only at*
 have f1:=Aj t.dk;have f6:=Aj t.rd;obtain⟨d,b4⟩:=Qe w.heap.size;have Q:=Ay (Ay (Ag w.heap.size w) (.cells #[Qp b 0,Qi 0] 196)) (.cells #[.string ⟨#[]⟩,Qi 0] 44);have Z:=Aa (Bb (.cells #[.string ⟨#[]⟩,Qi 0] 44) (Am w (.cells #[Qp b 0,Qi 0] 196) d b4.symm));have c7:=Aa (Am (w.alloc (.cells #[Qp b 0,Qi 0] 196)) (.cells #[.string ⟨#[]⟩,Qi 0] 44) (d+1) (by simp[b4]))
 have u:=Aa (t.up Q);have a2:=Aa Q;unfold GJ at*
 clear t Q d3 b6 b8 a5 a6 N b9 hn b3 c1 c2;have d4:=Aa d8
 go_enter Tryz.func161,Tryz.ntmps161
 go_upto_region 1 with(fail)
 generalize(w.alloc _).alloc _=W at*
 have d2:=Aa (λa3 (h:Qb W a3)=>X.out a3 (Rd.own (Cd u.hv h)) (BU d4 (BU a2.size h.size)));clear X
 have d7:Hid (∀a:World,Qb W a->Qb W a/\Qc a d 0 (Qp b 0)/\Qc a d 1 (Qi 0)/\Qc a b 2 (Qi (R:Nat))/\Qc a b 3 (Qi (c:Nat))/\Qc a b 4 i/\Qc a l 3 (Qi (b0:Nat))):=λa h=>by
  have a4:=Al h Z;have L:=Al h u.dk;have hr:=Al h u.rd;exact⟨h,(Ae a4 0).trans rfl,(Ae a4 1).trans rfl,(Ae L 2).trans rfl,(Ae L 3).trans rfl,(Ae L 4).trans rfl,(Ae hr 3).trans rfl⟩
 have f0:Qb W W:=Ag _ _
 go_region_held3 (λa=>Qb W a/\Qc a d 0 (Qp b 0)/\Qc a d 1 (Qi 0)/\Qc a b 2 (Qi (R:Nat))/\Qc a b 3 (Qi (c:Nat))/\Qc a b 4 i/\Qc a l 3 (Qi (b0:Nat)))
  ((refine d7 _ ?_;first|assumption|exact Cq Q3|exact Bh Q3|exact A9 Q3 (Bh Q3)|exact Ay (Bh Q3) _|exact Ay Q3 _|(refine Ce (Ce (Ce ?_ ?_ _ _) ?_ _ _) ?_ _ _<;>first|exact Bh Q3|exact Af _|exact e0.size|exact O.size|exact Ay O _|exact O)|fail))
  ((first
    |(go_at_call 220
      refine(c5 _ (Al (Bh Q3) u.dk)).mono ?_
      rintro e m ⟨rfl,b2⟩;have e0:Qb W m:=A9 b2 (Bh Q3))
    |(go_at_call 219
      refine(d2 _ (Bh Q3)).mono ?_
      rintro e g ⟨q2,n2,o,rfl,b7,s⟩;have a9:=Aa b7;clear b7;have O:Qb W g:=A9 s (Bh Q3)
      first
       |(have f:=Al s (Am m (.cells #[Qi 0,Qi 0,.slice none 0 0] 36) _ rfl)
         have z0:Qc g m.heap.size 0 (Qi 0):=(Ae f 0).trans rfl;have z1:Qc g m.heap.size 1 (Qi 0):=(Ae f 1).trans rfl;have z2:Qc g m.heap.size 2 (.slice none 0 0):=(Ae f 2).trans rfl;have g0:g.frozen? ⟨m.heap.size,0,none⟩=false:=Ah f 0;have g1:g.frozen? ⟨m.heap.size,1,none⟩=false:=Ah f 1;have g2:g.frozen? ⟨m.heap.size,2,none⟩=false:=Ah f 2)
       |(have f:=Al s (Al b2 (Am W.drew (.cells #[Qi 0,Qi 0,.slice none 0 0] 36) _ rfl))
         have z0:Qc g W.heap.size 0 (Qi 0):=(Ae f 0).trans rfl;have z1:Qc g W.heap.size 1 (Qi 0):=(Ae f 1).trans rfl;have z2:Qc g W.heap.size 2 (.slice none 0 0):=(Ae f 2).trans rfl;have g0:g.frozen? ⟨W.heap.size,0,none⟩=false:=Ah f 0;have g1:g.frozen? ⟨W.heap.size,1,none⟩=false:=Ah f 1;have g2:g.frozen? ⟨W.heap.size,2,none⟩=false:=Ah f 2)
       |skip)
    |fail))
 all_goals(
  rename_i d9
  have s:=Bh d9;have G:=Al s u.dk;have f2:=Ah G 2;have f3:=Ah G 3;have f4:=Ah G 4;clear G
  go_upto_region 6 with(fail)
  have e1:((c:Int)+1)=((c+1:Nat):Int):=rfl;rw[e1];refine zA4 (P:=λc3=>Code.wp _ _ _ _ (((c3.setCell ⟨b,2,none⟩ (Qi (R:Nat))).setCell ⟨b,3,none⟩ (Qi ((c+1:Nat):Int))).setCell ⟨b,4,none⟩ (.slice q2 n2 o))) s (by first|exact zqg a9 f Q5 _ _ _|exact Cd a9 (Ay (Ag _ _) _)) ?_
  intro Y A a7;have b1:=Dt.shelf (c':=c+1) (u.up A) a7;have I:=(((Ab.refl b Y).set 2 (Qi (R:Nat))).set 3 (Qi ((c+1:Nat):Int))).set 4 (.slice q2 n2 o);have e4:=Aa b1;have d5:Hid (BD b l w _):=(BD.of (A9 A a2)).trans (BD.onlyA I);have a8:=Aa (I.other (Al A Z) Q0)
  have d6:=Aa (I.other (Al A c7) Q0)
  clear b1 I A a7 s f2 f3 f4;generalize((Y.setCell _ _).setCell _ _).setCell _ _=K at*
  have a0:Qc K d 0 (Qp b 0):=(Ae a8 0).trans rfl;have a1:Qc K d 1 (Qi 0):=(Ae a8 1).trans rfl
  go_wp2_with fail
  refine(c4 K _ e4).mono ?_;rintro e S ⟨U,F,M,c0⟩;obtain⟨e8,k,x,he⟩:=M.form;subst he
  dsimp only
  have c6:=Aa M;have e7:=Aa c0;have e5:=Aa (d5.trans (BD.onlyB U));have z:=Aa (U.other d6 Q0)
  clear U M c0 a0 a1;have z0:Qc S (d+1) 0 (.string ⟨#[]⟩):=(Ae z 0).trans rfl;have z1:Qc S (d+1) 1 (Qi 0):=(Ae z 1).trans rfl;have g0:=Ah z 0;have g1:=Ah z 1
  go_wp2_with fail
  have d1:=Ak (Ak z 0 (.string ⟨x⟩)) 1 (Qi (k:Nat));have e6:=((Ab.refl (d+1) S).set 0 (.string ⟨x⟩)).set 1 (Qi (k:Nat));exact BV (M7 (p:=3) (q:=2) rfl _ _ _ ⟨d+1,0,none⟩ _ rfl (JO _ _ _ _ d1)) rfl ⟨(e5.setNew (show w.heap.size<=d+1 by omega) 0 (.string ⟨x⟩)).setNew (show w.heap.size<=d+1 by omega) 1 (Qi (k:Nat)),_,F,c6,e7.reply e6 z Q0 Q0⟩)
def XJ(a:List Ai)(r:BF):Ending:=.returned (.tuple #[.bool true,Hz (if(Bi a).length<r.off+r.n then 8 else 0) (IY (Bi a) r.off r.n)])
def PN:Ending:=.returned (.tuple #[.bool false,Hz 0 []])
def II(r:BF):Nat:=3*(r.last-r.blk)+(4-r.st)
def Ej(b:List Ai)(r:BF)(e:Ending)(a:BF):Prop :=
 (e=XJ b r/\a=DD)\/(e=PN/\BA b a/\a.off=r.off/\a.n=r.n/\II a < II r)
theorem Ej.form{a:List Ai}{r b:BF}(h:Ej a r e b):∃(d:Bool)(k:Nat)(x:Array UInt8),e=.returned (.tuple #[.bool d,.agg #[.string ⟨x⟩,Qi (k:Nat)]]):=by
 rcases h with⟨h,-⟩|⟨h,-⟩<;>exact⟨_,_,_,h⟩
theorem Ej.ok{a:List Ai}{r b:BF}(h:Ej a r e b):Ph a b:=by
 rcases h with⟨-,h⟩|⟨-,h,-⟩
 ·exact .inl h
 ·exact .inr h
theorem BA.at_{a:List Ai}{r:BF}(h:BA a r):∃p,a[r.blk]?=some p :=
 ⟨_,Az (by have:=h.last.1;have:=h.bl;omega)⟩
theorem BA.bounds{a:List Ai}{r:BF}(h:BA a r)(b:Bz a){p:Ai}(g:a[r.blk]?=some p):r.off<=100000/\r.n<=1000000/\r.got.length<=100000/\r.off-BZ a r.blk<=p.t.length/\r.last<=100000/\r.blk<=1000000:=by
 have i:=b.len;have j:=b.few;have k:=h.off;have l:=h.last.1;have m:=h.bl;have c:=OV a r.blk;have d:=ZR (Bi a) r.off r.n (BZ a r.blk) c;rw[<-h.got] at d;obtain⟨f,⟨-,-,n⟩,o⟩:=h.first;have e:=RP a (show f+1<=r.blk+1 by omega)
 rw[RN g] at e;exact⟨Q0,h.n2,Q0,Q0,Q0,Q0⟩
theorem zsX{a:List Ai}{r:BF}{p:Ai}(h:BA a r)(b:a[r.blk]?=some p):Pn a r p.t=Lc (Bi a) r.off r.n (BZ a (r.blk+1)):=by
 unfold Pn;rw[h.got,zxR b]
theorem znT{a:List Ai}{r d:BF}{p:Ai}(h:BA a r)(k:r.st<=3)(c:a[r.blk]?=some p)(g:Fe a r p.t e d):Ej a r e d:=by
 rcases g with⟨b,rfl,rfl⟩|⟨b,rfl,rfl⟩
 ·refine .inl ⟨?_,rfl⟩
  unfold XJ;rw[zsX h c,b,zxJ h.last h.off h.n1]
 ·have l:=h.bl
  obtain⟨f,i,j⟩:=h.first;refine .inr ⟨rfl,⟨Af _,by show 1<=3;omega,h.off,h.n1,h.n2,⟨f,i,Nat.le_succ_of_le j⟩,by show r.blk+1<=r.last;omega,h.last,zsX h c,λ_=>rfl,λe=>by cases e⟩,rfl,rfl,?_⟩
  show 3*(r.last-(r.blk+1))+(4-1)<3*(r.last-r.blk)+(4-r.st)
  omega
theorem ztX{a:List Ai}{r:BF}(h:BA a r)(b:r.st=1):Ej a r PN ⟨2,r.off,r.n,r.blk,r.last,r.got,r.text⟩:=by
 refine .inr ⟨rfl,⟨by show 1<=2;omega,by show 2<=3;omega,h.off,h.n1,h.n2,h.first,h.bl,h.last,h.got,λ_=>h.text Q0,λe=>by cases e⟩,rfl,rfl,?_⟩
 show 3*(r.last-r.blk)+(4-2)<3*(r.last-r.blk)+(4-r.st)
 omega
theorem zuo{b:List Ai}{r:BF}{p:Ai}(h:BA b r)(d:r.st=2)(c:b[r.blk]?=some p):Ej b r PN ⟨3,r.off,r.n,r.blk,r.last,r.got,p.t⟩:=by
 refine .inr ⟨rfl,⟨by show 1<=3;omega,Af _,h.off,h.n1,h.n2,h.first,h.bl,h.last,h.got,λe=>absurd rfl e,λ_ f a=>?_⟩,rfl,rfl,?_⟩
 ·dsimp only at a |-
  rw[c] at a;injection a with a
  rw[a]
 ·show 3*(r.last-r.blk)+(4-3)<3*(r.last-r.blk)+(4-r.st)
  omega
structure Gz(T:List UInt8)(ps:List Ai):Prop where
 size:T.length<=1000000
 ix:Bz ps
 at_:∀(k:Nat)(p:Ai),ps[k]?=some p->p.t≠[]/\Gs p.t<=p.room/\BC T p.at0 (Fm p.t)
