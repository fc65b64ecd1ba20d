import Derived.Test.YtoejfkeofbdalaaGreatDoorM37
import Derived.Test.YtoejfkeofbdalaaGreatDoorM39
import Derived.Test.YtoejfkeofbdalaaGreatDoorM41
import Derived.Test.YtoejfkeofbdalaaGreatDoorM38
set_option linter.unusedVariables false
set_option maxRecDepth 100000
set_option maxHeartbeats 8000000
namespace Go.Proofs.YtoejfkeofbdalaaGreatDoor
open Go.RowKit
abbrev SqAt (w:World) (qb:Nat) (A:ByteArray) (o:Nat) (v:Value):Prop:=w.heap[qb]?=some (Obj.cells #[.string A,.int .i64 (o:Nat),v] 110 (0,0))
theorem SqAt.only {w w':World} {qb k o:Nat} {A:ByteArray} {v:Value} (h:SqAt w qb A o v) (ho:Only k w w') (hne:qb≠k):SqAt w' qb A o v:=ho.other h hne
theorem Only.far {k q i:Nat} {w a:World} (h:Only k w a) (hq:w.heap.size≤q) (u:Value):Only k w (a.setCell ⟨q,i,none⟩ u) :=
  ⟨h.os,h.tape,h.output,by have:=h.size;simpa [World.setCell] using this,fun j hj hne=>(Below.heap_setCell _ _ _ _ (by show j≠q;omega)).trans (h.block j hj hne)⟩
theorem zuk (w:World) (k:Nat) (s:ByteArray) (a room:Nat) (t:List UInt8) (hE:zaA w k s a (.slice none 0 0) (.slice none 0 0) (.int .i64 0)) (hs:s.size≤1000000) (h0:t≠[]) (hlen:zaU t≤room) (hr:room≤360) (h:Lies s.data.toList a (zc2 t)) :
    Calls Tryz.prog 259 #[.pointer (some ⟨k,0,none⟩),.int .i64 (room:Nat)] w fun e w'=>e=.returned (.tuple #[.string ⟨t.toArray⟩,.int .u32 (zby t:Nat)])∧Only k w w'∧∃ tv cv cd,zaA w' k s (a+(zc2 t).length) tv cv cd:=by
  have hsl:s.data.toList.length=s.size:=by simp
  have hpn:za5 t≠[]:=zkh h0;have hpl:(za5 t).length≤room:=by rw[zcC];exact hlen
  obtain⟨b,ax,px,hB⟩:=zoc s.data.toList a t (za5 t) hpn (by omega) h
  have hex:=zjS t.length t 0 0 (Nat.le_refl _) (.inl rfl);have htl:t.length≤51*room:=by have:=zjQ t;omega
  have htop:px (zbk (za5 t)).length=a+(zc2 t).length:=hB.top;have hsm:=zjT (za5 t);have hso:0<(zbk (za5 t)).length:=by unfold zbk;simp
  have hslt:=zrL (za5 t) hpn;have hlast:=zp0 (za5 t) hpn;have hA0:0<(zai (za5 t)).length:=List.length_pos_iff.2 (zb1 hpn);have hA2:=zaI (za5 t);have hc:=zdE t;have ho:zfI (za5 t)<65536:=by have:=zhL (za5 t) hpn;omega
  generalize hp:za5 t=p at hpn hpl hB hex htop hsm hso hslt hlast hA0 hA2 ho
  have CU:Hid (∀ W,Calls Tryz.prog 284 #[.string s,.int .i64 ((a+96:Nat):Int)] W fun e w'=>e=.returned (.tuple #[.string (zan (zai p)),.int .i64 (b:Nat),.int .i64 0])∧Below W.heap.size W w'):=fun W=>by
    have:=zry W s (a+96) hs (by have:=hB.fit0;omega)
    rw[hB.un] at this;exact this
  have C48:Hid (∀ W tv cv cd,zaA W k s a tv cv cd→Calls Tryz.prog 283 #[.pointer (some ⟨k,0,none⟩),.int .i64 48] W fun e w'=>e=.returned (.int .i64 54156738319193)∧zaA w' k s (a+48) tv cv cd∧Only k W w'):=fun W tv cv cd hW=>zc4 W k s a 48 54156738319193 _ _ _ hW (by omega) (by omega) (by have:=hB.fit0;omega) hB.m48
  have C32:Hid (∀ W tv cv cd,zaA W k s (a+48) tv cv cd→Calls Tryz.prog 283 #[.pointer (some ⟨k,0,none⟩),.int .i64 32] W fun e w'=>e=.returned (.int .i64 (zby t:Nat))∧zaA w' k s (a+80) tv cv cd∧Only k W w'):=fun W tv cv cd hW=>zc4 W k s (a+48) 32 _ _ _ _ hW (by omega) (by omega) (by have:=hB.fit0;omega) hB.s32
  have C16:Hid (∀ W tv cv cd,zaA W k s (a+80) tv cv cd→Calls Tryz.prog 283 #[.pointer (some ⟨k,0,none⟩),.int .i64 16] W fun e w'=>e=.returned (.int .i64 (zfI p:Nat))∧zaA w' k s (a+96) tv cv cd∧Only k W w'):=fun W tv cv cd hW=>zc4 W k s (a+80) 16 _ _ _ _ hW (by omega) (by omega) (by have:=hB.fit0;omega) hB.o16
  obtain⟨n,hn⟩:∃ n,(zai p).length+2=n:=⟨_,rfl⟩;obtain⟨M,hM⟩:∃ M,(zbk p).length=M:=⟨_,rfl⟩;obtain⟨G,hG⟩:∃ G,zbX M=G:=⟨_,rfl⟩;rw[hM,hG,hn] at hB;rw[hM] at htop hsm hso;have hG1:0<G∧M≤10*G∧10*G<M+10:=by rw[←hG];simp only[zbX];omega
  have CH:Hid (∀ W,zaA W k s b (.slice none 0 0) (.slice none 0 0) (.int .i64 (n:Nat))→Calls Tryz.prog 286 #[.pointer (some ⟨k,0,none⟩)] W fun e w'=>e=.returned (.tuple #[])∧Only k W w'∧∃ tv cv L,zaA w' k s (ax 2) tv cv (.int .i64 (n:Nat))∧OwnInts w' W.heap.size cv (ints (zal (zbk p) n))∧SlOwn w' W.heap.size tv L∧L.map (·.2)=(List.range 2).map fun i=>ints (za6 (zbk p) n i)):=fun W hW =>
    zrQ W k s b b G n (zal (zbk p) n) (za6 (zbk p) n) ax hW (by omega) (by omega) (by omega) hB.n3 hB.n15 (by omega) (by omega) (by have:=hB.fit1;omega) hB.sel (fun i=>by have:=hB.axle i;omega) (fun i hi=>⟨(hB.tabs i hi).1,(hB.tabs i hi).2.1⟩)
  have CS:Hid (∀ W base tv cv L,zaA W k s (ax 2) tv cv (.int .i64 (n:Nat))→k<base→base≤W.heap.size→OwnInts W base cv (ints (zal (zbk p) n))→SlOwn W base tv L→L.map (·.2)=(List.range 2).map (fun i=>ints (za6 (zbk p) n i))→Calls Tryz.prog 287 #[.pointer (some ⟨k,0,none⟩)] W fun e w'=>∃ sv,e=.returned sv∧Only k W w'∧zaA w' k s (px M) tv cv (.int .i64 (n:Nat))∧OwnInts w' W.heap.size sv (ints (zbk p))):=fun W base tv cv L hW hkb hb hC hT hL =>
    zof W k base s n G M tv cv L (zal (zbk p) n) (zbk p) (za6 (zbk p) n) px (by rw[hB.ax2];exact hW) (by omega) hkb hb hC hT hL (fun x hx=>by obtain⟨j,-,rfl⟩:=List.mem_map.1 hx;exact zmh _ _ j) (by rw[←hG,←hM];simp[zal]) (fun i hi=>(hB.tabs i hi).2.1) hM hso hG1.2.1 hG1.2.2 (by omega) (by omega) (by omega)
      (fun q hq=>by have:=hlast q (by rw[hM];exact hq);rw[hM] at this;rw[←this];omega) (fun q hq=>by rw[←hn];refine hslt _ ?_;rw[List.getD_eq_getElem?_getD,List.getElem?_eq_getElem (by rw[hM];exact hq)];exact List.getElem_mem _) (fun q hq=>hB.word q (by rw[hM];exact hq))
  have CC:Hid (∀ W v,Calls Tryz.prog 57 #[.agg #[.string (zan (zai p)),.int .i64 (zfI p:Nat),v]] W fun e w'=>e=.returned (.int .i64 (n:Nat))∧Below W.heap.size W w'):=fun W v=>by
    have:=zkC (zan (zai p)) (zfI p:Nat) v W (by rw[zas];omega)
    rw[zas,hn] at this;exact this
  have CR:Hid (∀ W q c,IsInts W W.heap.size (.slice q M c) (ints (zbk p))→Calls Tryz.prog 288 #[.agg #[.string (zan (zai p)),.int .i64 (zfI p:Nat),.slice q M c],.int .i64 (room:Nat)] W fun e w'=>e=.returned (.tuple #[.string (zan p),.int .i64 0])∧Below W.heap.size W w'):=fun W q c hi=>zoX W p room M c q hpn (by omega) hpl (by omega) hM hi
  have CK:Hid (∀ W,Calls Tryz.prog 290 #[.string (zan p),.int .i64 ((52*room:Nat):Int)] W fun e w'=>e=.returned (.tuple #[.string ⟨t.toArray⟩,.int .i64 0])∧Below W.heap.size W w'):=fun W=>by
    have:=zoV (zan p) ((52*room:Nat):Int) W (by rw[zas];omega) (by rw[zax,hex.1];omega) (by omega) (by rw[zax];exact hex.2)
    rw[zax,hex.1] at this;exact this
  have HTOP:=Lib.hid htop;have HM:=Lib.hid hM;obtain⟨A,hA⟩:∃ A,zan (zai p)=A:=⟨_,rfl⟩;obtain⟨PB,hPB⟩:∃ A,zan p=A:=⟨_,rfl⟩;obtain⟨TB,hTB⟩:∃ A:ByteArray,(⟨t.toArray⟩:ByteArray)=A:=⟨_,rfl⟩;obtain⟨o,hoe⟩:∃ o,zfI p=o:=⟨_,rfl⟩;obtain⟨c,hce⟩:∃ c,zby t=c:=⟨_,rfl⟩;obtain⟨m48,hm48⟩:∃ m:Int,54156738319193=m:=⟨_,rfl⟩;obtain⟨b1,hb1⟩:∃ x,a+48=x:=⟨_,rfl⟩;obtain⟨b2,hb2⟩:∃ x,a+80=x:=⟨_,rfl⟩;obtain⟨b3,hb3⟩:∃ x,a+96=x:=⟨_,rfl⟩;obtain⟨r52,hr52⟩:∃ x,52*room=x:=⟨_,rfl⟩;have hbm:(m48 == (54156738319193:Int))=true:=by rw[←hm48];rfl
  have hwr:IntKind.i64.wrap (52*(room:Int))=(r52:Int):=by rw[IntWalk.i64_in _ (by omega)];omega
  have hwc:IntKind.u32.wrap (c:Int)=(c:Int):=by rw[hce] at hc;simp[IntKind.wrap,IntKind.signed,IntKind.bits];omega
  rw[hA] at CU CC CR;rw[hPB] at CR CK;rw[hTB] at CK ⊢;rw[hoe] at C16 CC CR;rw[hce] at C32 ⊢;rw[hm48] at C48;rw[hb1] at C48 C32;rw[hb2] at C32 C16;rw[hb3] at C16 CU;rw[hr52] at CK;have HE:=Lib.hid hE;have HKL:=Lib.hid (zab hE);have CM:=Lib.hid zgB;have CO:=Lib.hid zjV;clear hE hB hex htl htop hsm hso hslt hlast hA0 hA2 hc ho hp hn hM hG hG1 hA hPB hTB hoe hce hm48 hb1 hb2 hb3 hr52 hpn hpl hlen h h0 hsl
  go_enter Tryz.func259,Tryz.ntmps259
  go_wp2_with fail
  refine (C48.out _ _ _ _ HE.out).mono ?_;rintro e w1 ⟨rfl,hr,ho⟩;have HR1:=Lib.hid hr;have HO1:=Lib.hid ho;clear hr ho HE C48
  go_wp2_with fail
  refine (CM.out _ _).mono ?_;rintro e w2 ⟨rfl,rfl⟩
  go_wp2_with fail
  refine (C32.out _ _ _ _ HR1.out).mono ?_;rintro e w3 ⟨rfl,hr,ho⟩;have HR3:=Lib.hid hr;have HO3:=Lib.hid (HO1.out.trans ho);clear hr ho HR1 HO1 C32
  go_wp2_with fail
  refine (C16.out _ _ _ _ HR3.out).mono ?_;rintro e w4 ⟨rfl,hr,ho⟩;have HR4:=Lib.hid hr;have HO4:=Lib.hid (HO3.out.trans ho);clear hr ho HR3 HO3 C16
  go_upto_region 4 with (fail)
  obtain⟨qb,hqb⟩:∃ qb,w4.heap.size=qb:=⟨_,rfl⟩;have hba:=zk5 (Below.refl w4.heap.size w4) (.cells #[.string ⟨#[]⟩,.int .i64 (o:Nat),.slice none 0 0] 110);have HQ5:Hid (SqAt (w4.alloc (.cells #[.string ⟨#[]⟩,.int .i64 (o:Nat),.slice none 0 0] 110)) qb ⟨#[]⟩ o (.slice none 0 0)):=zae _ _ _ hqb.symm;have HR5:=Lib.hid (zah (.cells #[.string ⟨#[]⟩,.int .i64 (o:Nat),.slice none 0 0] 110) HR4.out);have HO5:=Lib.hid (HO4.out.trans (Only.of hba));have HNE:Hid (qb≠k):=by show _≠_;have:=zab HR4.out;omega
  have HWQ:Hid (w.heap.size≤qb):=by show _≤_;have:=HO4.out.size;omega
  rw[hqb];clear hba hqb HR4 HO4;generalize w4.alloc (.cells #[.string ⟨#[]⟩,.int .i64 (o:Nat),.slice none 0 0] 110)=W5 at *
  have k0:=(zaa HR5.out 0).trans rfl;have k1:=(zaa HR5.out 1).trans rfl;have kl:=zab HR5.out;have ql:=zab HQ5.out
  have HkW:Hid (∀ w':World,Below W5.heap.size W5 w'→Below W5.heap.size W5 w'∧w'.cell? ⟨k,0,none⟩=some (.string s)∧w'.cell? ⟨k,1,none⟩=some (.int .i64 (b3:Nat))):=fun w' h=>by
    have h2:=(h.block k (zab HR5.out)).trans HR5.out;exact⟨h,(zaa h2 0).trans rfl,(zaa h2 1).trans rfl⟩
  have hb5:Below W5.heap.size W5 W5:=Below.refl _ _
  go_region_held3 (fun w'=>Below W5.heap.size W5 w'∧w'.cell? ⟨k,0,none⟩=some (.string s)∧w'.cell? ⟨k,1,none⟩=some (.int .i64 (b3:Nat)))
    ((refine HkW.out _ ?_;first | assumption | exact zwd (by assumption) | exact zvS (by assumption) (And.left (by assumption)) | fail))
    ((go_at_call 284
      refine (CU.out _).mono ?_;rintro e w6 ⟨rfl,hB6⟩;have hW6:Below W5.heap.size W5 w6:=zvS hB6 (And.left (by assumption))))
  have HR6:Hid (zaA w6 k s b3 (.slice none 0 0) (.slice none 0 0) (.int .i64 0)):=(hW6.block k kl).trans HR5.out;have HQ6:Hid (SqAt w6 qb ⟨#[]⟩ o (.slice none 0 0)):=(hW6.block qb ql).trans HQ5.out;have HO6:=Lib.hid (HO5.out.trans (Only.of hW6));clear hB6 hW6 hb5 HkW k0 k1 kl ql HR5 HQ5 HO5 CU
  try clear hHeld
  go_wp2_with fail
  refine (zgE w6 k s b3 b _ _ _ HR6.out).mono ?_;rintro e w7 ⟨rfl,hr,ho⟩;have HR7:=Lib.hid hr;have HO7:=Lib.hid (HO6.out.trans ho);have HQ7:=Lib.hid (SqAt.only HQ6.out ho HNE.out);clear hr ho HR6 HO6 HQ6;have q0:=(zaa HQ7.out 0).trans rfl;have qf:=zac HQ7.out 0
  go_upto_region 7 with (fail)
  have hQ8:SqAt (w7.setCell ⟨qb,0,none⟩ (.string A)) qb A o (.slice none 0 0):=by
    have:=zaf HQ7.out 0 (.string A);unfold SqAt;simpa using this
  have HR8:Hid (zaA (w7.setCell ⟨qb,0,none⟩ (.string A)) k s b (.slice none 0 0) (.slice none 0 0) (.int .i64 0)):=(Below.heap_setCell _ _ _ _ (by show k≠qb;exact fun e=>HNE.out e.symm)).trans HR7.out
  have HO8:=Lib.hid (HO7.out.far (q:=qb) (i:=0) HWQ.out (.string A));have HQ8:=Lib.hid hQ8;clear hQ8 HR7 HQ7 HO7 q0 qf;generalize w7.setCell ⟨qb,0,none⟩ (.string A)=W8 at *
  have q0:=(zaa HQ8.out 0).trans rfl;have q1:=(zaa HQ8.out 1).trans rfl;have q2:=(zaa HQ8.out 2).trans rfl
  go_wp2_with fail
  refine (CC.out _ _).mono ?_;rintro e w9 ⟨rfl,hB9⟩;have HR9:=Lib.hid ((hB9.block k (zab HR8.out)).trans HR8.out);have HQ9:Hid (SqAt w9 qb A o (.slice none 0 0)):=(hB9.block qb (zab HQ8.out)).trans HQ8.out;have HO9:=Lib.hid (HO8.out.trans (Only.of hB9));clear hB9 HR8 HQ8 HO8 q0 q1 q2 CC;have k4:=(zaa HR9.out 4).trans rfl;have f4:=zac HR9.out 4
  go_upto_region 8 with (fail)
  have hR10:zaA (w9.setCell ⟨k,4,none⟩ (.int .i64 (n:Nat))) k s b (.slice none 0 0) (.slice none 0 0) (.int .i64 (n:Nat)):=by
    have:=zaf HR9.out 4 (.int .i64 ((n:Nat):Int));unfold zaA;simpa using this
  have ho10:=(Only.refl k w9).set 4 (.int .i64 ((n:Nat):Int));have HQ10:=Lib.hid (SqAt.only HQ9.out ho10 HNE.out);have HO10:=Lib.hid (HO9.out.trans ho10);have HR10:=Lib.hid hR10;clear hR10 ho10 HR9 HQ9 HO9 k4 f4;generalize w9.setCell ⟨k,4,none⟩ (.int .i64 ((n:Nat):Int))=W10 at *
  go_wp2_with fail
  refine (CH.out _ HR10.out).mono ?_;rintro e w11 ⟨rfl,ho,tv,cv,L,hr,hc,ht,hl⟩;have HR11:=Lib.hid hr;have HQ11:=Lib.hid (SqAt.only HQ10.out ho HNE.out);have HO11:=Lib.hid (HO10.out.trans ho);have HC11:=Lib.hid hc;have HT11:=Lib.hid ht;have HL11:=Lib.hid hl;have hzs:=ho.size;have hkz:=zab HR10.out;clear hr ho hc ht hl HQ10 HO10 CH
  go_wp2_with fail
  refine (CS.out w11 W10.heap.size tv cv L HR11.out hkz hzs HC11.out HT11.out HL11.out).mono ?_;rintro e w12 ⟨sv,rfl,ho,hr,hs2⟩;have HR12:=Lib.hid hr;have HQ12:=Lib.hid (SqAt.only HQ11.out ho HNE.out);have HO12:=Lib.hid (HO11.out.trans ho);obtain⟨sq,sc,rfl⟩:=hs2.shape;have hml:(ints (zbk p)).length=M:=by rw[zad,HM.out]
  rw[hml] at hs2 ⊢;have HS12:=Lib.hid hs2;have HQL:Hid (qb<w11.heap.size):=zab HQ11.out;clear hr ho hs2 hml HR10 HR11 HQ11 HO11 HC11 HT11 HL11 CS hzs hkz;have q2:=(zaa HQ12.out 2).trans rfl;have qf:=zac HQ12.out 2
  go_upto_region 10 with (fail)
  have hQ13:SqAt (w12.setCell ⟨qb,2,none⟩ (.slice sq M sc)) qb A o (.slice sq M sc):=by
    have:=zaf HQ12.out 2 (.slice sq M sc);unfold SqAt;simpa using this
  have HR13:Hid (zaA (w12.setCell ⟨qb,2,none⟩ (.slice sq M sc)) k s (px M) tv cv (.int .i64 (n:Nat))):=(Below.heap_setCell _ _ _ _ (by show k≠qb;exact fun e=>HNE.out e.symm)).trans HR12.out
  have HO13:=Lib.hid (HO12.out.far (q:=qb) (i:=2) HWQ.out (.slice sq M sc));have HI13:Hid (IsInts (w12.setCell ⟨qb,2,none⟩ (.slice sq M sc)) (w12.setCell ⟨qb,2,none⟩ (.slice sq M sc)).heap.size (.slice sq M sc) (ints (zbk p))):=OwnInts.is (zau HS12.out ((Only.refl qb w12).set 2 (.slice sq M sc)) HQL.out);have HQ13:=Lib.hid hQ13;clear hQ13 HR12 HQ12 HO12 HS12 HQL q2 qf;generalize w12.setCell ⟨qb,2,none⟩ (.slice sq M sc)=W13 at *
  have q0:=(zaa HQ13.out 0).trans rfl;have q1:=(zaa HQ13.out 1).trans rfl;have q2:=(zaa HQ13.out 2).trans rfl
  go_wp2_with fail
  refine (CR.out _ _ _ HI13.out).mono ?_;rintro e w14 ⟨rfl,hB14⟩;have HR14:=Lib.hid ((hB14.block k (zab HR13.out)).trans HR13.out);have HO14:=Lib.hid (HO13.out.trans (Only.of hB14));clear hB14 HR13 HQ13 HO13 HI13 q0 q1 q2 CR
  go_wp2_with fail
  refine (CO.out _).mono ?_;rintro e w15 ⟨rfl,rfl⟩
  go_wp2_with fail
  refine (CK.out _).mono ?_;rintro e w16 ⟨rfl,hB16⟩;have HR16:=Lib.hid ((hB16.block k (zab HR14.out)).trans HR14.out);have HO16:=Lib.hid (HO14.out.trans (Only.of hB16));clear hB16 HR14 HO14 CK
  go_wp2_with fail
  refine (CO.out _).mono ?_;rintro e w17 ⟨rfl,rfl⟩
  go_wp2_with fail
  go_ret2
  exact⟨rfl,HO16.out,_,_,_,by rw[←HTOP.out];exact HR16.out⟩
theorem zoC (p q:Addr) (w:World) :
    CallsD Tryz.prog 258 #[.pointer (some p),.pointer (some q)] .returning w fun e u' w'=>e=.returned (.tuple #[])∧u' = .returning∧w'=w:=by
  refine callsD_of_wpS Tryz.func258 rfl fun c₀ cs hu=>?_;apply wpS_seq
  apply wpS_region
  simp[wpOpsS,go_sem,recoverD,hu,Tryz.ntmps258,Exit.thenS];refine wpS_of_wp ?_
  go_wp2
  cases c₀
  simp_all[bodyPostS,results,Tryz.results258]
theorem zqb (w:World) (s:ByteArray) (a room:Nat) (t:List UInt8) (hs:s.size≤1000000) (h0:t≠[]) (hlen:zaU t≤room) (hr1:1≤room) (hr:room≤360) (h:Lies s.data.toList a (zc2 t)) :
    Calls Tryz.prog 223 #[.string s,.int .i64 (a:Nat),.int .i64 (room:Nat)] w fun e w'=>e=.returned (.tuple #[.agg #[.string ⟨t.toArray⟩,.int .u32 (zby t:Nat),.int .i64 (a:Nat),.int .i64 ((a+(zc2 t).length:Nat):Int)],.int .i64 0])∧Below w.heap.size w w':=by
  have hle:=h.1;have hsl:s.data.toList.length=s.size:=by simp
  have htl:t.length≤51*room:=by have:=zjQ t;omega
  have CF:Hid (∀ W,Calls Tryz.prog 52 #[.int .i64 (room:Nat)] W fun e w'=>e=.returned (.bool true)∧W=w'):=fun W=>by
    have:=zkv (room:Nat) W;rw[decide_eq_true (by omega),decide_eq_true (by omega),Bool.true_and] at this
    exact this
  have CT:Hid (∀ W k,zaA W k s a (.slice none 0 0) (.slice none 0 0) (.int .i64 0)→Calls Tryz.prog 259 #[.pointer (some ⟨k,0,none⟩),.int .i64 (room:Nat)] W fun e w'=>e=.returned (.tuple #[.string ⟨t.toArray⟩,.int .u32 (zby t:Nat)])∧Only k W w'∧∃ tv cv cd,zaA w' k s (a+(zc2 t).length) tv cv cd):=fun W k hE=>zuk W k s a room t hE hs h0 hlen hr h;have CC:Hid (∀ W,Calls Tryz.prog 22 #[.string ⟨t.toArray⟩] W fun e w'=>e=.returned (.int .u32 (zby t:Nat))∧Below W.heap.size W w'):=fun W=>zf3 ⟨t.toArray⟩ (by show t.length≤_;omega) W
  have CM:=Lib.hid zgB;obtain⟨TB,hTB⟩:∃ A:ByteArray,(⟨t.toArray⟩:ByteArray)=A:=⟨_,rfl⟩;obtain⟨c,hce⟩:∃ c,zby t=c:=⟨_,rfl⟩;obtain⟨nx,hnx⟩:∃ x,a+(zc2 t).length=x:=⟨_,rfl⟩;rw[hTB,hce] at CT CC ⊢;rw[hnx] at CT ⊢;have d1:decide ((a:Int)<0)=false:=decide_eq_false (by omega)
  have hcc:((c:Int) == (c:Int))=true:=by simp
  obtain⟨rb,hrb⟩:∃ rb,w.heap.size=rb:=⟨_,rfl⟩;clear hle hsl htl h h0 hlen hTB hce hnx
  go_enter_defers Tryz.func223,Tryz.ntmps223
  go_wp2_with fail
  refine (CF.out _).mono ?_;rintro e w1 ⟨rfl,rfl⟩
  go_wp2_with fail
  have hX0:(((w.alloc (.cells #[.string ⟨#[]⟩,.int .u32 0,.int .i64 0,.int .i64 0] 87)).alloc (.cells #[.int .i64 0] 25)).alloc (.cells #[.string s,.int .i64 (a:Nat),.slice none 0 0,.slice none 0 0,.int .i64 0] 380)).heap[rb]?=some (.cells #[.string ⟨#[]⟩,.int .u32 0,.int .i64 0,.int .i64 0] 87 (0,0)):=zah _ (zah _ (zae _ _ _ hrb.symm));have hX1:(((w.alloc (.cells #[.string ⟨#[]⟩,.int .u32 0,.int .i64 0,.int .i64 0] 87)).alloc (.cells #[.int .i64 0] 25)).alloc (.cells #[.string s,.int .i64 (a:Nat),.slice none 0 0,.slice none 0 0,.int .i64 0] 380)).heap[rb+1]?=some (.cells #[.int .i64 0] 25 (0,0)):=zah _ (zae _ _ _ (by simp[hrb]))
  have hX2:zaA (((w.alloc (.cells #[.string ⟨#[]⟩,.int .u32 0,.int .i64 0,.int .i64 0] 87)).alloc (.cells #[.int .i64 0] 25)).alloc (.cells #[.string s,.int .i64 (a:Nat),.slice none 0 0,.slice none 0 0,.int .i64 0] 380)) (rb+1+1) s a (.slice none 0 0) (.slice none 0 0) (.int .i64 0):=zae _ _ _ (by simp[hrb])
  have hB0:Below w.heap.size w (((w.alloc (.cells #[.string ⟨#[]⟩,.int .u32 0,.int .i64 0,.int .i64 0] 87)).alloc (.cells #[.int .i64 0] 25)).alloc (.cells #[.string s,.int .i64 (a:Nat),.slice none 0 0,.slice none 0 0,.int .i64 0] 380)):=zk5 (zk5 (zk5 (Below.refl _ _) _) _) _;have HX0:=Lib.hid hX0;have HX1:=Lib.hid hX1;have HX2:=Lib.hid hX2;have HB0:=Lib.hid hB0;have HRB:=Lib.hid hrb;clear hX0 hX1 hX2 hB0 hrb;generalize ((w.alloc (.cells #[.string ⟨#[]⟩,.int .u32 0,.int .i64 0,.int .i64 0] 87)).alloc (.cells #[.int .i64 0] 25)).alloc (.cells #[.string s,.int .i64 (a:Nat),.slice none 0 0,.slice none 0 0,.int .i64 0] 380)=W0 at *
  refine (CT.out _ _ HX2.out).mono ?_;rintro e w1 ⟨rfl,ho,tv,cv,cd,hr⟩;have HR1:=Lib.hid hr;have HX01:Hid (w1.heap[rb]?=some (.cells #[.string ⟨#[]⟩,.int .u32 0,.int .i64 0,.int .i64 0] 87 (0,0))):=(ho.block rb (zab HX0.out) (by omega)).trans HX0.out
  have HX11:Hid (w1.heap[rb+1]?=some (.cells #[.int .i64 0] 25 (0,0))):=(ho.block (rb+1) (zab HX1.out) (by omega)).trans HX1.out
  have hb1:Below w.heap.size w w1:=HB0.out.trans ⟨ho.os,ho.tape,ho.output,ho.size,fun j hj=>ho.block j (by have:=HB0.out.size;omega) (by have:=HRB.out;omega)⟩
  have HB1:=Lib.hid hb1;clear hr ho hb1 HX0 HX1 HX2 HB0 CT CF
  go_wp2_with fail
  refine (CC.out _).mono ?_;rintro e w2 ⟨rfl,hB⟩;have HR2:=Lib.hid ((hB.block _ (zab HR1.out)).trans HR1.out);have HX02:=Lib.hid ((hB.block _ (zab HX01.out)).trans HX01.out);have HX12:=Lib.hid ((hB.block _ (zab HX11.out)).trans HX11.out);have HB2:=Lib.hid (zvS hB HB1.out);clear hB HR1 HX01 HX11 HB1 CC
  go_wp2_with fail
  refine (CM.out _ _).mono ?_;rintro e w3 ⟨rfl,rfl⟩;have k1:=(zaa HR2.out 1).trans rfl;have b0:=zaa HX02.out 0;have b1:=zaa HX02.out 1;have b2:=zaa HX02.out 2;have b3:=zaa HX02.out 3;have g0:=zac HX02.out;have e0:=zaa HX12.out 0;have h0:=zac HX12.out
  go_wp2_with fail
  have hY0:(((((w2.setCell ⟨rb,0,none⟩ (.string TB)).setCell ⟨rb,1,none⟩ (.int .u32 (c:Nat))).setCell ⟨rb,2,none⟩ (.int .i64 (a:Nat))).setCell ⟨rb,3,none⟩ (.int .i64 (nx:Nat))).setCell ⟨rb+1,0,none⟩ (.int .i64 0)).heap[rb]?=some (Obj.cells #[.string TB,.int .u32 (c:Nat),.int .i64 (a:Nat),.int .i64 (nx:Nat)] 87 (0,0)):=by
    have:=zaf (zaf (zaf (zaf HX02.out 0 (.string TB)) 1 (.int .u32 (c:Nat))) 2 (.int .i64 (a:Nat))) 3 (.int .i64 (nx:Nat));exact (Below.heap_setCell _ _ _ _ (by show rb≠rb+1;omega)).trans (by simpa using this)
  have hY1:(((((w2.setCell ⟨rb,0,none⟩ (.string TB)).setCell ⟨rb,1,none⟩ (.int .u32 (c:Nat))).setCell ⟨rb,2,none⟩ (.int .i64 (a:Nat))).setCell ⟨rb,3,none⟩ (.int .i64 (nx:Nat))).setCell ⟨rb+1,0,none⟩ (.int .i64 0)).heap[rb+1]?=some (Obj.cells #[.int .i64 0] 25 (0,0)):=by
    have hne:rb+1≠rb:=by omega
    have h1:=(Below.heap_setCell (((w2.setCell ⟨rb,0,none⟩ (.string TB)).setCell ⟨rb,1,none⟩ (.int .u32 (c:Nat))).setCell ⟨rb,2,none⟩ (.int .i64 (a:Nat))) ⟨rb,3,none⟩ (.int .i64 (nx:Nat)) (rb+1) hne).trans ((Below.heap_setCell ((w2.setCell ⟨rb,0,none⟩ (.string TB)).setCell ⟨rb,1,none⟩ (.int .u32 (c:Nat))) ⟨rb,2,none⟩ (.int .i64 (a:Nat)) (rb+1) hne).trans ((Below.heap_setCell (w2.setCell ⟨rb,0,none⟩ (.string TB)) ⟨rb,1,none⟩ (.int .u32 (c:Nat)) (rb+1) hne).trans ((Below.heap_setCell w2 ⟨rb,0,none⟩ (.string TB) (rb+1) hne).trans HX12.out)));have:=zaf h1 0 (.int .i64 0);simpa using this
  have hB9:Below w.heap.size w (((((w2.setCell ⟨rb,0,none⟩ (.string TB)).setCell ⟨rb,1,none⟩ (.int .u32 (c:Nat))).setCell ⟨rb,2,none⟩ (.int .i64 (a:Nat))).setCell ⟨rb,3,none⟩ (.int .i64 (nx:Nat))).setCell ⟨rb+1,0,none⟩ (.int .i64 0)):=by
    have hle:w.heap.size≤rb:=Nat.le_of_eq HRB.out;have hle1:w.heap.size≤rb+1:=by omega
    exact zwe (zwe (zwe (zwe (zwe HB2.out hle _ _) hle _ _) hle _ _) hle _ _) hle1 _ _
  have HB9:=Lib.hid hB9;clear hB9 HR2 HX02 HX12 HB2 k1 b0 b1 b2 b3 g0 e0 h0;generalize ((((w2.setCell ⟨rb,0,none⟩ (.string TB)).setCell ⟨rb,1,none⟩ (.int .u32 (c:Nat))).setCell ⟨rb,2,none⟩ (.int .i64 (a:Nat))).setCell ⟨rb,3,none⟩ (.int .i64 (nx:Nat))).setCell ⟨rb+1,0,none⟩ (.int .i64 0)=W9 at *
  have m0:=(zaa hY0 0).trans rfl;have m1:=(zaa hY0 1).trans rfl;have m2:=(zaa hY0 2).trans rfl;have m3:=(zaa hY0 3).trans rfl;have m4:=(zaa hY1 0).trans rfl;refine leaves_cons (f:=258) (args:=#[.pointer (some ⟨rb,0,none⟩),.pointer (some ⟨rb+1,0,none⟩)]) (by simp) (by simp[go_sem]) ?_
  refine (zoC _ _ _).mono ?_;rintro e u' w'' ⟨rfl,rfl,rfl⟩;simp[Leaves,settle,results,Tryz.results223,go_sem,m0,m1,m2,m3,m4];exact HB9.out
end Go.Proofs.YtoejfkeofbdalaaGreatDoor
