import Derived.Test.YtoejfkeofbdalaaGreatDoorM44
set_option linter.unusedVariables false
set_option maxRecDepth 100000
set_option maxHeartbeats 8000000
namespace Go.Proofs.YtoejfkeofbdalaaGreatDoor
open Go.RowKit
def zfU (L:List (List UInt8)):List Value:=L.map fun t=>.string ⟨t.toArray⟩
def IsStrs (w:World) (v:Value) (L:List (List UInt8)):Prop:=Rd w w.heap.size 1 v L.length (zfU L)
theorem IsStrs.up {w w':World} {v:Value} {L:List (List UInt8)} (h:IsStrs w v L) (hB:Below w.heap.size w w'):IsStrs w' v L:=Rd.up h hB
theorem IsStrs.shape {w:World} {v:Value} {L:List (List UInt8)} (h:IsStrs w v L):∃ q c,v=.slice q L.length c:=by
  obtain⟨q,c,h2,-⟩:=Rd.isSlice h;exact⟨q,c,h2⟩
theorem IsStrs.at {w:World} {n c:Nat} {q:Option Addr} {L:List (List UInt8)} (h:IsStrs w (.slice q n c) L) (j:Nat) (t:List UInt8) (ht:L[j]?=some t):∃ g o,q=some ⟨g,o,none⟩∧g<w.heap.size∧w.cell? ⟨g,o+j,none⟩=some (.string ⟨t.toArray⟩):=by
  have hj:=(List.getElem?_eq_some_iff.1 ht).1;obtain⟨g,o,hq,hg,hc⟩:=Rd.cellAt h (by omega)
  exact⟨g,o,hq,hg,hc j _ (by simp[zfU,ht])⟩
theorem zmZ (lv:Nat):B.Right (zek lv) 32:=⟨rfl,fun i h1 h2=>by
  have:(zek lv).length=4:=rfl;omega⟩
theorem zkS (lv:Nat):txt (B.slice (zek lv) 0 32)=⟨(zek lv).toArray⟩:=by
  unfold txt;rw[B.pack_slice (zmZ lv)]
def zcA (lv:Nat) (ts:List (List UInt8)):List (List Bool):=B.slice (zek lv) 0 32::ts.map zc2
theorem zon (lv:Nat) (ts:List (List UInt8)) (t:List UInt8):zcA lv (ts++[t])=zcA lv ts++[zc2 t]:=by simp[zcA]
theorem zjs (lv:Nat) (ts:List (List UInt8)) (z:Nat):(zcA lv ts++[zg4 z]).flatten=zbq lv ts z:=by
  unfold zcA zbq za3;simp
theorem znC {room:Nat} {t:List UInt8} (h:zdw room t):t.length≤51*room:=by
  have:=zjQ t;have:=h.2;omega
theorem zgN {t:List UInt8} {room:Nat} (h:zdw room t) (hr:room≤360):(zc2 t).length≤30000:=by
  have hl:=h.2;exact zlJ t (za5 t) (by rw[zcC];omega) (zkh h.1)
theorem zh0 {room:Nat} (hr:room≤360):∀ (ts:List (List UInt8)),(∀ t∈ts,zdw room t)→(za3 ts).length≤30000*ts.length
  | [],_=>by simp[za3]
  | t::ts,h=>by
    have h1:=zh0 hr ts (fun x hx=>h x (by simp[hx]))
    have h2:=zgN (h t (by simp)) hr
    have h3:za3 (t::ts)=zc2 t++za3 ts:=by simp[za3]
    rw[h3,List.length_append,List.length_cons];omega
theorem zjg (W:World) (c:UInt8):(convert 89 9 (.slice (some ⟨W.heap.size,0,none⟩) 1 1)).run Tryz.prog (W.alloc (.cells #[.int .u8 (c.toNat:Int)] 5)) = .ok (.string ⟨#[c]⟩) (W.alloc (.cells #[.int .u8 (c.toNat:Int)] 5)):=by
  have h:OwnBytes (W.alloc (.cells #[.int .u8 (c.toNat:Int)] 5)) W.heap.size (.slice (some ⟨W.heap.size,0,none⟩) 1 1) [c] :=
    ⟨by simp[byteCells],.inr ⟨W.heap.size,1,#[.int .u8 (c.toNat:Int)],rfl,Nat.le_refl _,zae _ _ _ rfl,Nat.le_refl _,by simp[maxLen],by simp,by simp[byteCells]⟩⟩
  exact zbb [c] h
theorem zk2 (w:World) (lv:Nat) (v:Value) (L:List (List UInt8)) (hv:IsStrs w v L) (h1:1≤lv) (h9:lv≤9) (hok:∀ t∈L,zdw (40*lv) t) (hN:L.length≤1000) :
    Calls Tryz.prog 16 #[.int .i64 (lv:Nat),v] w fun e w'=>e=.returned (.tuple #[.string (txt (zbq lv L (zhU (L.map zby)))),.int .i64 0])∧Below w.heap.size w w':=by
  have CEn:Hid (∀ t,t∈L→∀ W,Calls Tryz.prog 17 #[.string ⟨t.toArray⟩,.int .i64 ((lv*40:Nat):Int)] W fun e w'=>e=.returned (.tuple #[.agg #[.string (txt (zc2 t)),.int .i64 ((zc2 t).length:Nat)],.int .i64 0])∧Below W.heap.size W w'):=fun t ht W=>by
    have h:=hok t ht;have hl:=h.2;have h2:=znC h;have h3:=zgN h (by omega)
    have h4:0<t.length:=List.length_pos_iff.2 h.1;exact zhB ⟨t.toArray⟩ ((lv*40:Nat):Int) W h4 (by show t.length≤_;omega) (by omega) (by omega) (by show (zaU t:Int)≤_;omega) (by show (zc2 t).length≤_;omega)
  have CSu:Hid (∀ t,t∈L→∀ W,Calls Tryz.prog 22 #[.string ⟨t.toArray⟩] W fun e w'=>e=.returned (.int .u32 (zby t:Nat))∧Below W.heap.size W w'):=fun t ht W=>zf3 ⟨t.toArray⟩ (by have:=znC (hok t ht);show t.length≤_;omega) W
  have hbl:=zh0 (room:=40*lv) (by omega) L hok
  obtain⟨z,hz⟩:∃ z,zhU (L.map zby)=z:=⟨_,rfl⟩
  have hcl:∀ x∈L.map zby,x<4294967296:=fun x hx=>by
    obtain⟨t,-,rfl⟩:=List.mem_map.1 hx;exact zdE t
  have CAl:Hid (∀ W u,Rd W W.heap.size 1 u (L.map zby).length (zm5 (L.map zby))→Calls Tryz.prog 18 #[u] W fun e w'=>e=.returned (.int .u32 (z:Nat))∧z<4294967296∧W=w'):=fun W u h=>by
    have:=zjZ W u (L.map zby) h hcl (by rw[List.length_map];omega)
    rw[hz] at this;exact this
  have CP1:Hid (∀ W,Calls Tryz.prog 19 #[.agg #[.string ⟨#[]⟩,.int .i64 0],.int .u64 25779555029136,.int .i64 48] W fun e w'=>e=.returned (.tuple #[.agg #[.string (txt (B.low 25779555029136 48)),.int .i64 48],.int .i64 0])∧Below W.heap.size W w'):=fun W=>by
    have:=zg5 W 25779555029136 48 (B.low 25779555029136 48) rfl (by omega) (by omega)
    rw[B.length_low] at this;exact this
  have CP2:Hid (z<4294967296→∀ W,Calls Tryz.prog 19 #[.agg #[.string (txt (B.low 25779555029136 48)),.int .i64 48],.int .u64 (z:Nat),.int .i64 32] W fun e w'=>e=.returned (.tuple #[.agg #[.string (txt (zg4 z)),.int .i64 80],.int .i64 0])∧Below W.heap.size W w'):=fun hzl W=>by
    have:=ziT W (B.low 25779555029136 48) z 32 (zg4 z) rfl (by rw[B.length_low];omega) (by omega) (by omega)
    rw[B.length_low,zdg] at this;exact this
  obtain⟨M48,hM48⟩:∃ M,txt (B.low 25779555029136 48)=M:=⟨_,rfl⟩;obtain⟨ME,hME⟩:∃ M,txt (zg4 z)=M:=⟨_,rfl⟩;rw[hM48] at CP1 CP2;rw[hME] at CP2;have HME:=Lib.hid hME;obtain⟨GS,hGS⟩:∃ G,zbq lv L z=G:=⟨_,rfl⟩;have hGL:GS.length=112+(za3 L).length:=by rw[←hGS,zaS]
  have hGF:(zcA lv L++[zg4 z]).flatten=GS:=by rw[zjs,hGS]
  rw[hz,hGS];obtain⟨GT,hGT⟩:∃ G,txt GS=G:=⟨_,rfl⟩;rw[hGT];have HGT:=Lib.hid hGT;have HGL:=Lib.hid hGL;have HGF:=Lib.hid hGF;clear hM48 hME hcl hz hGS hGL hGF hGT;obtain⟨q,c,rfl⟩:=hv.shape;obtain⟨N,hNe⟩:∃ N,L.length=N:=⟨_,rfl⟩;rw[hNe] at hv hN hbl ⊢;have HV:=Lib.hid hv;have HN:=Lib.hid hNe;have HBL:=Lib.hid hbl;have wl1:IntKind.u8.wrap (lv:Int)=(lv:Int):=by simp[IntKind.wrap,IntKind.signed,IntKind.bits];omega
  have wl2:IntKind.u8.wrap (48+(lv:Int))=((48+lv:Nat):Int):=by simp[IntKind.wrap,IntKind.signed,IntKind.bits];omega
  have wl3:IntKind.i64.wrap ((lv:Int)*40)=((lv*40:Nat):Int):=by rw[IntWalk.i64_in _ (by omega)];omega
  have d1:decide ((lv:Int)<1)=false:=decide_eq_false (by omega)
  have d2:decide (9<(lv:Int))=false:=decide_eq_false (by omega)
  have hcv:(convert 89 9 (.slice (some ⟨w.heap.size,0,none⟩) 1 1)).run Tryz.prog (w.alloc (.cells #[.int .u8 (48+(lv:Int))] 5)) = .ok (.string ⟨#[UInt8.ofNat (48+lv)]⟩) (w.alloc (.cells #[.int .u8 (48+(lv:Int))] 5)):=by
    have h:=zjg w (UInt8.ofNat (48+lv));have e:((UInt8.ofNat (48+lv)).toNat:Int)=48+(lv:Int):=by rw[UInt8.toNat_ofNat'];omega
    rw[e] at h;exact h
  have hap:(⟨#[80,77,107]⟩:ByteArray)++⟨#[UInt8.ofNat (48+lv)]⟩=txt (B.slice (zek lv) 0 32):=by rw[zkS];rfl
  obtain⟨hb8,hhb8⟩:∃ b,UInt8.ofNat (48+lv)=b:=⟨_,rfl⟩;rw[hhb8] at hap hcv;clear hhb8;obtain⟨HT,hHT⟩:∃ HT,txt (B.slice (zek lv) 0 32)=HT:=⟨_,rfl⟩;rw[hHT] at hap;have HHT:=Lib.hid hHT;clear hv hNe hbl hok hHT
  go_enter Tryz.func16,Tryz.ntmps16
  go_wp2_with fail
  have hB2:=zk5 (zk5 (Below.refl w.heap.size w) (.cells #[.int .u8 (48+(lv:Int))] 5)) (.cells #[.string HT,.int .i64 32] 50)
  have hP2:((w.alloc (.cells #[.int .u8 (48+(lv:Int))] 5)).alloc (.cells #[.string HT,.int .i64 32] 50)).ownsRow w.heap.size 50 2 (.slice (some ⟨w.heap.size+1,0,none⟩) 1 1) 1 (zam ((zcA lv (L.take 0)).map zaC)):=by
    refine⟨by simp[zam,zcA],.inr ⟨w.heap.size+1,1,#[.string HT,.int .i64 32],rfl,Nat.le_succ _,zae _ _ _ (by simp),Nat.le_refl _,by simp[maxLen],by simp,?_⟩⟩
    simp[zam,zcA,zaC,HHT.out,B.length_slice]
  have HP:=Lib.hid hP2;have HB:=Lib.hid hB2;have HV0:Hid (∀ W,Below w.heap.size w W→IsStrs W (.slice q N c) L):=fun W h=>HV.out.up h;have HV2:=Lib.hid (HV.out.up hB2);clear hB2 hP2 HV hcv hap;generalize (w.alloc (.cells #[.int .u8 (48+(lv:Int))] 5)).alloc (.cells #[.string HT,.int .i64 32] 50)=W2 at *
  go_loopw [32,6,7] (fun kv lvv sv wr=>∃ k:Nat,k≤N∧kv=.int .i64 k∧(∃ lq lc,lvv=.slice lq (k+1) lc∧Hid (wr.ownsRow w.heap.size 50 2 lvv (k+1) (zam ((zcA lv (L.take k)).map zaC))))∧(∃ sq sc,sv=.slice sq k sc∧Hid (wr.ownsRow w.heap.size 53 1 sv k (zm5 ((L.take k).map zby))))∧Hid (IsStrs wr (.slice q N c) L)∧Hid (Below w.heap.size w wr)) (fun kv _ _ _=>N+1-(intOf kv).toNat)
  case atStart=>exact⟨0,by omega,rfl,⟨_,_,rfl,HP⟩,⟨_,_,rfl,Lib.hid (World.ownsRow_nil _ _ _ _)⟩,HV2,HB⟩
  case round =>
    clear HP HB HV2;obtain⟨k,hk,rfl,⟨lq,lc,rfl,HP⟩,⟨sq,sc,rfl,HS⟩,HV,HB⟩:=hrel
    by_cases hlt:k<N
    · have hd:decide ((k:Int)<(N:Int))=true:=decide_eq_true (by omega)
      have hkL:k<L.length:=by rw[HN.out];exact hlt
      obtain⟨t,ht⟩:∃ t,L[k]?=some t:=⟨_,List.getElem?_eq_getElem hkL⟩
      have htm:t∈L:=by
        obtain⟨h2,h3⟩:=List.getElem?_eq_some_iff.1 ht;rw[←h3];exact List.getElem_mem h2
      have htk:L.take (k+1)=L.take k++[t]:=by
        obtain⟨h2,h3⟩:=List.getElem?_eq_some_iff.1 ht;rw[List.take_succ_eq_append_getElem h2,h3]
      obtain⟨g,o,hq,hg,hc⟩:=HV.out.at k t ht;have CE:=Lib.hid (CEn.out t htm);have CS:=Lib.hid (CSu.out t htm);subst hq;obtain⟨T,hT⟩:∃ T:ByteArray,(⟨t.toArray⟩:ByteArray)=T:=⟨_,rfl⟩;obtain⟨ET,hET⟩:∃ ET,txt (zc2 t)=ET:=⟨_,rfl⟩;obtain⟨el,hel⟩:∃ el,(zc2 t).length=el:=⟨_,rfl⟩;obtain⟨cs,hcs⟩:∃ cs,zby t=cs:=⟨_,rfl⟩;rw[hT] at CE CS hc;rw[hET,hel] at CE;rw[hcs] at CS;have HET:=Lib.hid hET;have HEL:=Lib.hid hel;have HCS:=Lib.hid hcs;have HTK:=Lib.hid htk;have hki:(k:Int)<(N:Int):=by omega
      have hk0:(0:Int)≤(k:Int):=by omega
      clear hkL ht htm htk hT hET hel hcs CEn CSu
      go_wp2_with fail
      refine (CE.out _).mono ?_;rintro e w5 ⟨rfl,hB5⟩;have HP5:=Lib.hid (zag HP.out hB5);have HS5:=Lib.hid (zag HS.out hB5);have HV5:=Lib.hid (HV.out.up hB5);have HB5:=Lib.hid (zvS hB5 HB.out);obtain⟨z5,hz5⟩:∃ z5,w5.heap.size=z5:=⟨_,rfl⟩;have hbz:=HB5.out.size;have HA5:=Lib.hid (zk5 (Below.refl w5.heap.size w5) (.cells #[.string ET,.int .i64 (el:Nat)] 50));clear hB5 HP HS HV HB CE hc hg
      go_wp2_with
        (at_builtin
         refine zav ze8 (by rfl) _ _ (by rfl) w.heap.size _ (k+1) (zam ((zcA lv (L.take k)).map zaC)) (by rfl) ((HP5.out.alloc _).alloc _) (z5+2) 1 _ [.string ET,.int .i64 (el:Nat)] (by rfl) (Rd.mono (zap (zae _ _ _ (by simp[hz5])) rfl (by rfl) (by simp[maxLen])) (by simp[hz5])) (by intro c hc;simp at hc;rcases hc with rfl | rfl <;> rfl) (by omega) (by omega) (by simp;omega) ?_
         intro q2 c2 w2 hown2 hg2 hat2;have hbL:=zk5 HA5.out (.cells #[.string ET,.int .i64 (el:Nat)] 50);have hO2:=zag HP5.out hbL;have HS6:=Lib.hid (zck (zag HS5.out hbL) hO2 (by decide) hg2)
         have HB6:Hid (Below w.heap.size w w2):=(HB5.out.trans (hbL.mono HB5.out.size)).grown hg2 (by simp;omega) (fun r e=>zaF HP5.out e)
         have HV6:Hid (IsStrs w2 (.slice (some ⟨g,o,none⟩) N c) L):=HV0.out _ HB6.out;have HP6:=Lib.hid hown2;clear hown2 hg2 hat2 hbL hO2)
      refine (CS.out _).mono ?_;rintro e w7 ⟨rfl,hB7⟩;have HP7:=Lib.hid (zag HP6.out hB7);have HS7:=Lib.hid (zag HS6.out hB7);have HB7:=Lib.hid (zvS hB7 HB6.out);obtain⟨z7,hz7⟩:∃ z7,w7.heap.size=z7:=⟨_,rfl⟩;have hbz7:=HB7.out.size;clear hB7 HP5 HS5 HV5 HB5 HA5 HP6 HS6 HB6 HV6 CS hz5 hbz
      go_wp2_with
        (at_builtin
         refine zav zky (by rfl) _ _ (by rfl) w.heap.size _ k (zm5 ((L.take k).map zby)) (by rfl) (HS7.out.alloc _) (z7+1) 1 _ [.int .u32 (cs:Nat)] (by rfl) (Rd.mono (zap (zae _ _ _ hz7.symm) rfl (by rfl) (by simp[maxLen])) (by simp[hz7])) (by intro c hc;simp at hc;subst hc;rfl) (by omega) (by omega) (by simp;omega) ?_
         intro q3 c3 w3 hown2 hg2 hat2;have hbL:=zk5 (Below.refl w7.heap.size w7) (.cells #[.int .u32 (cs:Nat)] 53);have hO2:=zag HS7.out hbL;have HP8:=Lib.hid (zck (zag HP7.out hbL) hO2 (by decide) hg2)
         have HB8:Hid (Below w.heap.size w w3):=(HB7.out.trans (hbL.mono HB7.out.size)).grown hg2 (by simp;omega) (fun r e=>zaF HS7.out e)
         have HS8:=Lib.hid hown2;clear hown2 hg2 hat2 hbL hO2)
      go_roundw
      case rel =>
        refine⟨k+1,by omega,by go_num,⟨q2,c2,rfl,?_⟩,⟨q3,c3,rfl,?_⟩,HV0.out _ HB8.out,HB8⟩
        · show World.ownsRow _ _ _ _ _ _ _
          have h1:=HP8.out;rw[HTK.out,zon,List.map_append];simp only[zam,List.flatMap_append,List.map_cons,List.map_nil,List.flatMap_cons,List.flatMap_nil,zaC,HET.out,HEL.out,List.append_nil];simp only[zam] at h1;exact h1
        · show World.ownsRow _ _ _ _ _ _ _
          have h1:=HS8.out;rw[HTK.out,List.map_append,List.map_cons,List.map_nil,zlz,HCS.out];exact h1
      case measure=>simp[intOf];omega
    · obtain rfl:k=N:=by omega
      have htk:L.take k=L:=List.take_of_length_le (by rw[HN.out];exact Nat.le_refl _)
      rw[htk] at HP HS;clear htk
      go_wp2_with fail
      refine (CP1.out _).mono ?_;rintro e w5 ⟨rfl,hB5⟩;have HP5:=Lib.hid (zag HP.out hB5);have HS5:=Lib.hid (zag HS.out hB5);have HB5:=Lib.hid (zvS hB5 HB.out);clear hB5 HP HS HV HB CP1
      go_upto_region 15 with (fail)
      obtain⟨eb,heb⟩:∃ eb,w5.heap.size=eb:=⟨_,rfl⟩;have hX6:(w5.alloc (.cells #[.string M48,.int .i64 48] 50)).heap[eb]?=some (Obj.cells #[.string M48,.int .i64 48] 50 (0,0)):=zae _ _ _ heb.symm;have hal:=zk5 (Below.refl w5.heap.size w5) (.cells #[.string M48,.int .i64 48] 50);have HAL:=Lib.hid hal;have HX6:=Lib.hid hX6;have HS6:=Lib.hid (zag HS5.out hal)
      have hCA:Hid (∀ W,Below (w5.alloc (.cells #[.string M48,.int .i64 48] 50)).heap.size (w5.alloc (.cells #[.string M48,.int .i64 48] 50)) W→Calls Tryz.prog 18 #[.slice sq k sc] W fun e w'=>e=.returned (.int .u32 (z:Nat))∧z<4294967296∧W=w'):=fun W hW=>CAl.out W _ (by
        have h1:=Rd.own (zag HS6.out hW);have h2:(L.map zby).length=k:=by rw[List.length_map,HN.out]
        rw[h2];exact h1)
      have HEB:Hid (w5.heap.size=eb):=heb;rw[heb];clear hX6 hal heb;generalize w5.alloc (.cells #[.string M48,.int .i64 48] 50)=W6 at *
      have e0:=(zaa HX6.out 0).trans rfl;have e1:=(zaa HX6.out 1).trans rfl;have HW6:Hid (Below W6.heap.size W6 W6):=Below.refl _ _
      go_region_with
        (first
         | (go_at_call 18
            refine (hCA.out _ (zwd HW6.out)).mono ?_;rintro e w7 ⟨rfl,hzl,rfl⟩;have CPz:=Lib.hid (CP2.out hzl);have hwz:IntKind.u64.wrap (z:Int)=(z:Int):=IntWalk.u64_in _ (by omega))
         | (go_at_call 19
            refine (CPz.out _).mono ?_;rintro e w8 ⟨rfl,hB8⟩;have hx8:=(hB8.block eb (zab HX6.out)).trans HX6.out;have b0:=zaa hx8 0;have b1:=zaa hx8 1;have g0:=zac hx8;have HX8:=Lib.hid hx8;have HB8:Hid (Below W6.heap.size W6 w8):=zvS hB8 (zwd HW6.out);clear hx8 hB8)
         | fail)
      all_goals
        have hX9:((w8.setCell ⟨eb,0,none⟩ (.string ME)).setCell ⟨eb,1,none⟩ (.int .i64 80)).heap[eb]?=some (Obj.cells #[.string ME,.int .i64 80] 50 (0,0)):=by
          have:=zaf (zaf HX8.out 0 (.string ME)) 1 (.int .i64 80);simpa using this
        have hB9:Below w5.heap.size w5 ((w8.setCell ⟨eb,0,none⟩ (.string ME)).setCell ⟨eb,1,none⟩ (.int .i64 80)):=by
          have h1:=HB8.out;have h2:=zvS h1 HAL.out;have h3:w5.heap.size≤eb:=Nat.le_of_eq HEB.out;exact zwe (zwe h2 h3 _ _) h3 _ _
        have HX9:=Lib.hid hX9;have HP9:=Lib.hid (zag HP5.out hB9);have HB9:=Lib.hid (zvS hB9 HB5.out);clear hX9 hB9 HP5 HS5 HB5 HAL HX6 HS6 hCA e0 e1 HW6 b0 b1 g0 HX8 HB8 CPz;generalize (w8.setCell ⟨eb,0,none⟩ (.string ME)).setCell ⟨eb,1,none⟩ (.int .i64 80)=W9 at *
        have e0:=(zaa HX9.out 0).trans rfl;have e1:=(zaa HX9.out 1).trans rfl;obtain⟨z9,hz9⟩:∃ z9,W9.heap.size=z9:=⟨_,rfl⟩;have hbz9:=HB9.out.size
        go_wp2_with
          (at_builtin
           refine zav ze8 (by rfl) _ _ (by rfl) w.heap.size _ (k+1) (zam ((zcA lv L).map zaC)) (by rfl) (HP9.out.alloc _) (z9+1) 1 _ [.string ME,.int .i64 80] (by rfl) (Rd.mono (zap (zae _ _ _ hz9.symm) rfl (by rfl) (by simp[maxLen])) (by simp[hz9])) (by intro c hc;simp at hc;rcases hc with rfl | rfl <;> rfl) (by omega) (by omega) (by simp;omega) ?_
           intro q2 c2 w2 hown2 hg2 hat2;have hbL:=zk5 (Below.refl W9.heap.size W9) (.cells #[.string ME,.int .i64 80] 50);have HB2:Hid (Below w.heap.size w w2):=(HB9.out.trans (hbL.mono HB9.out.size)).grown hg2 (by simp;omega) (fun r e=>zaF HP9.out e)
           have HIP:Hid (zeB w2 w2.heap.size (.slice q2 (k+1+1) c2) ((zcA lv L++[zg4 z]).map zaC)):=by
             have e1:((zcA lv L++[zg4 z]).map zaC).length=k+1+1:=by simp[zcA,HN.out]
             have e2:zam ((zcA lv L++[zg4 z]).map zaC)=zam ((zcA lv L).map zaC)++[.string ME,.int .i64 80]:=by
               rw[List.map_append,←HME.out];simp[zam,zaC,zdg]
             show Rd _ _ _ _ _ _
             rw[e1,e2];exact Rd.own hown2
           clear hown2 hg2 hat2 hbL)
        have CC:=Lib.hid (zkE w2 _ (zcA lv L++[zg4 z]) GS HGF.out HIP.out (by
          have h1:=HGL.out;have h2:=HBL.out;have h3:(zcA lv L++[zg4 z]).length=k+2:=by simp[zcA,HN.out]
          rw[h3,h1];omega))
        rw[HGT.out] at CC;refine CC.out.mono ?_;rintro e w3 ⟨rfl,hB3⟩;have HB3:=Lib.hid (zvS hB3 HB2.out);clear hB3 HB2 HIP CC
        go_wp2_with fail
        go_ret2
        exact⟨rfl,zk5 HB3.out _⟩
end Go.Proofs.YtoejfkeofbdalaaGreatDoor
namespace Go.Proofs.YtoejfkeofbdalaaGreatDoor
open Go.RowKit Go.Shelf
attribute [local go_sem] Oper.semAt_some
theorem zfz:ElemT 77 9 (.string ⟨#[]⟩) 1 16:=⟨Tryz.underlying77,by kernel_rfl,rfl,by decide⟩
theorem zc6 (L:List (List UInt8)) (t:List UInt8):zfU (L++[t])=zfU L++[.string ⟨t.toArray⟩]:=by simp[zfU]
structure GatSt (g c b1:Nat) (w:World) (pre:List (List UInt8)) (W:World):Prop where
  bel:Below g w W
  st:∃ v,W.heap[c]?=some (Obj.cells #[v] 77 (0,0))∧W.ownsRow (c+1) 9 1 v pre.length (zfU pre)
theorem GatSt.own {g c b1 D:Nat} {w:World} (hg:g≤w.heap.size) (hD:g≤D):OwnFrom D (fun pre W=>GatSt g c b1 w pre W):=by
  intro pre W W' row h hgr hr
  have hne:∀ k cs t fz,W.heap[k]?=some (Obj.cells cs t fz)→W'.heap[k]?=some (Obj.cells cs t fz):=fun k cs t fz hk=>(hgr.block k (zab hk) (fun e=>by
    obtain⟨-,o,h1,h2⟩:=hr k e.symm;rw[hk] at h1;cases h1
    cases h2)).trans hk
  obtain⟨v,h2,h3⟩:=h.st;exact⟨h.bel.grown hgr (by have:=h.bel.size;omega) (fun k hk=>by have:=(hr k hk).1;omega),⟨v,hne _ _ _ _ h2,zc7 h3 hgr (fun r e=>(hr r e).2)⟩⟩
theorem zqQ (w:World) (g b1 b2:Nat) (s:ByteArray) (hs:s.size≤1000000) (lv:Nat) (h1:1≤lv) (h9:lv≤9) (hb1:w.heap[b1]?=some (.cells #[.string s] 9 (0,0))) (hb2:w.heap[b2]?=some (.cells #[.int .i64 (lv:Nat)] 3 (0,0))) (hne:b1≠b2) (hgb:g≤b1) :
    Calls Tryz.prog 100 #[.slice none 0 0,.func (.func 101) #[] #[.pointer (some ⟨b1,0,none⟩),.pointer (some ⟨b2,0,none⟩)]] w fun e w'=>∃ v,e=.returned v∧IsStrs w' v (zbD (40*lv:Nat) s.data.toList)∧Below g w w':=by
  have hlenL:=zfg ((40*lv:Nat):Int) (by omega) _ s.data.toList (Nat.le_refl _)
  have hsl:s.data.toList.length=s.size:=by simp
  rw[hsl] at hlenL;obtain⟨L,hL⟩:∃ L,zbD ((40*lv:Nat):Int) s.data.toList=L:=⟨_,rfl⟩;obtain⟨D,hD⟩:∃ D:Nat,8≤D:=⟨8,by omega⟩
  have h1D:1≤D:=by omega
  have x1:=zab hb1;have x2:=zab hb2;refine (callsIn_wide (n:=D)).1 ?_;refine callsIn_of_wp_marks Tryz.func100 rfl trivial ?_ rfl;simp only[Tryz.ntmps100,List.size_toArray,List.length_cons,List.length_nil,Nat.reduceAdd,Nat.reduceSub,Array.replicate_succ,Array.replicate_zero,List.push_toArray,List.append_toArray,List.nil_append,List.cons_append]
  gi_wp2_with fail
  obtain⟨c,hc⟩:∃ c,w.heap.size=c:=⟨_,rfl⟩;have hW0:(w.alloc (.cells #[.slice none 0 0] 77)).heap[c]?=some (Obj.cells #[.slice none 0 0] 77 (0,0)):=zae _ _ _ hc.symm;have hal:=zk5 (Below.refl w.heap.size w) (.cells #[.slice none 0 0] 77);have hW1:=(hal.block b1 x1).trans hb1;have hW2:=(hal.block b2 x2).trans hb2;have hWs:(w.alloc (.cells #[.slice none 0 0] 77)).heap.size=c+1:=by simp[hc]
  have hBW:Below g w (w.alloc (.cells #[.slice none 0 0] 77)):=hal.mono (by omega)
  have HGW:Hid (g≤w.heap.size):=by show _≤_;omega
  have HC:Hid (c=w.heap.size):=hc.symm;rw[hc] at x1 x2 ⊢;clear hal hc hb1 hb2;generalize w.alloc (.cells #[.slice none 0 0] 77)=W0 at *
  refine zfn (n:=D) (ib:=b1) h1D (gf:=101) (lb:=#[.pointer (some ⟨b1,0,none⟩),.pointer (some ⟨b2,0,none⟩)]) rfl zm0 (encs:=pcE) (fun _=>rfl) zqZ (fun k=>k≠b1∧k≠b2)
    (zr3 (D-1) (by omega) b1 b2 s hs lv h1 h9 (fun k=>k≠b1∧k≠b2) W0 hW1 hW2 (fun h=>h.1 rfl) (fun h=>h.2 rfl) hne) (Below.refl _ _) (by omega)
    (fun pre W=>GatSt g c b1 w pre W) (fun _ _ _=>False) (GatSt.own HGW.out (by omega))
    (fun pre A u h=>⟨h.bel.setCell (p:=⟨b1,0,none⟩) hgb u,by
      obtain⟨v,h2,h3⟩:=h.st;exact⟨v,(Below.heap_setCell _ _ _ _ (by show c≠b1;omega)).trans h2,zau h3 ((Only.refl b1 A).set 0 u) (by omega)⟩⟩)
    (fun _ _ _ _ _ h _ _=>h) ⟨hBW,_,hW0,World.ownsRow_nil _ _ _ _⟩
    (fun x a' W=>zqZ x W∧a' = { tmps:=#[.slice none 0 0,.func (.func 101) #[] #[.pointer (some ⟨b1,0,none⟩),.pointer (some ⟨b2,0,none⟩)],.pointer (some ⟨c,0,none⟩),undef,.slice none 0 0,.string ⟨x.toArray⟩,.func (.func 101) #[] #[.pointer (some ⟨b1,0,none⟩),.pointer (some ⟨b2,0,none⟩)],.string ⟨x.toArray⟩,undef,undef,undef,undef,undef],defers:=[] })
    (fun x a' s W W' row h hgr hr=>h)
    ?assign ?body ?done ?stop
  case assign =>
    intro y pre x W K hi hok hlt hK;simp only[pcE]
    gi_wp2_with fail
    exact hK _ _ (KeepsFrom.refl _ _) (KeepC.refl _ _) hi ⟨hok,rfl⟩
  case body =>
    rintro y pre x a' W hi ⟨hok,rfl⟩ hlt hlen;obtain⟨v,hbox,hrow⟩:=hi.st;obtain⟨vq,vc,rfl⟩:=zaB hrow;obtain⟨N,hN⟩:∃ N,pre.length=N:=⟨_,rfl⟩;have hN2:N≤1000000:=by omega
    rw[hN] at hbox hrow;have k0:=(zaa hbox 0).trans rfl;have f0:=zac hbox 0;have HI:=Lib.hid hi;have HBOX:=Lib.hid hbox;have HROW:=Lib.hid hrow;have HN:=Lib.hid hN;have HWB:Hid (w.heap.size≤W.heap.size):=hi.bel.size;have hcW:=zab hbox;obtain⟨T,hT⟩:∃ T:ByteArray,(⟨x.toArray⟩:ByteArray)=T:=⟨_,rfl⟩;rw[hT];have HT:=Lib.hid hT;have hds:1≤D-1-1:=by omega
    clear hi hbox hrow hN hlen hW0 hW1 hW2 hBW hT hok hlenL hsl
    gi_wp2_with
      (gi_at_builtin
       refine zc3 zfz rfl _ _ rfl (c+1) _ N (zfU pre) rfl (HROW.out.alloc _) ⟨W.heap.size,0,none⟩ 1 1 [.string T] rfl rfl (fun j u hu=>by rw[show (⟨W.heap.size,0,none⟩:Addr).add j=⟨W.heap.size,j,none⟩ by simp[Addr.add];intro h;exact h.symm];rw[zaa (zae _ _ _ rfl) j];simpa using hu) (by intro u hu;simp at hu;subst hu;rfl) (by omega) (by omega) (by simp;omega) ?_
       intro q2 c2 w2 hown2 hg2;have hB:=zk5 (Below.refl W.heap.size W) (.cells #[.string T] 9);have hg3:(W.alloc (.cells #[.string T] 9)).grownBy w2 (Value.slice vq N vc).ownBlock:=hg2;have hgeb:∀ r,(Value.slice vq N vc).ownBlock=some r→c+1≤r:=fun r e=>zaF HROW.out e;have hw2:=(hg3.block c (by simp;omega) (fun e=>by have:=hgeb c e.symm;omega)).trans (zah (.cells #[.string T] 9) HBOX.out)
       have kw2:=(zaa hw2 0).trans rfl;have fw2:=zac hw2 0;have HW2:=Lib.hid hw2;have HKF:Hid (KeepsFrom W0.heap.size W w2):=(zb9 hB).trans (zd0 (HROW.out.alloc _) hg3)
       have HKC:Hid (KeepC (fun k=>k≠b1∧k≠b2) W w2):=fun b cs t fz hb h1=>by
         have hb3:b<c:=by
           have:b=b1∨b=b2:=by
             rcases Classical.em (b=b1) with h | h
             · exact .inl h
             · rcases Classical.em (b=b2) with h2 | h2
               · exact .inr h2
               · exact absurd ⟨h,h2⟩ hb
           rcases this with rfl | rfl <;> assumption
         exact (hg3.block b (by simp;omega) (fun e=>by have:=hgeb b e.symm;omega)).trans (zah (.cells #[.string T] 9) h1)
       have HB2:Hid (Below g w w2):=(HI.out.bel.trans (hB.mono (by have:=HGW.out;have:=HWB.out;omega))).grown hg3 (by have:=HGW.out;have:=HWB.out;simp;omega) (fun r e=>by have:=hgeb r e;have:=HGW.out;have:=HC.out;omega)
       have HOWN:=Lib.hid hown2;clear hown2 hg2 hg3 hB hgeb hw2)
    refine⟨HKF.out.trans ((KeepsOthers.setCell w2 _ _).from _),HKC.out.trans ((KeepC.refl _ _).set (q:=⟨c,0,none⟩) ⟨by show c≠b1;omega,by show c≠b2;omega⟩ _),?_⟩
    refine⟨HB2.out.setCell (p:=⟨c,0,none⟩) (by show g≤c;have:=HGW.out;have:=HC.out;omega) _,⟨_,zaf HW2.out 0 _,?_⟩⟩
    have h1:=zau HOWN.out ((Only.refl c w2).set 0 (.slice q2 (N+1) c2)) (Nat.lt_succ_self c);rw[List.length_append,zc6,HN.out,HT.out];exact h1
  case done =>
    rintro E xs W hE rfl hi hd;obtain⟨v,hbox,hrow⟩:=hi.st;rw[hL] at hrow;obtain⟨vq,vc,rfl⟩:=zaB hrow;have k0:=(zaa hbox 0).trans rfl;have HI:=Lib.hid hi;have HROW:=Lib.hid hrow;have HL2:=Lib.hid hL;have HGE:Hid (w.heap.size≤E∧g≤E):=by show _∧_;have:=HC.out;omega
    clear hi hbox hrow hL hW0 hW1 hW2 hBW hWs hE hlenL hsl
    gi_wp2_with fail
    refine⟨by simp,.inl ⟨_,_,rfl,run_takeDeferred hd,?_⟩⟩
    refine⟨_,results_tmp rfl _ _ _,_,rfl,?_,?_⟩
    · have h1:=zc7 HROW.out (grownBy_putObj' W E (.deferred none)) (fun r e=>by cases e;exact⟨_,hd,rfl⟩)
      show IsStrs _ (.slice vq L.length vc) _
      rw[HL2.out];exact Rd.own h1
    · exact HI.out.bel.trans (belowK_b (w:=w) HGW.out _ E _ _ HGE.out.1 hd rfl rfl)
  case stop=>exact fun _ _ _ _ _ _ h _=>h.elim
theorem zoh (w:World) (g b1 b2:Nat) (s:ByteArray) (hs:s.size≤1000000) (lv:Nat) (h1:1≤lv) (h9:lv≤9) (hb1:w.heap[b1]?=some (.cells #[.string s] 9 (0,0))) (hb2:w.heap[b2]?=some (.cells #[.int .i64 (lv:Nat)] 3 (0,0))) (hne:b1≠b2) (hgb:g≤b1) :
    Calls Tryz.prog 37 #[.func (.func 101) #[] #[.pointer (some ⟨b1,0,none⟩),.pointer (some ⟨b2,0,none⟩)]] w fun e w'=>∃ v,e=.returned v∧IsStrs w' v (zbD (40*lv:Nat) s.data.toList)∧Below g w w':=by
  have C:=Lib.hid (zqQ w g b1 b2 s hs lv h1 h9 hb1 hb2 hne hgb);clear hb1 hb2 hgb hne
  go_enter Tryz.func37,Tryz.ntmps37
  go_wp2_with fail
  refine C.out.mono ?_;rintro e w1 ⟨v,rfl,hv,hB⟩;obtain⟨q,c,rfl⟩:=hv.shape;have HV:=Lib.hid hv;have HB:=Lib.hid hB;clear hv hB C
  go_wp2_with fail
  go_ret
  exact⟨_,rfl,HV.out,HB.out⟩
theorem zvB (lv:Nat) (h1:1≤lv) (h9:lv≤9) (w:World):Calls Tryz.prog 36 #[.int .i64 (lv:Nat)] w fun e w'=>e=.returned (.bool true)∧w=w':=by
  have d1:decide ((1:Int)≤(lv:Int))=true:=decide_eq_true (by omega)
  have d2:decide ((lv:Int)≤9)=true:=decide_eq_true (by omega)
  go_enter Tryz.func36,Tryz.ntmps36
  go_wp2_with fail
  go_ret
  exact⟨rfl,rfl⟩
def zhy (lv:Nat) (x:List UInt8):List Bool:=zbq lv (zbD (40*lv:Nat) x) (zhU ((zbD (40*lv:Nat) x).map zby))
theorem zli (lv:Nat) (h1:1≤lv) (x:List UInt8):∀ t∈zbD (40*lv:Nat) x,zdw (40*lv) t:=fun t ht=>by
  obtain⟨h2,h3⟩:=zr8 ((40*lv:Nat):Int) (by omega) x t ht
  exact⟨h2,by omega⟩
theorem zuR (w:World) (s:ByteArray) (hs:s.size≤1000) (lv:Nat) (h1:1≤lv) (h9:lv≤9) :
    Calls Tryz.prog 8 #[.string s,.int .i64 (lv:Nat)] w fun e w'=>e=.returned (.tuple #[.string (txt (zhy lv s.data.toList)),.int .i64 0])∧Below w.heap.size w w':=by
  have hlenL:=zfg ((40*lv:Nat):Int) (by omega) _ s.data.toList (Nat.le_refl _)
  have hsl:s.data.toList.length=s.size:=by simp
  have CM:=Lib.hid (zvB lv h1 h9);have CC:=Lib.hid (fun W=>zsh s (lv:Nat) W);have CL:Hid (∀ W b,W.heap[b]?=some (.cells #[.string s] 9 (0,0))→W.heap[b+1]?=some (.cells #[.int .i64 (lv:Nat)] 3 (0,0))→Calls Tryz.prog 37 #[.func (.func 101) #[] #[.pointer (some ⟨b,0,none⟩),.pointer (some ⟨b+1,0,none⟩)]] W fun e w'=>∃ v,e=.returned v∧IsStrs w' v (zbD (40*lv:Nat) s.data.toList)∧Below b W w'):=fun W b hb hb2=>zoh W b b (b+1) s (by omega) lv h1 h9 hb hb2 (by omega) (Nat.le_refl _)
  have CW:Hid (∀ W v,IsStrs W v (zbD (40*lv:Nat) s.data.toList)→Calls Tryz.prog 16 #[.int .i64 (lv:Nat),v] W fun e w'=>e=.returned (.tuple #[.string (txt (zhy lv s.data.toList)),.int .i64 0])∧Below W.heap.size W w'):=fun W v hv=>zk2 W lv v _ hv h1 h9 (zli lv h1 _) (by omega)
  obtain⟨G,hG⟩:∃ G,txt (zhy lv s.data.toList)=G:=⟨_,rfl⟩;rw[hG] at CW ⊢;obtain⟨L,hL⟩:∃ L,zbD (40*lv:Nat) s.data.toList=L:=⟨_,rfl⟩;rw[hL] at CW CL;clear hlenL hsl hG hL
  go_enter Tryz.func8,Tryz.ntmps8
  go_wp2_with fail
  refine (CM.out _).mono ?_;rintro e w1 ⟨rfl,rfl⟩
  go_wp2_with fail
  refine (CC.out _).mono ?_;rintro e w1 ⟨rfl,rfl⟩;obtain⟨b,hb⟩:∃ b,w.heap.size=b:=⟨_,rfl⟩;have hB0:=zk5 (zk5 (Below.refl w.heap.size w) (.cells #[.string s] 9)) (.cells #[.int .i64 (lv:Nat)] 3);have CLb:=Lib.hid (CL.out ((w.alloc (.cells #[.string s] 9)).alloc (.cells #[.int .i64 (lv:Nat)] 3)) b (zah _ (zae _ _ _ hb.symm)) (zae _ _ _ (by simp[hb])))
  have HB0:=Lib.hid hB0;have HBB:Hid (w.heap.size≤b):=Nat.le_of_eq hb;rw[hb];clear hB0 CL hb;generalize (w.alloc (.cells #[.string s] 9)).alloc (.cells #[.int .i64 (lv:Nat)] 3)=W2 at *
  go_wp2_with fail
  refine CLb.out.mono ?_;rintro e w3 ⟨v,rfl,hv,hB3⟩;have HB3:Hid (Below w.heap.size w w3):=HB0.out.trans (hB3.mono HBB.out);have CWv:=Lib.hid (CW.out w3 v hv);obtain⟨q,c,rfl⟩:=hv.shape;clear hv hB3 HB0 CLb CW
  go_wp2_with fail
  refine CWv.out.mono ?_;rintro e w4 ⟨rfl,hB4⟩;have HB4:=Lib.hid (zvS hB4 HB3.out);clear hB4 HB3 CWv
  go_wp2_with fail
  go_ret2
  exact⟨rfl,HB4.out⟩
end Go.Proofs.YtoejfkeofbdalaaGreatDoor
