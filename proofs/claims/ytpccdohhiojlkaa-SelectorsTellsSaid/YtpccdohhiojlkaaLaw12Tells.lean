/- SelectorsTells: the walk. -/
import Derived.Test.YtpccdohhiojlkaaTells12
import Derived.Test.YtpccdohhiojlkaaTurn
import Derived.Deep.DeepCutAuto
import Derived.StillTailTactics
import Derived.Laws.IdiomStrings
import Derived.Lib.ConvBytes
namespace Go.Proofs.Ytpccdohhiojlkaa
open Go.RowKit
set_option linter.unusedVariables false

set_option maxRecDepth 100000 in
set_option maxHeartbeats 12800000 in
theorem stells_walk (w : World) (u v : Value) (sm raw : List Int) (s : ByteArray) (tables at0 n which : Int) (hso : IsInts w w.heap.size u sm) (hv : IsInts w w.heap.size v raw) (hr : I64s raw) (hs : s.size ≤ 9223372036854775807) (htb : -9223372036854775808 ≤ tables) (htb' : tables ≤ 9223372036854775807) (hat : -9223372036854775808 ≤ at0) (hat' : at0 ≤ 9223372036854775807) (hn : -9223372036854775808 ≤ n) (hn' : n ≤ 9223372036854775807) (hk : -9223372036854775808 ≤ which) (hk' : which ≤ 9223372036854775807) :
    Calls Try.prog 3 #[u, v, .int .i64 tables, .string s, .int .i64 at0, .int .i64 n, .int .i64 which] w fun e w' => e = .returned (.bool true) ∧ Below w.heap.size w w' := by
  have HSW := Lib.hid hso
  have HRW := Lib.hid hv
  have HR := Lib.hid hr
  obtain ⟨L, hL⟩ : ∃ L : Nat, L = min s.size 40 := ⟨_, rfl⟩
  have hL1 : (if (40 : Int) < s.size then 40 else (s.size : Int)) = L := by rw [hL]; split <;> omega
  have hL2 : L ≤ s.size := by omega
  have hL3 : L ≤ 40 := by omega
  have hfr := front_size s L hL2
  unfold front at hfr
  obtain ⟨As, cas, rfl, hcs1, hcs2⟩ := hso.shape
  unfold maxLen at hcs2
  obtain ⟨NS, hNS⟩ : ∃ n, sm.length = n := ⟨_, rfl⟩
  rw [hNS] at HSW hcs1 ⊢
  obtain ⟨K, hK⟩ : ∃ K : Nat, K = min NS 40 := ⟨_, rfl⟩
  have hK1 : (if (40 : Int) < NS then 40 else (NS : Int)) = K := by rw [hK]; split <;> omega
  have hKn : K ≤ NS := by omega
  have hK3 : K ≤ 40 := by omega
  obtain ⟨P1, hP1⟩ : ∃ P, sm.take K = P := ⟨_, rfl⟩
  have hPl : P1.length = K := by rw [← hP1, List.length_take]; omega
  have HP1 := Lib.hid hP1
  obtain ⟨b0, hb0⟩ : ∃ k : Nat, pickF tables 5 = (k : Int) := ⟨(pickF tables 5).toNat, by have := pickF_lt tables 5 (by omega); omega⟩
  have hb05 : b0 < 5 := by have := pickF_lt tables 5 (by omega); omega
  obtain ⟨t, ht⟩ : ∃ t : Nat, 2 + b0 = t := ⟨_, rfl⟩
  have hti : 2 + (b0 : Int) = (t : Int) := by omega
  have Hti := Lib.hid hti
  have ht2 : 2 ≤ t := by omega
  have ht6 : t ≤ 6 := by omega
  have CT : Hid (∀ W, Calls Try.prog 9 #[.int .i64 tables, .int .i64 5] W fun e w' => e = .returned (.int .i64 (b0 : Nat)) ∧ W = w') := fun W => by
    have := pick12_any tables 5 W htb htb' (by omega) (by omega)
    rw [hb0] at this; exact this
  obtain ⟨b1, hb1⟩ : ∃ k : Nat, pickF at0 20 = (k : Int) := ⟨(pickF at0 20).toNat, by have := pickF_lt at0 20 (by omega); omega⟩
  have hb120 : b1 < 20 := by have := pickF_lt at0 20 (by omega); omega
  have CAt : Hid (∀ W, Calls Try.prog 9 #[.int .i64 at0, .int .i64 20] W fun e w' => e = .returned (.int .i64 (b1 : Nat)) ∧ W = w') := fun W => by
    have := pick12_any at0 20 W hat hat' (by omega) (by omega)
    rw [hb1] at this; exact this
  obtain ⟨b2, hb2⟩ : ∃ k : Nat, pickF n 60 = (k : Int) := ⟨(pickF n 60).toNat, by have := pickF_lt n 60 (by omega); omega⟩
  have hb260 : b2 < 60 := by have := pickF_lt n 60 (by omega); omega
  have CNn : Hid (∀ W, Calls Try.prog 9 #[.int .i64 n, .int .i64 60] W fun e w' => e = .returned (.int .i64 (b2 : Nat)) ∧ W = w') := fun W => by
    have := pick12_any n 60 W hn hn' (by omega) (by omega)
    rw [hb2] at this; exact this
  obtain ⟨n5, hn5⟩ : ∃ n5 : Int, (if (5000 : Int) < n then 5000 else n) = n5 := ⟨_, rfl⟩
  have CS : Hid (∀ W, IsInts W W.heap.size v raw → Calls Try.prog 10 #[v, .int .i64 (t : Nat), .int .i64 60] W fun e w' => ∃ q c, e = .returned (.slice q (symsF raw t 60).length c) ∧ IsInts w' w'.heap.size (.slice q (symsF raw t 60).length c) (ints (symsF raw t 60)) ∧ Below W.heap.size W w') := fun W h => syms_is W v raw t 60 h hr (by omega) (by omega) (by omega)
  have hsl := symsF_len raw t 60
  have hslt := symsF_lt raw t 60 (by omega)
  obtain ⟨ns, hns⟩ : ∃ ns, symsF raw t 60 = ns := ⟨_, rfl⟩
  rw [hns] at CS hsl hslt
  have CP : Hid (∀ W (u : Value), IsInts W W.heap.size u (ints ns) → Calls Try.prog 12 #[u, .int .i64 (t : Nat)] W fun e w' => e = .returned (.tuple #[.agg #[.string (txt (selL (List.range 6) ns)), .int .i64 ((selL (List.range 6) ns).length : Nat)], .int .i64 0]) ∧ Below W.heap.size W w') := fun W u h => rput12_any W u ns t h (by omega) ht2 ht6 hslt
  have hdb := length_selL t ht6 ns (List.range 6) (tabs_start t ht6) hslt
  obtain ⟨d1, n1, e1, CD1, CR1⟩ := sputs_any P1 tables (by omega)
  obtain ⟨d2, n2, e2, CD2, CR2⟩ := sputs_any P1 (t : Int) (by omega)
  obtain ⟨d3, n3, e3, CD3, CR3⟩ := sputs_any (ints ns) tables (by rw [length_ints]; omega)
  obtain ⟨d4, n4, e4, CD4, CR4⟩ := sputs_any (ints ns) (t : Int) (by rw [length_ints]; omega)
  have HD1 := Lib.hid CD1
  have HD2 := Lib.hid CD2
  have HD3 := Lib.hid CD3
  have HD4 := Lib.hid CD4
  have HR1 := Lib.hid CR1
  have HR2 := Lib.hid CR2
  have HR3 := Lib.hid CR3
  have HR4 := Lib.hid CR4
  clear CD1 CD2 CD3 CD4 CR1 CR2 CR3 CR4
  obtain ⟨t0, ht0⟩ : ∃ x, txt (selL (List.range 6) ns) = x := ⟨_, rfl⟩
  have hts0 : t0.size ≤ 400 := by rw [← ht0, txt_size]; omega
  rw [ht0] at CP
  obtain ⟨d0, hd0⟩ : ∃ d0, (selL (List.range 6) ns).length = d0 := ⟨_, rfl⟩
  rw [hd0] at CP
  obtain ⟨ln, hln⟩ : ∃ ln, ns.length = ln := ⟨_, rfl⟩
  rw [hln] at CS hsl
  obtain ⟨t1, ht1⟩ : ∃ x, t0 ++ (⟨#[0]⟩ : ByteArray) = x := ⟨_, rfl⟩
  have hts1 : 0 < t1.size ∧ t1.size ≤ 401 := by rw [← ht1, ByteArray.size_append, show (⟨#[0]⟩ : ByteArray).size = 1 from rfl]; omega
  obtain ⟨hts2, hts3⟩ := hts1
  have Ht1 := Lib.hid ht1
  obtain ⟨x, hxx⟩ : ∃ k : Nat, pickF which (8 * (t1.size : Int)) = (k : Int) := ⟨(pickF which (8 * (t1.size : Int))).toNat, by have := pickF_lt which (8 * (t1.size : Int)) (by omega); omega⟩
  have hx1 : x < 8 * t1.size := by have := pickF_lt which (8 * (t1.size : Int)) (by omega); omega
  have Hxx := Lib.hid hxx
  have hln2 : (ints ns).length = ln := by rw [length_ints, hln]
  have HLN := Lib.hid hln2
  generalize ints ns = Y at *
  clear hso hv hr hL hNS hK hP1 hb0 ht hti hb1 hb2 hns hslt hdb ht0 hd0 hln ht1 hxx hln2 HR
  go_enter Try.func3, Try.ntmps3
  have E0 := Lib.hid (Env.nil w)
  go_wp2_with fail
  refine (awake12_any _).mono ?_
  rintro e w1 ⟨rfl, hB⟩
  have E1 := Lib.hid (E0.out.step hB)
  clear E0 hB  
  go_wp2_with fail
  refine (CT.out _).mono ?_
  rintro e w_ ⟨rfl, rfl⟩
  clear CT
  go_wp2_with fail
  rw [Hti.out]
  refine (CS.out _ (E1.out.old HRW.out)).mono ?_
  rintro e w2 ⟨q1, c1, rfl, hv, hB⟩
  have E2 := Lib.hid ((E1.out.step hB).add hv)
  clear E1 hB hv 
  obtain ⟨vk, hk1, ⟨qk, ck, hk2⟩, hk3, hk4, hk5⟩ := (E2.out.old HSW.out).cut 0 K (Nat.zero_le _) hKn
  subst hk2
  rw [Nat.sub_zero] at hk1 hk3 hk4 hk5
  have hcut := hk5 rfl
  have E9 := Lib.hid (E2.out.add (by rw [List.drop_zero, HP1.out] at hk1; exact hk1))
  clear hk1 hk3 hk4 hk5 E2 HSW HRW CS
  go_wp2_with fail
  obtain ⟨wl, hwl⟩ : ∃ x, w2.alloc (.cells #[.slice qk K ck, .slice q1 ln c1] 22) = x := ⟨_, rfl⟩
  have E10 : Hid (Env w wl [(.slice qk K ck, P1), (.slice q1 ln c1, Y)] [(w2.heap.size, #[.slice qk K ck, .slice q1 ln c1], 22)]) := by
    show Env _ _ _ _
    rw [← hwl]
    exact E9.out.box _ _ _ rfl
  rw [hwl]
  obtain ⟨bl, hbl⟩ : ∃ x, w2.heap.size = x := ⟨_, rfl⟩
  rw [hbl] at E10 ⊢
  clear hwl E9 hbl hcut
  go_loopw [59] (fun iv wr => ∃ j : Nat, j ≤ 2 ∧ iv = .int .i64 j ∧ Env w wr [(.slice qk K ck, P1), (.slice q1 ln c1, Y)] [(bl, #[.slice qk K ck, .slice q1 ln c1], 22)]) (fun iv _ => 3 - (intOf iv).toNat)
  case atStart => exact ⟨0, by omega, rfl, E10.out⟩
  case round =>
    obtain ⟨j, hj, rfl, hE⟩ := hrel
    have HE := Lib.hid hE
    clear hE E10
    by_cases hlt : j < 2
    · obtain ⟨q, k, c, X, hcell, hI, CX⟩ : ∃ (q : Option Addr) (k c : Nat) (X : List Int), wr.cell? ⟨bl, j, none⟩ = some (.slice q k c) ∧ IsInts wr wr.heap.size (.slice q k c) X ∧
          Hid (∀ m : Nat, m < 2 → ∃ (y : Int) (d : ByteArray) (nn e : Int), (#[Value.int .i64 tables, .int .i64 (t : Int)] : Array Value)[m]? = some (.int .i64 y) ∧
            (∀ (W : World) (v : Value), IsInts W W.heap.size v X → Calls Try.prog 11 #[v, .int .i64 y] W fun en w' => en = .returned (.tuple #[.agg #[.string d, .int .i64 nn], .int .i64 e]) ∧ Below W.heap.size W w') ∧
            (∀ (W : World) (v : Value), IsInts W W.heap.size v X → Calls Try.prog 12 #[v, .int .i64 y] W fun en w' => en = .returned (.tuple #[.agg #[.string d, .int .i64 nn], .int .i64 e]) ∧ Below W.heap.size W w')) := by
        rcases (show j = 0 ∨ j = 1 by omega) with rfl | rfl
        · refine ⟨_, _, _, _, HE.out.cellv 0 rfl 0 _ rfl, HE.out.get 0 rfl, fun m hm => ?_⟩
          rcases (show m = 0 ∨ m = 1 by omega) with rfl | rfl
          · exact ⟨_, _, _, _, rfl, HD1.out, HR1.out⟩
          · exact ⟨_, _, _, _, rfl, HD2.out, HR2.out⟩
        · refine ⟨_, _, _, _, HE.out.cellv 0 rfl 1 _ rfl, HE.out.get 1 rfl, fun m hm => ?_⟩
          rcases (show m = 0 ∨ m = 1 by omega) with rfl | rfl
          · exact ⟨_, _, _, _, rfl, HD3.out, HR3.out⟩
          · exact ⟨_, _, _, _, rfl, HD4.out, HR4.out⟩
      have E11 := Lib.hid (HE.out.add hI)
      have hd : decide ((j : Int) < 2) = true := by simp; omega
      clear HE hI
      go_wp2_with fail
      obtain ⟨wk, hwk⟩ : ∃ x, wr.alloc (.cells #[.int .i64 tables, .int .i64 (t : Int)] 3) = x := ⟨_, rfl⟩
      have EK : Hid (Env w wk ((.slice q k c, X) :: [(.slice qk K ck, P1), (.slice q1 ln c1, Y)]) [(wr.heap.size, #[.int .i64 tables, .int .i64 (t : Int)], 3), (bl, #[.slice qk K ck, .slice q1 ln c1], 22)]) := by
        show Env _ _ _ _
        rw [← hwk]
        exact E11.out.box _ _ _ rfl
      rw [hwk]
      obtain ⟨bk, hbk⟩ : ∃ x, wr.heap.size = x := ⟨_, rfl⟩
      rw [hbk] at EK ⊢
      clear hwk E11 hbk hcell
      go_loopw [67] (fun iv wr => ∃ m : Nat, m ≤ 2 ∧ iv = .int .i64 m ∧ Env w wr ((.slice q k c, X) :: [(.slice qk K ck, P1), (.slice q1 ln c1, Y)]) [(bk, #[.int .i64 tables, .int .i64 (t : Int)], 3), (bl, #[.slice qk K ck, .slice q1 ln c1], 22)]) (fun iv _ => 3 - (intOf iv).toNat)
      case atStart => exact ⟨0, by omega, rfl, EK.out⟩
      case round =>
        obtain ⟨m, hm, rfl, hE⟩ := hrel
        have HE := Lib.hid hE
        clear hE EK
        by_cases hlt2 : m < 2
        · obtain ⟨y, d, nn, e, hy, CD, CR⟩ := CX.out m hlt2
          have hcell := HE.out.cellv 0 rfl m _ hy
          have CD := Lib.hid CD
          have CR := Lib.hid CR
          clear hy
          go_wp2_with fail
          refine (CD.out _ _ (HE.out.get 0 rfl)).mono ?_
          rintro en w4 ⟨rfl, hB⟩
          have E12 := Lib.hid ((HE.out.step hB).box #[.string d, .int .i64 nn] 28 w4.heap.size rfl)
          clear hB HE hcell CD
          go_wp2_with fail
          refine (CR.out _ _ (E12.out.get 0 rfl)).mono ?_
          rintro en w5 ⟨rfl, hB⟩
          have E13 := Lib.hid ((E12.out.step hB).box #[.string d, .int .i64 nn] 28 w5.heap.size rfl)
          have k00 := E13.out.cellv 1 rfl 0 _ rfl
          have k01 := E13.out.cellv 1 rfl 1 _ rfl
          have k10 := E13.out.cellv 0 rfl 0 _ rfl
          have k11 := E13.out.cellv 0 rfl 1 _ rfl
          clear hB E12 CR
          go_wp2_with fail
          go_roundw
          case rel => exact ⟨m + 1, by omega, by go_num, E13.out.drop (by simp) (by simp)⟩
          case measure => simp [intOf]; omega
        · obtain rfl : m = 2 := by omega
          go_wp2_with fail
          go_roundw
          case rel => exact ⟨j + 1, by omega, by go_num, HE.out.drop (by simp) (by simp)⟩
          case measure => simp [intOf]; omega
    · obtain rfl : j = 2 := by omega
      have E20 := Lib.hid (HE.out.drop (m := [(.slice q1 ln c1, Y)]) (cs := []) (by simp) (by simp))
      clear HE HD1 HR1 HD2 HR2 HD3 HR3 HD4 HR4
      go_wp2_with fail
      refine (CP.out _ _ (E20.out.get 0 rfl)).mono ?_
      rintro e w21 ⟨rfl, hB⟩
      have E21 := Lib.hid (E20.out.step hB)
      clear E20 hB  
      clear CP
      have E22 := Lib.hid (E21.out.box #[.string t0, .int .i64 (d0 : Nat)] 28 (w21.heap.size) (by simp))
      clear E21 
      have k_b0 := E22.out.cellv 0 rfl 0 _ rfl
      go_wp2_with fail
      rw [Ht1.out]
      obtain ⟨WB, hWB⟩ : ∃ WB, (w21.alloc (.cells #[.string t0, .int .i64 (d0 : Nat)] 28)) = WB := ⟨_, rfl⟩
      rw [hWB] at E22 ⊢
      clear hWB
      rw [Lib.run_convert_string_bytes WB 9 32 5 t1 Try.underlying9 Try.underlying32 Try.underlying5]
      have hc1 := Lib.bytesWorld_cell WB 5 t1 (x / 8) (by omega)
      have hcs : Hid (∀ j, j < t1.size → (Lib.bytesWorld WB 5 t1).cell? ⟨WB.heap.size, j, none⟩ = some (.int .u8 ((t1.data.toList.getD j 0).toNat : Nat))) := fun j hj => Lib.bytesWorld_cell WB 5 t1 j hj
      have hn1 := Lib.bytesWorld_at_new WB 5 t1
      have ho1 := Lib.bytesWorld_at_old WB 5 t1
      have hs1 := Lib.bytesWorld_size WB 5 t1
      have hf1 : (Lib.bytesWorld WB 5 t1).frozen? ⟨WB.heap.size, x / 8, none⟩ = false := by
        have hsz1 : x / 8 < (Lib.bytesCells WB 5 t1).size := by simp [Lib.bytesCells]; omega
        simp [World.frozen?, hn1]; omega
      have hBc : Below WB.heap.size WB (Lib.bytesWorld WB 5 t1) := ⟨rfl, rfl, rfl, by rw [hs1]; omega, fun k hk => ho1 k hk⟩
      obtain ⟨y, hy⟩ : ∃ y, (t1.data.toList.getD (x / 8) 0).toNat = y := ⟨_, rfl⟩
      rw [hy] at hc1
      generalize Lib.bytesWorld WB 5 t1 = WC at *
      have hd : (x : Int).tdiv 8 = (x : Int) / 8 := Int.tdiv_eq_ediv_of_nonneg (by omega)
      have hm : (x : Int).tmod 8 = (x : Int) % 8 := Int.tmod_eq_emod_of_nonneg (by omega)
      have hq1 : 0 ≤ (x : Int) / 8 := by omega
      have hq2 : (x : Int) / 8 < (t1.size : Int) := by omega
      have hq3 : ((x : Int) / 8).toNat = x / 8 := by omega
      have hq4 : 0 ≤ (x : Int) % 8 := by omega
      have hq5 : ((x : Int) % 8).toNat = x % 8 := by omega
      have hq6 : IntKind.i64.wrap ((x : Int) / 8) = (x : Int) / 8 := IntWalk.i64_in _ (by omega)
      have hx8 : x / 8 < t1.size := by omega
      have Hy := Lib.hid hy
      have HBc := Lib.hid hBc
      clear hn1 ho1 hy hBc
      go_wp2_with fail
      refine (pick12_any which (8 * (t1.size : Int)) _ hk hk' (by omega) (by omega)).mono ?_
      rintro e w4 ⟨rfl, rfl⟩
      rw [Hxx.out]
      go_wp2_with fail
      go_still_tail 12, (by kernel_rfl)
      go_wp2_with fail
      have hy256 : y < 256 := by rw [← Hy.out]; exact UInt8.toNat_lt _
      have hr256 : 128 / 2 ^ (x % 8) < 256 := Nat.lt_of_le_of_lt (Nat.div_le_self _ _) (by omega)
      have hxr : y ^^^ (128 / 2 ^ (x % 8)) < 256 := Nat.xor_lt_two_pow (n := 8) hy256 hr256
      obtain ⟨vb, hvv⟩ : ∃ v : UInt8, v.toNat = y ^^^ (128 / 2 ^ (x % 8)) := ⟨UInt8.ofNat (y ^^^ (128 / 2 ^ (x % 8))), by rw [UInt8.toNat_ofNat', Nat.mod_eq_of_lt hxr]⟩
      have hbx : bits .xor .u8 (y : Int) (128 / 2 ^ (x % 8)) = (vb.toNat : Int) := by
        rw [hvv, ← u8_xor_nat _ _ hy256 hr256]; congr 1
      rw [hbx]
      obtain ⟨u, hu⟩ : ∃ u, t1.data.toList.set (x / 8) vb = u := ⟨_, rfl⟩
      have hul : u.length = t1.size := by rw [← hu]; simp
      have hcu : ∀ j (hj : j < u.length), ((WC.setCell ⟨WB.heap.size, x / 8, none⟩ (.int .u8 (vb.toNat : Int))).drew).cell? ((⟨WB.heap.size, 0, none⟩ : Addr).add j) = some (.int .u8 (u[j].toNat : Int)) := by
        subst hu
        exact turned_cells WC WB.heap.size t1.data.toList (x / 8) vb (by simpa using hx8) (by simpa using hcs.out)
      have hB7 : Below WB.heap.size WB ((WC.setCell ⟨WB.heap.size, x / 8, none⟩ (.int .u8 (vb.toNat : Int))).drew) := (HBc.out.setCell (p := ⟨WB.heap.size, x / 8, none⟩) (Nat.le_refl _) _).drew
      have HYx : Hid (vb.toNat = (t1.data.toList.getD (x / 8) 0).toNat ^^^ (128 / 2 ^ (x % 8))) := by show _ = _; rw [Hy.out, hvv]
      have Hu := Lib.hid hu
      obtain ⟨W7, hW7⟩ : ∃ W7, (WC.setCell ⟨WB.heap.size, x / 8, none⟩ (.int .u8 (vb.toNat : Int))).drew = W7 := ⟨_, rfl⟩
      rw [hW7] at hcu hB7 ⊢
      have E23 := Lib.hid (E22.out.step hB7)
      clear E22 hW7 hB7 hcs hc1 hf1 hs1 Hy hbx hu hvv hxr hr256 hy256 HBc hd hm hq1 hq2 hq3 hq4 hq5 hq6
      have kb0 := E23.out.cellv 0 rfl 0 _ rfl
      have hconv := run_convert_bytes_back (P := Try.prog) W7.drew 32 9 5 ⟨WB.heap.size, 0, none⟩ (grownCap WB t1.size 0 5) u Try.underlying32 Try.underlying5 Try.underlying9 hcu
      rw [hul] at hconv
      have hus : (⟨u.toArray⟩ : ByteArray).size = t1.size := by rw [← hul]; simp [ByteArray.size]
      generalize (⟨u.toArray⟩ : ByteArray) = y2 at *
      clear hcu
      go_cut [130, 131, 132] (fun sa sb sc wx => sa = .slice (some ⟨W7.heap.size, 0, none⟩) 3 3 ∧ sb = .int .i64 3 ∧ sc = .int .i64 0 ∧ Env w wx [(.slice q1 ln c1, Y)] ((W7.heap.size, #[.string (s.extract 0 L), .string t0, .string y2], 9) :: [(w21.heap.size, #[.string t0, .int .i64 (d0 : Nat)], 28)]))
      case first =>
        first | go_region_with (fail) | fail
        all_goals
          go_wp2_with fail
          go_meet
          exact ⟨rfl, rfl, rfl, (E23.out.box _ _ _ rfl).drew⟩
      case rest =>
        obtain ⟨rfl, rfl, rfl, hE⟩ := hcut
        have hE1 := hE.drop (m := []) (cs := [(W7.heap.size, #[.string (s.extract 0 L), .string t0, .string y2], 9)]) (by simp) (by simp)
        have HE1 := Lib.hid hE1
        have hex : (s.extract 0 L).size ≤ 60 := by rw [hfr]; omega
        generalize s.extract 0 L = y1 at *
        obtain ⟨bs, hbs⟩ : ∃ x, W7.heap.size = x := ⟨_, rfl⟩
        rw [hbs] at HE1 ⊢
        clear hE hE1 E23 hconv hfr hL1 hL2 hL3 Hu HYx kb0 hbs
        go_wp2_with fail
        go_loopw [132] (fun iv wr => ∃ j : Nat, j ≤ 3 ∧ iv = .int .i64 j ∧ Env w wr [] [(bs, #[.string y1, .string t0, .string y2], 9)]) (fun iv _ => 4 - (intOf iv).toNat)
        case atStart => exact ⟨0, by omega, rfl, HE1.out⟩
        case round =>
          obtain ⟨j, hj, rfl, hE⟩ := hrel
          have HE := Lib.hid hE
          clear hE HE1
          by_cases hlt : j < 3
          · obtain ⟨z, hz, hzs⟩ : ∃ z : ByteArray, wr.cell? ⟨bs, j, none⟩ = some (.string z) ∧ z.size ≤ 401 := by
              rcases (show j = 0 ∨ j = 1 ∨ j = 2 by omega) with rfl | rfl | rfl
              · exact ⟨y1, HE.out.cellv 0 rfl 0 _ rfl, by omega⟩
              · exact ⟨t0, HE.out.cellv 0 rfl 1 _ rfl, by omega⟩
              · exact ⟨y2, HE.out.cellv 0 rfl 2 _ rfl, by omega⟩
            go_wp2_with fail
            refine (CAt.out _).mono ?_
            rintro e w_ ⟨rfl, rfl⟩
            go_wp2_with fail
            obtain ⟨wz, hwz⟩ : ∃ x, wr.alloc (.cells #[.int .i64 at0, .int .i64 (b1 : Int)] 3) = x := ⟨_, rfl⟩
            have EI : Hid (Env w wz [] [(wr.heap.size, #[.int .i64 at0, .int .i64 (b1 : Int)], 3), (bs, #[.string y1, .string t0, .string y2], 9)]) := by
              show Env _ _ _ _
              rw [← hwz]
              exact HE.out.box _ _ _ rfl
            rw [hwz]
            obtain ⟨bi, hblk⟩ : ∃ x, wr.heap.size = x := ⟨_, rfl⟩
            rw [hblk] at EI ⊢
            clear hwz HE hblk
            clear hz
            go_loopw [141] (fun iv wr => ∃ k : Nat, k ≤ 2 ∧ iv = .int .i64 k ∧ Env w wr [] [(bi, #[.int .i64 at0, .int .i64 (b1 : Int)], 3), (bs, #[.string y1, .string t0, .string y2], 9)]) (fun iv _ => 3 - (intOf iv).toNat)
            case atStart => exact ⟨0, by omega, rfl, EI.out⟩
            case round =>
              obtain ⟨k, hkk, rfl, hE⟩ := hrel
              have HE := Lib.hid hE
              clear hE EI
              by_cases hlt2 : k < 2
              · obtain ⟨i0, hi0, hz⟩ : ∃ i0 : Int, i0 ≤ 9223372036854775807 ∧ wr.cell? ⟨bi, k, none⟩ = some (.int .i64 i0) := by
                  rcases (show k = 0 ∨ k = 1 by omega) with rfl | rfl
                  · exact ⟨at0, by omega, HE.out.cellv 0 rfl 0 _ rfl⟩
                  · exact ⟨(b1 : Int), by omega, HE.out.cellv 0 rfl 1 _ rfl⟩
                go_wp2_with fail
                refine (CNn.out _).mono ?_
                rintro e w_ ⟨rfl, rfl⟩
                go_wp2_with fail
                obtain ⟨wz, hwz⟩ : ∃ x, wr.alloc (.cells #[.int .i64 n5, .int .i64 (b2 : Int), .int .i64 (ln : Int)] 3) = x := ⟨_, rfl⟩
                have EM : Hid (Env w wz [] [(wr.heap.size, #[.int .i64 n5, .int .i64 (b2 : Int), .int .i64 (ln : Int)], 3), (bi, #[.int .i64 at0, .int .i64 (b1 : Int)], 3), (bs, #[.string y1, .string t0, .string y2], 9)]) := by
                  show Env _ _ _ _
                  rw [← hwz]
                  exact HE.out.box _ _ _ rfl
                rw [hwz]
                obtain ⟨bm, hblk⟩ : ∃ x, wr.heap.size = x := ⟨_, rfl⟩
                rw [hblk] at EM ⊢
                clear hwz HE hblk
                clear hz
                go_loopw [153] (fun iv wr => ∃ m : Nat, m ≤ 3 ∧ iv = .int .i64 m ∧ Env w wr [] [(bm, #[.int .i64 n5, .int .i64 (b2 : Int), .int .i64 (ln : Int)], 3), (bi, #[.int .i64 at0, .int .i64 (b1 : Int)], 3), (bs, #[.string y1, .string t0, .string y2], 9)]) (fun iv _ => 4 - (intOf iv).toNat)
                case atStart => exact ⟨0, by omega, rfl, EM.out⟩
                case round =>
                  obtain ⟨m, hm, rfl, hE⟩ := hrel
                  have HE := Lib.hid hE
                  clear hE EM
                  by_cases hlt3 : m < 3
                  · obtain ⟨m0, hz⟩ : ∃ m0 : Int, wr.cell? ⟨bm, m, none⟩ = some (.int .i64 m0) := by
                      rcases (show m = 0 ∨ m = 1 ∨ m = 2 by omega) with rfl | rfl | rfl
                      · exact ⟨_, HE.out.cellv 0 rfl 0 _ rfl⟩
                      · exact ⟨_, HE.out.cellv 0 rfl 1 _ rfl⟩
                      · exact ⟨_, HE.out.cellv 0 rfl 2 _ rfl⟩
                    have hd : decide ((m : Int) < 3) = true := by simp; omega
                    go_wp2_with fail
                    obtain ⟨wz, hwz⟩ : ∃ x, wr.alloc (.cells #[.int .i64 tables, .int .i64 (t : Int)] 3) = x := ⟨_, rfl⟩
                    have ET : Hid (Env w wz [] [(wr.heap.size, #[.int .i64 tables, .int .i64 (t : Int)], 3), (bm, #[.int .i64 n5, .int .i64 (b2 : Int), .int .i64 (ln : Int)], 3), (bi, #[.int .i64 at0, .int .i64 (b1 : Int)], 3), (bs, #[.string y1, .string t0, .string y2], 9)]) := by
                      show Env _ _ _ _
                      rw [← hwz]
                      exact HE.out.box _ _ _ rfl
                    rw [hwz]
                    obtain ⟨bt, hblk⟩ : ∃ x, wr.heap.size = x := ⟨_, rfl⟩
                    rw [hblk] at ET ⊢
                    clear hwz HE hblk
                    clear hz
                    go_loopw [161] (fun iv wr => ∃ r : Nat, r ≤ 2 ∧ iv = .int .i64 r ∧ Env w wr [] [(bt, #[.int .i64 tables, .int .i64 (t : Int)], 3), (bm, #[.int .i64 n5, .int .i64 (b2 : Int), .int .i64 (ln : Int)], 3), (bi, #[.int .i64 at0, .int .i64 (b1 : Int)], 3), (bs, #[.string y1, .string t0, .string y2], 9)]) (fun iv _ => 3 - (intOf iv).toNat)
                    case atStart => exact ⟨0, by omega, rfl, ET.out⟩
                    case round =>
                      obtain ⟨r, hr2, rfl, hE⟩ := hrel
                      have HE := Lib.hid hE
                      clear hE ET
                      by_cases hlt4 : r < 2
                      · obtain ⟨y0, hz⟩ : ∃ y0 : Int, wr.cell? ⟨bt, r, none⟩ = some (.int .i64 y0) := by
                          rcases (show r = 0 ∨ r = 1 by omega) with rfl | rfl
                          · exact ⟨_, HE.out.cellv 0 rfl 0 _ rfl⟩
                          · exact ⟨_, HE.out.cellv 0 rfl 1 _ rfl⟩
                        obtain ⟨R, xx, ee, hR, CTk, CRk⟩ := stakes_any z i0 m0 y0 (by omega) hi0
                        have CTk := Lib.hid CTk
                        have CRk := Lib.hid CRk
                        have CI : Hid (∀ W (u1 u2 : Value), IsInts W W.heap.size u1 R → IsInts W W.heap.size u2 R → Calls Try.prog 15 #[u1, u2] W fun e w' => e = .returned (.bool true) ∧ Below W.heap.size W w') := fun W u1 u2 h1 h2 => by
                          have := refInts_any W u1 u2 _ _ h1 h2 (by omega) (by omega)
                          rw [decide_eq_true rfl] at this
                          exact this
                        obtain ⟨rl, hrl⟩ : ∃ x, R.length = x := ⟨_, rfl⟩
                        rw [hrl] at CTk CRk hR
                        clear hrl
                        go_wp2_with fail
                        refine (CTk.out _).mono ?_
                        rintro en w5 ⟨q5, c5, rfl, hv, hB⟩
                        have E5 := Lib.hid ((HE.out.step hB).add hv)
                        clear HE hB hv hz CTk
                        go_wp2_with fail
                        refine (CRk.out _).mono ?_
                        rintro en w6 ⟨q6, c6, rfl, hv, hB⟩
                        have E6 := Lib.hid ((E5.out.step hB).add hv)
                        clear E5 hB hv CRk
                        go_wp2_with fail
                        refine (CI.out _ _ _ (E6.out.get 1 rfl) (E6.out.get 0 rfl)).mono ?_
                        rintro en w7 ⟨rfl, hB⟩
                        have E7 := Lib.hid (E6.out.step hB)
                        clear E6 hB CI
                        go_wp2
                        go_roundw
                        case rel => exact ⟨r + 1, by omega, by go_num, E7.out.drop (by simp) (by simp)⟩
                        case measure => simp [intOf]; omega
                      · obtain rfl : r = 2 := by omega
                        go_wp2
                        go_roundw
                        case rel => exact ⟨m + 1, by omega, by go_num, HE.out.drop (by simp) (by simp)⟩
                        case measure => simp [intOf]; omega
                  · obtain rfl : m = 3 := by omega
                    go_wp2
                    go_roundw
                    case rel => exact ⟨k + 1, by omega, by go_num, HE.out.drop (by simp) (by simp)⟩
                    case measure => simp [intOf]; omega
              · obtain rfl : k = 2 := by omega
                go_wp2
                go_roundw
                case rel => exact ⟨j + 1, by omega, by go_num, HE.out.drop (by simp) (by simp)⟩
                case measure => simp [intOf]; omega
          · obtain rfl : j = 3 := by omega
            go_wp2
            go_ret
            exact ⟨rfl, HE.out.bel⟩
end Go.Proofs.Ytpccdohhiojlkaa
