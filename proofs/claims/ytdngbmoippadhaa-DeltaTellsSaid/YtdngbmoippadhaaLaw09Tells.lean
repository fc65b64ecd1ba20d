/- DeltaTells: the walk. -/
import Derived.Test.YtdngbmoippadhaaLaw09Forms
import Derived.Test.YtdngbmoippadhaaTells09
namespace Go.Proofs.Ytdngbmoippadhaa
open Go.RowKit
set_option linter.unusedVariables false

set_option maxRecDepth 100000 in
set_option maxHeartbeats 6400000 in
theorem dtells_walk (w : World) (u v : Value) (sm raw : List Int) (s : ByteArray) (at0 n which : Int) (hso : IsInts w w.heap.size u sm) (hv : IsInts w w.heap.size v raw) (hr : I64s raw) (hs : s.size ≤ 9223372036854775807) (hat : -9223372036854775808 ≤ at0) (hat' : at0 ≤ 9223372036854775807) (hn : -9223372036854775808 ≤ n) (hn' : n ≤ 9223372036854775807) (hk : -9223372036854775808 ≤ which) (hk' : which ≤ 9223372036854775807) :
    Calls Try.prog 3 #[u, v, .string s, .int .i64 at0, .int .i64 n, .int .i64 which] w fun e w' => e = .returned (.bool true) ∧ Below w.heap.size w w' := by
  have HRW := Lib.hid hv
  have HSW := Lib.hid hso
  have hml := lensF_mem raw
  obtain ⟨hl2, hl60⟩ := lensF_len raw
  obtain ⟨L, hL⟩ : ∃ L : Nat, L = min s.size 60 := ⟨_, rfl⟩
  have hL1 : (if (60 : Int) < s.size then 60 else (s.size : Int)) = L := by rw [hL]; split <;> omega
  have hL2 : L ≤ s.size := by omega
  have hL3 : L ≤ 60 := by omega
  have hfr := front_size s L hL2
  unfold front at hfr
  obtain ⟨As, cas, rfl, hcs1, hcs2⟩ := hso.shape
  unfold maxLen at hcs2
  obtain ⟨NS, hNS⟩ : ∃ n, sm.length = n := ⟨_, rfl⟩
  rw [hNS] at HSW hcs1 ⊢
  obtain ⟨K, hK⟩ : ∃ K : Nat, K = min NS 300 := ⟨_, rfl⟩
  have hK1 : (if (300 : Int) < NS then 300 else (NS : Int)) = K := by rw [hK]; split <;> omega
  have hKn : K ≤ NS := by omega
  have hK3 : K ≤ 300 := by omega
  obtain ⟨P1, hP1⟩ : ∃ P, sm.take K = P := ⟨_, rfl⟩
  have hPl : P1.length = K := by rw [← hP1, List.length_take]; omega
  obtain ⟨d1, n1, e1, CD1, CR1⟩ := puts_any P1 (by omega)
  obtain ⟨d2, n2, e2, CD2, CR2⟩ := puts_any (ints (lensF raw)) (by rw [length_ints]; omega)
  have HD1 := Lib.hid CD1
  have HR1 := Lib.hid CR1
  have HD2 := Lib.hid CD2
  have HR2 := Lib.hid CR2
  clear CD1 CR1 CD2 CR2
  have hp := pickF_lt n 20 (by omega)
  obtain ⟨a, ha⟩ : ∃ k : Nat, pickF n 20 = (k : Int) := ⟨(pickF n 20).toNat, by omega⟩
  have ha20 : a < 20 := by omega
  have HA := Lib.hid ha
  have hpi := pickF_lt at0 20 (by omega)
  obtain ⟨b, hb⟩ : ∃ k : Nat, pickF at0 20 = (k : Int) := ⟨(pickF at0 20).toNat, by omega⟩
  have hb20 : b < 20 := by omega
  have HB := Lib.hid hb
  have CL : Hid (∀ W, IsInts W W.heap.size v raw → Calls Try.prog 10 #[v] W fun e w' => ∃ q c, e = .returned (.slice q (lensF raw).length c) ∧ IsInts w' w'.heap.size (.slice q (lensF raw).length c) (ints (lensF raw)) ∧ Below W.heap.size W w') := fun W h => lens09_is W v raw h hr
  have CP : Hid (∀ W (u : Value), IsInts W W.heap.size u (ints (lensF raw)) → Calls Try.prog 12 #[u] W fun e w' => e = .returned (.tuple #[.agg #[.string (txt (deltaL (lensF raw))), .int .i64 ((deltaL (lensF raw)).length : Nat)], .int .i64 0]) ∧ Below W.heap.size W w') := fun W u h => rput_ok W u _ h (by omega) (by omega) hml
  have hdb := length_deltaL (lensF raw) (fun m hm => (hml m hm).2)
  have hdb2 := length_deltaL_dist (lensF raw)
  obtain ⟨t, ht⟩ : ∃ t, txt (deltaL (lensF raw)) = t := ⟨_, rfl⟩
  have hts : t.size ≤ 400 := by rw [← ht, txt_size]; omega
  have hpos : 0 < t.size := by rw [← ht, txt_size]; omega
  rw [ht] at CP
  obtain ⟨d0, hd0⟩ : ∃ d0, (deltaL (lensF raw)).length = d0 := ⟨_, rfl⟩
  rw [hd0] at CP
  obtain ⟨ln, hln⟩ : ∃ ln, (lensF raw).length = ln := ⟨_, rfl⟩
  rw [hln] at CL hl60
  generalize lensF raw = l at *
  have hx := pickF_lt which (8 * (t.size : Int)) (by omega)
  obtain ⟨x, hxx⟩ : ∃ k : Nat, pickF which (8 * (t.size : Int)) = (k : Int) := ⟨(pickF which (8 * (t.size : Int))).toNat, by omega⟩
  have hx1 : x < 8 * t.size := by omega
  have Hxx := Lib.hid hxx
  have HP1 := Lib.hid hP1
  have hln2 : (ints l).length = ln := by rw [length_ints, hln]
  have HLN := Lib.hid hln2
  clear hv hso hr hml hdb hdb2 hL hp hpi ha hb ht hd0 hx hxx hl2 hK hNS hP1 hln hln2
  go_enter Try.func3, Try.ntmps3
  have E0 := Lib.hid (Env.nil w)
  go_wp2_with fail
  refine (awake9_any _).mono ?_
  rintro e w1 ⟨rfl, hB⟩
  have E1 := Lib.hid (E0.out.step hB)
  clear E0 hB  
  go_wp2_with fail
  refine (CL.out _ (E1.out.old HRW.out)).mono ?_
  rintro e w2 ⟨q1, c1, rfl, hv, hB⟩
  have E2 := Lib.hid ((E1.out.step hB).add hv)
  clear E1 hB hv 
  obtain ⟨vk, hk1, ⟨qk, ck, hk2⟩, hk3, hk4, hk5⟩ := (E2.out.old HSW.out).cut 0 K (Nat.zero_le _) hKn
  subst hk2
  rw [Nat.sub_zero] at hk1 hk3 hk4 hk5
  have hcut := hk5 rfl
  have E9 := Lib.hid (E2.out.add (by rw [List.drop_zero, HP1.out] at hk1; exact hk1))
  clear hk1 hk3 hk4 hk5 E2 HSW HRW
  go_wp2_with fail
  obtain ⟨wl, hwl⟩ : ∃ x, w2.alloc (.cells #[.slice qk K ck, .slice q1 ln c1] 22) = x := ⟨_, rfl⟩
  have E10 : Hid (Env w wl [(.slice qk K ck, P1), (.slice q1 ln c1, ints l)] [(w2.heap.size, #[.slice qk K ck, .slice q1 ln c1], 22)]) := by
    show Env _ _ _ _
    rw [← hwl]
    exact E9.out.box _ _ _ rfl
  rw [hwl]
  obtain ⟨bl, hbl⟩ : ∃ x, w2.heap.size = x := ⟨_, rfl⟩
  rw [hbl] at E10 ⊢
  clear hwl E9 hbl hcut
  go_loopw [48] (fun iv wr => ∃ j : Nat, j ≤ 2 ∧ iv = .int .i64 j ∧ Env w wr [(.slice qk K ck, P1), (.slice q1 ln c1, ints l)] [(bl, #[.slice qk K ck, .slice q1 ln c1], 22)]) (fun iv _ => 3 - (intOf iv).toNat)
  case atStart => exact ⟨0, by omega, rfl, E10.out⟩
  case round =>
    obtain ⟨j, hj, rfl, hE⟩ := hrel
    have HE := Lib.hid hE
    clear hE E10
    by_cases hlt : j < 2
    · obtain ⟨q, k, c, X, d, nn, e, hcell, hI, CD, CR⟩ : ∃ (q : Option Addr) (k c : Nat) (X : List Int) (d : ByteArray) (nn e : Int), wr.cell? ⟨bl, j, none⟩ = some (.slice q k c) ∧ IsInts wr wr.heap.size (.slice q k c) X ∧
          Hid (∀ (W : World) (v : Value), IsInts W W.heap.size v X → Calls Try.prog 11 #[v] W fun en w' => en = .returned (.tuple #[.agg #[.string d, .int .i64 nn], .int .i64 e]) ∧ Below W.heap.size W w') ∧
          Hid (∀ (W : World) (v : Value), IsInts W W.heap.size v X → Calls Try.prog 12 #[v] W fun en w' => en = .returned (.tuple #[.agg #[.string d, .int .i64 nn], .int .i64 e]) ∧ Below W.heap.size W w') := by
        rcases (show j = 0 ∨ j = 1 by omega) with rfl | rfl
        · exact ⟨_, _, _, _, _, _, _, HE.out.cellv 0 rfl 0 _ rfl, HE.out.get 0 rfl, HD1, HR1⟩
        · exact ⟨_, _, _, _, _, _, _, HE.out.cellv 0 rfl 1 _ rfl, HE.out.get 1 rfl, HD2, HR2⟩
      have E11 := Lib.hid (HE.out.add hI)
      clear HE hI
      go_wp2_with fail
      refine (CD.out _ _ (E11.out.get 0 rfl)).mono ?_
      rintro en w4 ⟨rfl, hB⟩
      have E12 := Lib.hid ((E11.out.step hB).box #[.string d, .int .i64 nn] 27 w4.heap.size rfl)
      clear hB E11 hcell
      go_wp2_with fail
      refine (CR.out _ _ (E12.out.get 0 rfl)).mono ?_
      rintro en w5 ⟨rfl, hB⟩
      have E13 := Lib.hid ((E12.out.step hB).box #[.string d, .int .i64 nn] 27 w5.heap.size rfl)
      have k00 := E13.out.cellv 1 rfl 0 _ rfl
      have k01 := E13.out.cellv 1 rfl 1 _ rfl
      have k10 := E13.out.cellv 0 rfl 0 _ rfl
      have k11 := E13.out.cellv 0 rfl 1 _ rfl
      clear hB E12
      go_wp2
      go_roundw
      case rel => exact ⟨j + 1, by omega, by go_num, E13.out.drop (by simp) (by simp)⟩
      case measure => simp [intOf]; omega
    · obtain rfl : j = 2 := by omega
      have E20 := Lib.hid (HE.out.drop (m := [(.slice q1 ln c1, ints l)]) (cs := []) (by simp) (by simp))
      clear HE HD1 HR1 HD2 HR2
      go_wp2_with fail
      refine (CP.out _ _ (E20.out.get 0 rfl)).mono ?_
      rintro e w21 ⟨rfl, hB⟩
      have E21 := Lib.hid (E20.out.step hB)
      clear E20 hB  
      clear CP
      have E22 := Lib.hid (E21.out.box #[.string t, .int .i64 (d0 : Nat)] 27 (w21.heap.size) (by simp))
      clear E21 
      have k_b0 := E22.out.cellv 0 rfl 0 _ rfl
      go_wp2_with fail
      obtain ⟨WB, hWB⟩ : ∃ WB, (w21.alloc (.cells #[.string t, .int .i64 (d0 : Nat)] 27)) = WB := ⟨_, rfl⟩
      rw [hWB] at E22 ⊢
      clear hWB
      rw [Lib.run_convert_string_bytes WB 9 31 5 t Try.underlying9 Try.underlying31 Try.underlying5]
      have hc1 := Lib.bytesWorld_cell WB 5 t (x / 8) (by omega)
      have hcs : Hid (∀ j, j < t.size → (Lib.bytesWorld WB 5 t).cell? ⟨WB.heap.size, j, none⟩ = some (.int .u8 ((t.data.toList.getD j 0).toNat : Nat))) := fun j hj => Lib.bytesWorld_cell WB 5 t j hj
      have hn1 := Lib.bytesWorld_at_new WB 5 t
      have ho1 := Lib.bytesWorld_at_old WB 5 t
      have hs1 := Lib.bytesWorld_size WB 5 t
      have hf1 : (Lib.bytesWorld WB 5 t).frozen? ⟨WB.heap.size, x / 8, none⟩ = false := by
        have hsz1 : x / 8 < (Lib.bytesCells WB 5 t).size := by simp [Lib.bytesCells]; omega
        simp [World.frozen?, hn1]; omega
      have hBc : Below WB.heap.size WB (Lib.bytesWorld WB 5 t) := ⟨rfl, rfl, rfl, by rw [hs1]; omega, fun k hk => ho1 k hk⟩
      obtain ⟨y, hy⟩ : ∃ y, (t.data.toList.getD (x / 8) 0).toNat = y := ⟨_, rfl⟩
      rw [hy] at hc1
      generalize Lib.bytesWorld WB 5 t = WC at *
      have hd : (x : Int).tdiv 8 = (x : Int) / 8 := Int.tdiv_eq_ediv_of_nonneg (by omega)
      have hm : (x : Int).tmod 8 = (x : Int) % 8 := Int.tmod_eq_emod_of_nonneg (by omega)
      have hq1 : 0 ≤ (x : Int) / 8 := by omega
      have hq2 : (x : Int) / 8 < (t.size : Int) := by omega
      have hq3 : ((x : Int) / 8).toNat = x / 8 := by omega
      have hq4 : 0 ≤ (x : Int) % 8 := by omega
      have hq5 : ((x : Int) % 8).toNat = x % 8 := by omega
      have hq6 : IntKind.i64.wrap ((x : Int) / 8) = (x : Int) / 8 := IntWalk.i64_in _ (by omega)
      have hx8 : x / 8 < t.size := by omega
      have Hy := Lib.hid hy
      have HBc := Lib.hid hBc
      clear hn1 ho1 hy hBc
      go_wp2_with fail
      refine (pick09_any which (8 * (t.size : Int)) _ hk hk' (by omega) (by omega)).mono ?_
      rintro e w4 ⟨rfl, rfl⟩
      rw [Hxx.out]
      go_wp2_with fail
      go_still_tail 12, (by kernel_rfl)
      go_wp2_with fail
      have hy256 : y < 256 := by rw [← Hy.out]; exact UInt8.toNat_lt _
      have hr256 : 128 / 2 ^ (x % 8) < 256 := Nat.lt_of_le_of_lt (Nat.div_le_self _ _) (by omega)
      have hxr : y ^^^ (128 / 2 ^ (x % 8)) < 256 := Nat.xor_lt_two_pow (n := 8) hy256 hr256
      obtain ⟨vb, hvv⟩ : ∃ v : UInt8, v.toNat = y ^^^ (128 / 2 ^ (x % 8)) := ⟨UInt8.ofNat (y ^^^ (128 / 2 ^ (x % 8))), by rw [UInt8.toNat_ofNat', Nat.mod_eq_of_lt hxr]⟩
      have hbx : bits .xor .u8 (y : Int) (128 / 2 ^ (x % 8)) = (vb.toNat : Int) := by
        rw [hvv, ← u8_xor_nat _ _ hy256 hr256]; congr 1
      rw [hbx]
      obtain ⟨u, hu⟩ : ∃ u, t.data.toList.set (x / 8) vb = u := ⟨_, rfl⟩
      have hul : u.length = t.size := by rw [← hu]; simp
      have hcu : ∀ j (hj : j < u.length), ((WC.setCell ⟨WB.heap.size, x / 8, none⟩ (.int .u8 (vb.toNat : Int))).drew).cell? ((⟨WB.heap.size, 0, none⟩ : Addr).add j) = some (.int .u8 (u[j].toNat : Int)) := by
        subst hu
        exact turned_cells WC WB.heap.size t.data.toList (x / 8) vb (by simpa using hx8) (by simpa using hcs.out)
      have hB7 : Below WB.heap.size WB ((WC.setCell ⟨WB.heap.size, x / 8, none⟩ (.int .u8 (vb.toNat : Int))).drew) := (HBc.out.setCell (p := ⟨WB.heap.size, x / 8, none⟩) (Nat.le_refl _) _).drew
      have HYx : Hid (vb.toNat = (t.data.toList.getD (x / 8) 0).toNat ^^^ (128 / 2 ^ (x % 8))) := by show _ = _; rw [Hy.out, hvv]
      have Hu := Lib.hid hu
      obtain ⟨W7, hW7⟩ : ∃ W7, (WC.setCell ⟨WB.heap.size, x / 8, none⟩ (.int .u8 (vb.toNat : Int))).drew = W7 := ⟨_, rfl⟩
      rw [hW7] at hcu hB7 ⊢
      have E23 := Lib.hid (E22.out.step hB7)
      clear E22 hW7 hB7 hcs hc1 hf1 hs1 Hy hbx hu hvv hxr hr256 hy256 HBc hd hm hq1 hq2 hq3 hq4 hq5 hq6
      have kb0 := E23.out.cellv 0 rfl 0 _ rfl
      have hconv := run_convert_bytes_back (P := Try.prog) W7.drew 31 9 5 ⟨WB.heap.size, 0, none⟩ (grownCap WB t.size 0 5) u Try.underlying31 Try.underlying5 Try.underlying9 hcu
      rw [hul] at hconv
      have hus : (⟨u.toArray⟩ : ByteArray).size = t.size := by rw [← hul]; simp [ByteArray.size]
      generalize (⟨u.toArray⟩ : ByteArray) = y2 at *
      clear hcu
      go_cut [106, 107, 108] (fun sa sb sc wx => sa = .slice (some ⟨W7.heap.size, 0, none⟩) 3 3 ∧ sb = .int .i64 3 ∧ sc = .int .i64 0 ∧ Env w wx [(.slice q1 ln c1, ints l)] ((W7.heap.size, #[.string (s.extract 0 L), .string t, .string y2], 9) :: [(w21.heap.size, #[.string t, .int .i64 (d0 : Nat)], 27)]))
      case first =>
        first | go_region_with (fail) | fail
        all_goals
          go_wp2_with fail
          go_meet
          exact ⟨rfl, rfl, rfl, (E23.out.box _ _ _ rfl).drew⟩
      case rest =>
        obtain ⟨rfl, rfl, rfl, hE⟩ := hcut
        have hE1 := hE.drop (m := []) (cs := [(W7.heap.size, #[.string (s.extract 0 L), .string t, .string y2], 9)]) (by simp) (by simp)
        have HE1 := Lib.hid hE1
        have hex : (s.extract 0 L).size ≤ 60 := by rw [hfr]; exact hL3
        generalize s.extract 0 L = y1 at *
        obtain ⟨bs, hbs⟩ : ∃ x, W7.heap.size = x := ⟨_, rfl⟩
        rw [hbs] at HE1 ⊢
        clear hE hE1 E23 hconv hfr hL1 hL2 hL3 Hu HYx kb0 hbs
        go_wp2_with fail
        go_loopw [108] (fun iv wr => ∃ j : Nat, j ≤ 3 ∧ iv = .int .i64 j ∧ Env w wr [] [(bs, #[.string y1, .string t, .string y2], 9)]) (fun iv _ => 4 - (intOf iv).toNat)
        case atStart => exact ⟨0, by omega, rfl, HE1.out⟩
        case round =>
          obtain ⟨j, hj, rfl, hE⟩ := hrel
          have HE := Lib.hid hE
          clear hE HE1
          by_cases hlt : j < 3
          · obtain ⟨z, hz, hzs⟩ : ∃ z : ByteArray, wr.cell? ⟨bs, j, none⟩ = some (.string z) ∧ z.size ≤ 400 := by
              rcases (show j = 0 ∨ j = 1 ∨ j = 2 by omega) with rfl | rfl | rfl
              · exact ⟨y1, HE.out.cellv 0 rfl 0 _ rfl, by omega⟩
              · exact ⟨t, HE.out.cellv 0 rfl 1 _ rfl, by omega⟩
              · exact ⟨y2, HE.out.cellv 0 rfl 2 _ rfl, by omega⟩
            go_wp2_with fail
            refine (pick09_any at0 20 _ hat hat' (by omega) (by omega)).mono ?_
            rintro e w_ ⟨rfl, rfl⟩
            rw [HB.out]
            go_wp2_with fail
            obtain ⟨wi, hwi⟩ : ∃ x, wr.alloc (.cells #[.int .i64 at0, .int .i64 (b : Int)] 3) = x := ⟨_, rfl⟩
            have EI : Hid (Env w wi [] [(wr.heap.size, #[.int .i64 at0, .int .i64 (b : Int)], 3), (bs, #[.string y1, .string t, .string y2], 9)]) := by
              show Env _ _ _ _
              rw [← hwi]
              exact HE.out.box _ _ _ rfl
            rw [hwi]
            obtain ⟨bi, hbi⟩ : ∃ x, wr.heap.size = x := ⟨_, rfl⟩
            rw [hbi] at EI ⊢
            clear hwi HE hbi hz
            go_loopw [117] (fun iv wr => ∃ k : Nat, k ≤ 2 ∧ iv = .int .i64 k ∧ Env w wr [] [(bi, #[.int .i64 at0, .int .i64 (b : Int)], 3), (bs, #[.string y1, .string t, .string y2], 9)]) (fun iv _ => 3 - (intOf iv).toNat)
            case atStart => exact ⟨0, by omega, rfl, EI.out⟩
            case round =>
              obtain ⟨k, hkk, rfl, hE⟩ := hrel
              have HE := Lib.hid hE
              clear hE EI
              by_cases hlt2 : k < 2
              · obtain ⟨i0, hi0, hz⟩ : ∃ i0 : Int, i0 ≤ 9223372036854775807 ∧ wr.cell? ⟨bi, k, none⟩ = some (.int .i64 i0) := by
                  rcases (show k = 0 ∨ k = 1 by omega) with rfl | rfl
                  · exact ⟨at0, by omega, HE.out.cellv 0 rfl 0 _ rfl⟩
                  · exact ⟨(b : Int), by omega, HE.out.cellv 0 rfl 1 _ rfl⟩
                go_wp2_with fail
                refine (pick09_any n 20 _ hn hn' (by omega) (by omega)).mono ?_
                rintro e w_ ⟨rfl, rfl⟩
                rw [HA.out]
                go_wp2_with fail
                obtain ⟨wk, hwk⟩ : ∃ x, wr.alloc (.cells #[.int .i64 n, .int .i64 (2 + (a : Int)), .int .i64 (ln : Int)] 3) = x := ⟨_, rfl⟩
                have EK : Hid (Env w wk [] [(wr.heap.size, #[.int .i64 n, .int .i64 (2 + (a : Int)), .int .i64 (ln : Int)], 3), (bi, #[.int .i64 at0, .int .i64 (b : Int)], 3), (bs, #[.string y1, .string t, .string y2], 9)]) := by
                  show Env _ _ _ _
                  rw [← hwk]
                  exact HE.out.box _ _ _ rfl
                rw [hwk]
                obtain ⟨bk, hbk⟩ : ∃ x, wr.heap.size = x := ⟨_, rfl⟩
                rw [hbk] at EK ⊢
                clear hwk HE hbk hz
                go_loopw [129] (fun iv wr => ∃ m : Nat, m ≤ 3 ∧ iv = .int .i64 m ∧ Env w wr [] [(bk, #[.int .i64 n, .int .i64 (2 + (a : Int)), .int .i64 (ln : Int)], 3), (bi, #[.int .i64 at0, .int .i64 (b : Int)], 3), (bs, #[.string y1, .string t, .string y2], 9)]) (fun iv _ => 4 - (intOf iv).toNat)
                case atStart => exact ⟨0, by omega, rfl, EK.out⟩
                case round =>
                  obtain ⟨m, hm, rfl, hE⟩ := hrel
                  have HE := Lib.hid hE
                  clear hE EK
                  by_cases hlt3 : m < 3
                  · obtain ⟨m0, hz⟩ : ∃ m0 : Int, wr.cell? ⟨bk, m, none⟩ = some (.int .i64 m0) := by
                      rcases (show m = 0 ∨ m = 1 ∨ m = 2 by omega) with rfl | rfl | rfl
                      · exact ⟨_, HE.out.cellv 0 rfl 0 _ rfl⟩
                      · exact ⟨_, HE.out.cellv 0 rfl 1 _ rfl⟩
                      · exact ⟨_, HE.out.cellv 0 rfl 2 _ rfl⟩
                    obtain ⟨R, xx, ee, hR, CT, CR⟩ := takes_any z i0 m0 (by omega) hi0
                    have CT := Lib.hid CT
                    have CR := Lib.hid CR
                    have CI : Hid (∀ W (u1 u2 : Value), IsInts W W.heap.size u1 R → IsInts W W.heap.size u2 R → Calls Try.prog 16 #[u1, u2] W fun e w' => e = .returned (.bool true) ∧ Below W.heap.size W w') := fun W u1 u2 h1 h2 => by
                      have := refInts_any W u1 u2 _ _ h1 h2 (by omega) (by omega)
                      rw [decide_eq_true rfl] at this
                      exact this
                    obtain ⟨rl, hrl⟩ : ∃ x, R.length = x := ⟨_, rfl⟩
                    rw [hrl] at CT CR hR
                    clear hrl
                    go_wp2_with fail
                    refine (CT.out _).mono ?_
                    rintro en w5 ⟨q5, c5, rfl, hv, hB⟩
                    have E5 := Lib.hid ((HE.out.step hB).add hv)
                    clear HE hB hv hz CT
                    go_wp2_with fail
                    refine (CR.out _).mono ?_
                    rintro en w6 ⟨q6, c6, rfl, hv, hB⟩
                    have E6 := Lib.hid ((E5.out.step hB).add hv)
                    clear E5 hB hv CR
                    go_wp2_with fail
                    refine (CI.out _ _ _ (E6.out.get 1 rfl) (E6.out.get 0 rfl)).mono ?_
                    rintro en w7 ⟨rfl, hB⟩
                    have E7 := Lib.hid (E6.out.step hB)
                    clear E6 hB CI
                    go_wp2
                    go_roundw
                    case rel => exact ⟨m + 1, by omega, by go_num, E7.out.drop (by simp) (by simp)⟩
                    case measure => simp [intOf]; omega
                  · obtain rfl : m = 3 := by omega
                    go_wp2
                    go_roundw
                    case rel => exact ⟨k + 1, by omega, by go_num, HE.out.drop (by simp) (by simp)⟩
                    case measure => simp [intOf]; omega
              · obtain rfl : k = 2 := by omega
                go_wp2
                go_roundw
                case rel => exact ⟨j + 1, by omega, by go_num, HE.out.drop (by simp) (by simp)⟩
                case measure => simp [intOf]; omega
          · obtain rfl : j = 3 := by omega
            go_wp2
            go_ret
            exact ⟨rfl, HE.out.bel⟩
end Go.Proofs.Ytdngbmoippadhaa
