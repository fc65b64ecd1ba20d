/- UsedForms: the walk. -/
import Derived.Test.YtlnkngacenkikaaLaw07Long
import Derived.Test.YtlnkngacenkikaaUsedLaws
import Derived.Test.YtlnkngacenkikaaEnv2
import Derived.Test.YtlnkngacenkikaaTurn
import Derived.Test.YtlnkngacenkikaaHeld
import Derived.Deep.RegionHeld3
import Derived.Deep.DeepCutAuto
import Derived.StillTailTactics
namespace Go.Proofs.Ytlnkngacenkikaa
open Go.RowKit
set_option linter.unusedVariables false

set_option maxRecDepth 100000 in
set_option maxHeartbeats 6400000 in
theorem uforms_walk (w : World) (s s2 : ByteArray) (n which : Int) (hn : -9223372036854775808 ≤ n) (hn' : n ≤ 9223372036854775807) (hk : -9223372036854775808 ≤ which) (hk' : which ≤ 9223372036854775807) :
    Calls Try.prog 5 #[.string s, .string s2, .int .i64 n, .int .i64 which] w fun e w' => e = .returned (.bool true) ∧ Below w.heap.size w w' := by
  obtain ⟨L, hL⟩ : ∃ L : Nat, L = min s.size 60 := ⟨_, rfl⟩
  have hL1 : (if (60 : Int) < s.size then 60 else (s.size : Int)) = L := by rw [hL]; split <;> omega
  have hL2 : L ≤ s.size := by omega
  have hL3 : L ≤ 60 := by omega
  have hfr := front_len s L hL2
  obtain ⟨L2, hM⟩ : ∃ L2 : Nat, L2 = min s2.size 60 := ⟨_, rfl⟩
  have hM1 : (if (60 : Int) < s2.size then 60 else (s2.size : Int)) = L2 := by rw [hM]; split <;> omega
  have hM2 : L2 ≤ s2.size := by omega
  have hM3 : L2 ≤ 60 := by omega
  have hfr2 := front_len s2 L2 hM2
  have CM : Hid (∀ W, Calls Try.prog 7 #[.string (s.extract 0 L)] W fun e w' => e = .returned (.agg #[.string (txt (mapL (s.extract 0 L).data.toList)), .int .i64 ((mapL (s.extract 0 L).data.toList).length : Nat)]) ∧ Below W.heap.size W w') := fun W => map_any W _ (by omega)
  have hmle := length_mapL_le (s.extract 0 L).data.toList
  generalize mapL (s.extract 0 L).data.toList = M at *
  obtain ⟨t, ht⟩ : ∃ t : ByteArray, txt M ++ ⟨#[0]⟩ = t := ⟨_, rfl⟩
  have hts2 : t.size = (M.length + 7) / 8 + 1 := by rw [← ht, ByteArray.size_append, txt_size]; rfl
  have hts : t.size ≤ 400 := by omega
  have hpos : 0 < t.size := by omega
  have Ht := Lib.hid ht
  have hMs : (txt M).size ≤ 400 := by rw [txt_size]; omega
  have hp := pickF_lt n 12 (by omega)
  obtain ⟨a, ha⟩ : ∃ k : Nat, pickF n 12 = (k : Int) := ⟨(pickF n 12).toNat, by omega⟩
  have ha12 : a < 12 := by omega
  have HA := Lib.hid ha
  have hte : t.toList.isEmpty = false := by
    rw [ByteArray.toList_eq, List.isEmpty_eq_false_iff]
    intro hq
    have h3 : t.data.toList.length = t.size := by simp
    rw [hq] at h3
    simp at h3
    omega
  have hx := pickF_lt which (8 * (t.size : Int)) (by omega)
  obtain ⟨x, hxx⟩ : ∃ k : Nat, pickF which (8 * (t.size : Int)) = (k : Int) := ⟨(pickF which (8 * (t.size : Int))).toNat, by omega⟩
  have hx1 : x < 8 * t.size := by omega
  have Hxx := Lib.hid hxx
  have hfl0 : ∀ (W : World) (a b : Value), (Instr.field 25 (.agg #[a, b]) 0).run Try.prog W = .ok a W := fun _ _ _ => rfl
  have hfl : ∀ (W : World) (a b : Value), (Instr.field 25 (.agg #[a, b]) 1).run Try.prog W = .ok b W := fun _ _ _ => rfl
  have Hfl := Lib.hid hfl
  clear hL hM hp ha ht hts2 hx hxx hmle hfr hfl
  go_enter Try.func5, Try.ntmps5
  have E0 := Lib.hid (Env.nil w)
  go_wp2_with fail
  refine (awake07_any _).mono ?_
  rintro e w1 ⟨rfl, hB⟩
  have E1 := Lib.hid (E0.out.step hB)
  clear E0 hB  
  go_wp2_with fail
  refine (CM.out _).mono ?_
  rintro e w2 ⟨rfl, hB⟩
  have E2 := Lib.hid (E1.out.step hB)
  clear E1 hB  
  go_wp2_with fail
  rw [Ht.out]
  clear hfl0 hL1 hL2 hL3 CM
  obtain ⟨WB, hWB⟩ : ∃ WB, w2 = WB := ⟨_, rfl⟩
  rw [hWB] at E2 ⊢
  clear hWB
  rw [Lib.run_convert_string_bytes WB 9 27 5 t Try.underlying9 Try.underlying27 Try.underlying5]
  have hc1 := Lib.bytesWorld_cell WB 5 t (x / 8) (by omega)
  have hcs : Hid (∀ j, j < t.size → (Lib.bytesWorld WB 5 t).cell? ⟨WB.heap.size, j, none⟩ = some (.int .u8 ((t.data.toList.getD j 0).toNat : Nat))) := fun j hj => Lib.bytesWorld_cell WB 5 t j hj
  have hn1 := Lib.bytesWorld_at_new WB 5 t
  have ho1 := Lib.bytesWorld_at_old WB 5 t
  have hs1 := Lib.bytesWorld_size WB 5 t
  have hf1 : (Lib.bytesWorld WB 5 t).frozen? ⟨WB.heap.size, x / 8, none⟩ = false := by
    have hsz1 : x / 8 < (Lib.bytesCells WB 5 t).size := by simp [Lib.bytesCells]; omega
    simp [World.frozen?, hn1]; omega
  have hBc : Below WB.heap.size WB (Lib.bytesWorld WB 5 t) := ⟨rfl, rfl, rfl, by rw [hs1]; omega, fun k hk => ho1 k hk⟩
  obtain ⟨y, hy⟩ : ∃ y, (t.data.toList.getD (x / 8) 0).toNat = y := ⟨_, rfl⟩
  rw [hy] at hc1
  generalize Lib.bytesWorld WB 5 t = WC at *
  have hd : (x : Int).tdiv 8 = (x : Int) / 8 := Int.tdiv_eq_ediv_of_nonneg (by omega)
  have hm : (x : Int).tmod 8 = (x : Int) % 8 := Int.tmod_eq_emod_of_nonneg (by omega)
  have hq1 : 0 ≤ (x : Int) / 8 := by omega
  have hq2 : (x : Int) / 8 < (t.size : Int) := by omega
  have hq3 : ((x : Int) / 8).toNat = x / 8 := by omega
  have hq4 : 0 ≤ (x : Int) % 8 := by omega
  have hq5 : ((x : Int) % 8).toNat = x % 8 := by omega
  have hq6 : IntKind.i64.wrap ((x : Int) / 8) = (x : Int) / 8 := IntWalk.i64_in _ (by omega)
  have hx8 : x / 8 < t.size := by omega
  have Hy := Lib.hid hy
  have HBc := Lib.hid hBc
  clear hn1 ho1 hy hBc
  go_wp2_with fail
  refine (pick07_any which (8 * (t.size : Int)) _ hk hk' (by omega) (by omega)).mono ?_
  rintro e w4 ⟨rfl, rfl⟩
  rw [Hxx.out]
  go_wp2_with fail
  go_still_tail 12, (by kernel_rfl)
  go_wp2_with fail
  have hy256 : y < 256 := by rw [← Hy.out]; exact UInt8.toNat_lt _
  have hr256 : 128 / 2 ^ (x % 8) < 256 := Nat.lt_of_le_of_lt (Nat.div_le_self _ _) (by omega)
  have hxr : y ^^^ (128 / 2 ^ (x % 8)) < 256 := Nat.xor_lt_two_pow (n := 8) hy256 hr256
  obtain ⟨vb, hvv⟩ : ∃ v : UInt8, v.toNat = y ^^^ (128 / 2 ^ (x % 8)) := ⟨UInt8.ofNat (y ^^^ (128 / 2 ^ (x % 8))), by rw [UInt8.toNat_ofNat', Nat.mod_eq_of_lt hxr]⟩
  have hbx : bits .xor .u8 (y : Int) (128 / 2 ^ (x % 8)) = (vb.toNat : Int) := by
    rw [hvv, ← u8_xor_nat _ _ hy256 hr256]; congr 1
  rw [hbx]
  obtain ⟨u, hu⟩ : ∃ u, t.data.toList.set (x / 8) vb = u := ⟨_, rfl⟩
  have hul : u.length = t.size := by rw [← hu]; simp
  have hcu : ∀ j (hj : j < u.length), ((WC.setCell ⟨WB.heap.size, x / 8, none⟩ (.int .u8 (vb.toNat : Int))).drew).cell? ((⟨WB.heap.size, 0, none⟩ : Addr).add j) = some (.int .u8 (u[j].toNat : Int)) := by
    subst hu
    exact turned_cells WC WB.heap.size t.data.toList (x / 8) vb (by simpa using hx8) (by simpa using hcs.out)
  have hB7 : Below WB.heap.size WB ((WC.setCell ⟨WB.heap.size, x / 8, none⟩ (.int .u8 (vb.toNat : Int))).drew) := (HBc.out.setCell (p := ⟨WB.heap.size, x / 8, none⟩) (Nat.le_refl _) _).drew
  have HYx : Hid (vb.toNat = (t.data.toList.getD (x / 8) 0).toNat ^^^ (128 / 2 ^ (x % 8))) := by show _ = _; rw [Hy.out, hvv]
  have Hu := Lib.hid hu
  obtain ⟨W7, hW7⟩ : ∃ W7, (WC.setCell ⟨WB.heap.size, x / 8, none⟩ (.int .u8 (vb.toNat : Int))).drew = W7 := ⟨_, rfl⟩
  rw [hW7] at hcu hB7 ⊢
  have E3 := Lib.hid (E2.out.step hB7)
  clear E2 hW7 hB7 hcs hc1 hf1 hs1 Hy hbx hu hvv hxr hr256 hy256 HBc hd hm hq1 hq2 hq3 hq4 hq5 hq6
  have hconv := run_convert_bytes_back (P := Try.prog) W7.drew 27 9 5 ⟨WB.heap.size, 0, none⟩ (grownCap WB t.size 0 5) u Try.underlying27 Try.underlying5 Try.underlying9 hcu
  rw [hul] at hconv
  have hus : (⟨u.toArray⟩ : ByteArray).size = t.size := by rw [← hul]; simp [ByteArray.size]
  generalize (⟨u.toArray⟩ : ByteArray) = y2 at *
  clear hcu
  go_cut [53, 54, 55] (fun sa sb sc wx => sa = .slice (some ⟨W7.heap.size, 0, none⟩) 2 2 ∧ sb = .int .i64 2 ∧ sc = .int .i64 0 ∧ Env w wx [] ((W7.heap.size, #[.string (s2.extract 0 L2), .string y2], 9) :: []))
  case first =>
    first | go_region_with (fail) | fail
    all_goals
      go_wp2_with fail
      go_meet
      exact ⟨rfl, rfl, rfl, (E3.out.box _ _ _ rfl).drew⟩
  case rest =>
    obtain ⟨rfl, rfl, rfl, hE⟩ := hcut
    have HE1 := Lib.hid hE
    have hex : (s2.extract 0 L2).size ≤ 60 := by rw [hfr2]; exact hM3
    generalize s2.extract 0 L2 = y1 at *
    clear hE E3 hconv hfr2 hM1 hM2 hM3 Hu HYx
    go_wp2_with fail
    go_loopw [55] (fun iv wr => ∃ j : Nat, j ≤ 2 ∧ iv = .int .i64 j ∧ Env w wr [] [(W7.heap.size, #[.string y1, .string y2], 9)]) (fun iv _ => 3 - (intOf iv).toNat)
    case atStart => exact ⟨0, by omega, rfl, HE1.out⟩
    case round =>
      obtain ⟨j, hj, rfl, hE⟩ := hrel
      have HE := Lib.hid hE
      clear hE HE1
      by_cases hlt : j < 2
      · obtain ⟨z, hz, hzs⟩ : ∃ z : ByteArray, wr.cell? ⟨W7.heap.size, j, none⟩ = some (.string z) ∧ z.size ≤ 400 := by
          rcases (show j = 0 ∨ j = 1 by omega) with rfl | rfl
          · exact ⟨y1, HE.out.cellv 0 rfl 0 _ rfl, by omega⟩
          · exact ⟨y2, HE.out.cellv 0 rfl 1 _ rfl, by omega⟩
        go_wp2_with fail
        refine (pick07_any n 12 _ hn hn' (by omega) (by omega)).mono ?_
        rintro e w_ ⟨rfl, rfl⟩
        rw [HA.out]
        cases hr : unmapR z.data.toList a with
        | error e =>
          have hee := unmapR_err _ _ _ hr
          have C1 := Lib.hid (unmap_er wr z a e (by omega) (by omega) hr)
          clear hr
          go_wp2_with fail
          refine C1.out.mono ?_
          rintro ee w5 ⟨rfl, hB⟩
          have E5 := Lib.hid (HE.out.step hB)
          clear hB HE C1
          rcases hee with rfl | rfl
          all_goals
            go_wp2_with fail
            go_roundw
            case rel => exact ⟨j + 1, by omega, by go_num, E5.out⟩
            case measure => simp [intOf]; omega
        | ok p =>
          obtain ⟨o, x2⟩ := p
          obtain ⟨g1, g2, g3, g4, g5, g6⟩ := unmapR_ok _ _ _ _ hr
          have C1 := Lib.hid (unmap_is wr z a o x2 (by omega) (by omega) hr)
          have hzl : z.data.toList.length = z.size := by simp
          rw [hzl] at g2
          have CS : Hid (∀ W, Calls Try.prog 14 #[.string z, .int .i64 (a : Nat), .agg #[.string (txt (mapL o)), .int .i64 ((mapL o).length : Nat)]] W fun e w' => e = .returned (.bool true) ∧ Below W.heap.size W w') := fun W => by
            have := same_any W z (txt (mapL o)) a ((mapL o).length : Nat) (by omega) (by rw [txt_size]; omega) (by omega) (by omega)
            rw [txt_list, sameB_pack _ _ _ (by omega) g3] at this
            exact this
          have CMo : Hid (∀ W, Calls Try.prog 7 #[.string ⟨o.toArray⟩] W fun e w' => e = .returned (.agg #[.string (txt (mapL o)), .int .i64 ((mapL o).length : Nat)]) ∧ Below W.heap.size W w') := fun W => by
            have := map_any W ⟨o.toArray⟩ (by show o.length ≤ _; omega)
            exact this
          have CAo : Hid (∀ W, Calls Try.prog 9 #[.string ⟨o.toArray⟩] W fun e w' => e = .returned (.string ⟨o.toArray⟩) ∧ Below W.heap.size W w') := fun W => by
            have := alphabet_any W ⟨o.toArray⟩ (by show o.length ≤ _; omega)
            rw [show (⟨o.toArray⟩ : ByteArray).data.toList = o from rfl, g4] at this
            exact this
          have hoe : (⟨o.toArray⟩ : ByteArray).toList.isEmpty = false := by
            rw [ByteArray.toList_eq, List.isEmpty_eq_false_iff]
            exact g5
          generalize (⟨o.toArray⟩ : ByteArray) = O at *
          generalize mapL o = Mo at *
          obtain ⟨d2, hd2⟩ : ∃ d2, Mo.length = d2 := ⟨_, rfl⟩
          rw [hd2] at CMo CS g1
          generalize txt Mo = To at *
          have hx3 : x2 ≤ 3200 := by omega
          have hd3 : d2 ≤ 3200 := by omega
          have hfl := Hfl.out
          have t1 : ((x2 : Int) != (a : Int) + (d2 : Int)) = false := by rw [g1]; simp
          have G1 := Lib.hid g1
          clear hr g1 g2 g3 g4 g5 g6 hd2 hzl
          go_wp2_with fail
          refine C1.out.mono ?_
          rintro ee w5 ⟨rfl, hB⟩
          have E5 := Lib.hid (HE.out.step hB)
          clear hB HE C1
          go_wp2_with fail
          refine (CMo.out _).mono ?_
          rintro ee w6 ⟨rfl, hB⟩
          have E6 := Lib.hid (E5.out.step hB)
          clear hB E5
          go_wp2_with fail
          refine (CMo.out _).mono ?_
          rintro ee w8 ⟨rfl, hB⟩
          have E8 := Lib.hid (E6.out.step hB)
          clear hB E6
          go_wp2_with fail
          refine (CS.out _).mono ?_
          rintro ee w9 ⟨rfl, hB⟩
          have E9 := Lib.hid (E8.out.step hB)
          clear hB E8
          go_wp2_with fail
          refine (CAo.out _).mono ?_
          rintro ee w10 ⟨rfl, hB⟩
          have E10 := Lib.hid (E9.out.step hB)
          clear hB E9
          go_wp2_with fail
          go_roundw
          case rel => exact ⟨j + 1, by omega, by go_num, E10.out⟩
          case measure => simp [intOf]; omega
      · obtain rfl : j = 2 := by omega
        go_wp2
        go_ret
        exact ⟨rfl, HE.out.bel⟩
end Go.Proofs.Ytlnkngacenkikaa
