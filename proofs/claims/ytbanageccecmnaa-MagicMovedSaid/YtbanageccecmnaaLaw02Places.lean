/- MagicPlaces: the places are found one behind the other: the walk. -/
import Derived.Test.YtbanageccecmnaaMagicPlain
namespace Go.Proofs.Ytbanageccecmnaa
open Go.RowKit
set_option linter.unusedVariables false

set_option maxHeartbeats 400000 in
theorem pick2_any (c n : Int) (w : World) (hc : -9223372036854775808 ≤ c) (hc' : c ≤ 9223372036854775807) (hn : 0 < n) (hn' : n ≤ 9223372036854775807) :
    Calls Try.prog 8 #[.int .i64 c, .int .i64 n] w fun e w' => e = .returned (.int .i64 (pickF c n)) ∧ w = w' := by
  by_cases h : c < 0
  · have e : pickF c n = (-(c + 1)) % n := by unfold pickF; rw [if_pos h]
    rw [e]; clear e
    go_enter Try.func8, Try.ntmps8
    go_wp2
    go_ret
    exact ⟨ret_int (by rw [← Int.neg_tmod]; exact Int.tmod_eq_emod_of_nonneg (by omega)), rfl⟩
  · have e : pickF c n = c % n := by unfold pickF; rw [if_neg h]
    rw [e]; clear e
    go_enter Try.func8, Try.ntmps8
    go_wp2
    go_ret
    exact ⟨rfl, rfl⟩
def muI (v : Value) : Nat := if intOf v < 0 then 0 else 1000 - (intOf v).toNat
theorem muI_int (z : Int) : muI (.int .i64 z) = if z < 0 then 0 else 1000 - z.toNat := rfl

set_option maxRecDepth 100000 in
set_option maxHeartbeats 3200000 in
theorem places_walk (w : World) (s : ByteArray) (m : Nat) (n : Int) (hm : m < 18446744073709551616) (hn : -9223372036854775808 ≤ n) (hn' : n ≤ 9223372036854775807) (hs : s.size ≤ 9223372036854775807) :
    Calls Try.prog 3 #[.string s, .int .u64 m, .int .i64 n] w fun e w' => e = .returned (.bool true) ∧ Below w.heap.size w w' := by
  obtain ⟨i0, hi, hz0, hz1, hz2⟩ := info_parts int_info2
  have hp := pickF_lt n 12 (by omega)
  obtain ⟨p, hpp⟩ : ∃ k : Nat, pickF n 12 = (k : Int) := ⟨(pickF n 12).toNat, by omega⟩
  have p1 : p < 12 := by omega
  obtain ⟨L, hL⟩ : ∃ L : Nat, L = min s.size 40 := ⟨_, rfl⟩
  have hL1 : (if (40 : Int) < s.size then 40 else (s.size : Int)) = L := by rw [hL]; split <;> omega
  have hL2 : L ≤ s.size := by omega
  have hL3 : L ≤ 40 := by omega
  have hfr := front_size s L hL2
  have Hpp := Lib.hid hpp
  have Hfr := Lib.hid hfr
  have Ha := Lib.hid awake2_any
  clear hp hpp hL hfr
  go_enter Try.func3, Try.ntmps3
  go_wp2_with fail
  refine (Ha.out _).mono ?_
  rintro e w1 ⟨rfl, hB1⟩
  go_wp2_with fail
  have hts : (s.extract 0 L).size = L := Hfr.out
  generalize s.extract 0 L = t at *
  have hsz : t.size ≤ 40 := by omega
  have Hts := Lib.hid hts
  clear hts Hfr hL1 hL2 hL3
  refine (pick2_any n 12 _ hn hn' (by omega) (by omega)).mono ?_
  rintro e w2 ⟨rfl, rfl⟩
  rw [Hpp.out]
  have hK : (1 + (p : Int)) = ((p + 1 : Nat) : Int) := by omega
  have htl : t.data.toList.length = t.size := by simp
  obtain ⟨h, hh⟩ : ∃ h, at_ t.data.toList m (p + 1) = h := ⟨_, rfl⟩
  obtain ⟨c, hc⟩ : ∃ c, cntOf t.size (p + 1) = c := ⟨_, rfl⟩
  have hc1 : c ≤ 8 * t.size := by rw [← hc]; unfold cntOf; omega
  have hall : Hid (∀ W, Calls Try.prog 9 #[.string t, .int .u64 m, .int .i64 (1 + p)] W fun e W' => ∃ v, e = .returned v ∧ IsInts W' W'.heap.size v (ints (plc h c 0)) ∧ Below W.heap.size W W') := fun W => by
    rw [hK]
    refine (all_any t m (p + 1 : Nat) W (by omega) hm (by omega) (by omega)).mono ?_
    rintro e W' ⟨v, rfl, hr, hB⟩
    rw [allL_nat _ _ _ (by omega) (by omega), hh, htl, hc] at hr
    exact ⟨v, rfl, Rd.own hr, hB⟩
  have hfind : Hid (∀ (f : Nat) W, f ≤ 1000 → Calls Try.prog 10 #[.string t, .int .i64 f, .int .u64 m, .int .i64 (1 + p)] W fun e W' => e = .returned (.int .i64 (headI (plc h c f))) ∧ Below W.heap.size W W') := fun f W hf => by
    rw [hK]
    refine (find_any t f m (p + 1 : Nat) W (by omega) hm (by omega) (by omega) (by omega) (by omega)).mono ?_
    rintro e W' ⟨rfl, hB⟩
    rw [findV_nat _ _ _ _ (by omega) (by omega), hh, htl, hc]
    exact ⟨rfl, hB⟩
  have hmatch : Hid (∀ (f : Nat) W, f ≤ 1000 → Calls Try.prog 11 #[.string t, .int .i64 f, .int .u64 m, .int .i64 (1 + p)] W fun e W' => e = .returned (.bool (decide (f < c) && h f)) ∧ Below W.heap.size W W') := fun f W hf => by
    rw [hK]
    refine (match_any t f m (p + 1 : Nat) W (by omega) hm (by omega) (by omega) (by omega) (by omega)).mono ?_
    rintro e W' ⟨rfl, hB⟩
    rw [matchV_nat _ _ _ _ (by omega) (by omega), hh, htl, hc]
    exact ⟨rfl, hB⟩
  obtain ⟨P, hP⟩ : ∃ P, plc h c 0 = P := ⟨_, rfl⟩
  obtain ⟨NP, hNP⟩ : ∃ k, (ints P).length = k := ⟨_, rfl⟩
  have hNP2 : P.length = NP := by rw [← hNP, length_ints]
  have hplen : NP ≤ 320 := by have := plc_len (h := h) (c := c) (f := 0); rw [hP] at this; omega
  have HP := Lib.hid hP
  have HNP := Lib.hid hNP
  have HNP2 := Lib.hid hNP2
  rw [hP] at hall
  have Hw1 := hB1.size
  clear hK hh hc htl Ha Hpp hP hNP hNP2
  go_wp2_with fail
  refine (hall.out _).mono ?_
  rintro e w2 ⟨v, rfl, hv, hB2⟩
  obtain ⟨A, cap, rfl, hv1, hv2⟩ := hv.shape
  rw [HNP.out] at hv hv1 ⊢
  have Hv := Lib.hid hv
  clear hv
  have hBw2 : Below w.heap.size w w2 := hB1.trans (hB2.mono Hw1)
  clear hB1 hB2
  go_wp2_with fail
  have f0 := hfind.out 0 w2 (by omega)
  rw [HP.out] at f0
  refine (f0).mono ?_
  rintro e w3 ⟨rfl, hB3⟩
  clear f0 hall
  have hBw3 : Below w.heap.size w w3 := hBw2.trans (hB3.mono hBw2.size)
  have Hv3 : Hid (IsInts w3 w3.heap.size (.slice A NP cap) (ints P)) := (Hv.out.below hB3 (Nat.le_refl _)).mono hB3.size
  clear hB3 Hv hBw2
  obtain ⟨B, hBB⟩ : ∃ B, w3.heap.size = B := ⟨_, rfl⟩
  have HBB := Lib.hid hBB
  have HwB : Hid (w.heap.size ≤ B) := by show _ ≤ B; rw [← hBB]; exact hBw3.size
  rw [hBB] at Hv3
  clear hBB
  obtain ⟨a0, ha0⟩ : ∃ a0, headI P = a0 := ⟨_, rfl⟩
  have Ha0 := Lib.hid ha0
  rw [ha0]
  clear ha0
  go_wp2_with fail
  go_loopw [11, 12] (fun v a wr => ∃ (Q : List Nat) (f : Nat), f ≤ 400 ∧ P = Q ++ plc h c f ∧ a = .int .i64 (headI (plc h c f)) ∧ wr.ownsRow B 3 1 v Q.length (intCells (ints Q)) ∧ Below B w3 wr) (fun _ a _ => muI a)
  case atStart =>
    refine ⟨[], 0, by omega, by rw [HP.out]; rfl, by rw [HP.out, Ha0.out], World.ownsRow_nil _ _ _ _, Below.refl _ _⟩
  case round =>
    obtain ⟨Q, f, hf, hPQ, rfl, hrow, hBr⟩ := hrel
    obtain ⟨q, cp, rfl⟩ := slice_len hrow
    cases hr : plc h c f with
    | cons a r =>
      obtain ⟨ha1, ha2, ha3, rfl⟩ := plc_cons hr
      rw [hr] at hPQ
      have hPQ' : P = (Q ++ [a]) ++ plc h c (a + 1) := by rw [hPQ]; simp
      have hQ : Q.length + 1 ≤ NP := by rw [← HNP2.out, hPQ]; simp
      have HPQ := Lib.hid hPQ'
      have hfa : Hid (∀ W, Calls Try.prog 10 #[.string t, .int .i64 ((a : Int) + 1), .int .u64 m, .int .i64 (1 + p)] W fun e W' => e = .returned (.int .i64 (headI (plc h c (a + 1)))) ∧ Below W.heap.size W W') := fun W => hfind.out (a + 1) W (by omega)
      obtain ⟨nx, hnx⟩ : ∃ nx, headI (plc h c (a + 1)) = nx := ⟨_, rfl⟩
      have Hnx := Lib.hid hnx
      have hnx2 : nx < 0 ∨ (a : Int) < nx ∧ nx < 1000 := by
        rw [← hnx]
        cases hq : plc h c (a + 1) with
        | nil => left; simp [headI]
        | cons b r => obtain ⟨g1, g2, _⟩ := plc_cons hq; right; simp only [headI]; omega
      rw [hnx] at hfa
      have Hnx2 := Lib.hid hnx2
      rw [show headI (a :: plc h c (a + 1)) = (a : Int) from rfl]
      clear hPQ hPQ' hr hnx hnx2 hfind hmatch
      obtain ⟨qn, hqn⟩ : ∃ k, Q.length = k := ⟨_, rfl⟩
      have Hqn := Lib.hid hqn
      rw [hqn] at hrow hQ ⊢
      clear hqn
      have hwz : B ≤ wr.heap.size := by have := hBr.size; have := HBB.out; omega
      go_wp2_with
        (at_builtin; refine wpList_append_own _ rfl _ _ 25 rfl B 3 i0 (.int .i64 0) 1 8 Try.underlying25 hi hz0 hz1 hz2 rfl (by decide) _ _ _ rfl (hrow.alloc _) ⟨wr.heap.size, 0, none⟩ 1 1 [.int .i64 (a : Nat)] rfl rfl (cell_one_new _ _ _) (by simp [Value.oneCell']) (by unfold maxLen; omega) (by omega) (by simp; omega) ?_; intro v' x1 hown' hgrow _)
      have hx1 : Below B w3 x1 := (hBr.alloc hwz _).grown (show World.grownBy _ _ (Value.slice q qn cp).ownBlock from hgrow) (by simp; omega) (fun k ek => own_ge hrow ek)
      refine (hfa.out _).mono ?_
      rintro e x2 ⟨rfl, hBx⟩
      have hx2 : Below B w3 x2 := hx1.trans (hBx.mono (by have := hx1.size; have := HBB.out; omega))
      have hrow2 := ownsRow_below hown' hBx
      clear hgrow hrow hown' hBx hx1 hBr
      go_wp2
      go_roundw
      case rel => exact ⟨Q ++ [a], a + 1, by omega, HPQ.out, by rw [Hnx.out], by simpa [ints, intCells, Hqn.out] using hrow2, hx2⟩
      case measure =>
        rw [muI_int, muI_int]
        rcases Hnx2.out with hq | hq
        · rw [if_pos hq, if_neg (by omega)]; omega
        · rw [if_neg (by omega), if_neg (by omega)]; omega
    | nil =>
      obtain ⟨wq, rfl⟩ : ∃ x, x = wr := ⟨_, rfl⟩
      rw [hr, List.append_nil] at hPQ
      obtain rfl : Q = P := hPQ.symm
      have hQn : Q.length = NP := HNP2.out
      have hrowN := hrow
      rw [hQn] at hrowN ⊢
      have Hst : Hid (IsInts wq wq.heap.size (.slice q NP cp) (ints Q)) := by
        have := hrowN
        rw [← HNP.out] at this
        have h2 : IsInts wq wq.heap.size _ _ := Rd.own this
        rw [HNP.out] at h2
        exact h2
      have Hvr : Hid (IsInts wq wq.heap.size (.slice A NP cap) (ints Q)) := (Hv3.out.below hBr (Nat.le_refl _)).mono (by have := hBr.size; have := HBB.out; omega)
      have hBw : Below w.heap.size w wq := hBw3.trans (hBr.mono HwB.out)
      rw [show headI [] = (-1 : Int) from rfl]
      clear hrow hrowN hr hfind hBr Hv3 hBw3
      go_wp2
      go_loopw [13, 14] (fun nx i wr2 => ∃ (R : List Nat) (g : Nat), g ≤ 8 * t.size + 3 ∧ Q = R ++ plc h c g ∧ nx = .int .i64 R.length ∧ i = .int .i64 g ∧ Below wq.heap.size wq wr2) (fun _ i _ => 8 * t.size + 4 - (intOf i).toNat)
      case atStart => exact ⟨[], 0, by omega, by rw [HP.out]; rfl, rfl, rfl, Below.refl _ _⟩
      case round =>
        obtain ⟨R, g, hg, hPR, rfl, rfl, hB2⟩ := hrel
        by_cases hlt : g < 8 * t.size + 3
        · obtain ⟨rn, hrn⟩ : ∃ k, R.length = k := ⟨_, rfl⟩
          rw [hrn]
          have Hrn := Lib.hid hrn
          have hcell : ∀ b : Nat, (∃ r, plc h c g = b :: r) → rn < NP ∧ ∃ ga o, A = some ⟨ga, o, none⟩ ∧ wr.cell? ⟨ga, o + rn, none⟩ = some (.int .i64 (b : Int)) := fun b ⟨r, hr⟩ => by
            have hlt : rn < Q.length := by rw [hPR, ← hrn, hr]; simp
            obtain ⟨ga, o, e1, e2, e3⟩ := Hvr.out.at rn (by rw [length_ints]; exact hlt)
            refine ⟨by omega, ga, o, e1, ?_⟩
            rw [show (ints Q)[rn]?.getD 0 = (b : Int) by rw [hPR, hr, ← hrn]; simp [ints]] at e3
            exact (hB2.cell (p := ⟨ga, o + rn, none⟩) e2).trans e3
          cases hyes : (decide (g < c) && h g) with
          | true =>
            simp only [Bool.and_eq_true, decide_eq_true_eq] at hyes
            have hp1 := plc_yes hyes.1 hyes.2
            obtain ⟨hlt2, ga, o, rfl, hcl⟩ := hcell g ⟨_, hp1⟩
            have hm1 : Hid (∀ W, Calls Try.prog 11 #[.string t, .int .i64 (g : Nat), .int .u64 m, .int .i64 (1 + p)] W fun e W' => e = .returned (.bool true) ∧ Below W.heap.size W W') := fun W => by
              have := hmatch.out g W (by omega)
              rw [decide_eq_true hyes.1, hyes.2] at this
              exact this
            have hPR2 : Hid (Q = (R ++ [g]) ++ plc h c (g + 1)) := by show _ = _; rw [hPR, hp1]; simp
            clear hcell hPR hp1 hyes hmatch hrn
            go_wp2_with (go_at_call 11; refine (hm1.out _).mono ?_; rintro e x2 ⟨rfl, hBx⟩)
            go_roundw
            case rel => exact ⟨R ++ [g], g + 1, by omega, hPR2.out, by simp [Hrn.out], by go_num, hB2.trans (hBx.mono hB2.size)⟩
            case measure => simp [intOf]; omega
          | false =>
            have hp1 : plc h c g = plc h c (g + 1) := plc_no fun hgc => by simpa [hgc] using hyes
            have hm0 : Hid (∀ W, Calls Try.prog 11 #[.string t, .int .i64 (g : Nat), .int .u64 m, .int .i64 (1 + p)] W fun e W' => e = .returned (.bool false) ∧ Below W.heap.size W W') := fun W => by
              have := hmatch.out g W (by omega)
              rw [hyes] at this
              exact this
            have hPR2 : Hid (Q = R ++ plc h c (g + 1)) := by show _ = _; rw [← hp1]; exact hPR
            by_cases hRl : rn < NP
            · obtain ⟨b, hb1, hb2⟩ : ∃ b : Nat, (∃ r, plc h c g = b :: r) ∧ g + 1 ≤ b := by
                cases hr : plc h c g with
                | nil => rw [hr, List.append_nil] at hPR; rw [hPR, hrn] at hQn; omega
                | cons b r => exact ⟨b, ⟨r, rfl⟩, (plc_cons (hp1.symm.trans hr)).1⟩
              obtain ⟨hlt2, ga, o, rfl, hcl⟩ := hcell b hb1
              have hne : ((b : Int) == (g : Int)) = false := by rw [beq_eq_false_iff_ne]; omega
              clear hcell hPR hp1 hyes hmatch hrn hb1
              go_wp2_with (go_at_call 11; refine (hm0.out _).mono ?_; rintro e x2 ⟨rfl, hBx⟩)
              go_roundw
              case rel => exact ⟨R, g + 1, by omega, hPR2.out, by rw [Hrn.out], by go_num, hB2.trans (hBx.mono hB2.size)⟩
              case measure => simp [intOf]; omega
            · obtain rfl : rn = NP := by have : Q.length = R.length + (plc h c g).length := by rw [hPR]; simp
                                         omega
              clear hcell hPR hp1 hyes hmatch hrn hRl
              go_wp2_with (go_at_call 11; refine (hm0.out _).mono ?_; rintro e x2 ⟨rfl, hBx⟩)
              go_roundw
              case rel => exact ⟨R, g + 1, by omega, hPR2.out, by rw [Hrn.out], by go_num, hB2.trans (hBx.mono hB2.size)⟩
              case measure => simp [intOf]; omega
        · have hgc : c ≤ g := by omega
          rw [plc_ge hgc, List.append_nil] at hPR
          subst hPR
          rw [hQn]
          have hst2 := Hst.out.below hB2 (Nat.le_refl _)
          have hvr2 := Hvr.out.below hB2 (Nat.le_refl _)
          have Hs2 := Lib.hid hst2
          have Hv2 := Lib.hid hvr2
          have hwz := hB2.size
          clear hst2 hvr2 hmatch
          go_wp2_with fail
          refine (refInts_any wr _ _ _ _ (Hv2.out.mono hwz) (Hs2.out.mono hwz) (by rw [HNP.out]; omega) (by rw [HNP.out]; omega)).mono ?_
          rintro e x2 ⟨rfl, hBx⟩
          rw [show decide (ints Q = ints Q) = true by simp]
          go_wp2
          go_ret
          exact ⟨rfl, (hBw.trans (hB2.mono hBw.size)).trans (hBx.mono (by have := hBw.size; omega))⟩
end Go.Proofs.Ytbanageccecmnaa
