/- Check of the program: the walk. -/
import Derived.Test.YtodniacnjdnffaaKraft
import Derived.Test.YtodniacnjdnffaaRow
namespace Go.Proofs.Ytodniacnjdnffaa
open Go.RowKit
set_option linter.unusedVariables false

def minI (l : List Int) : Int := l.tail.foldl min (l.headD 0)
def maxI (l : List Int) : Int := l.tail.foldl max (l.headD 0)
theorem foldl_min_lt (l : List Int) (b : Int) : ∀ a, l.foldl min a < b ↔ a < b ∨ ∃ x ∈ l, x < b := by
  induction l with
  | nil => intro a; simp
  | cons y l ih =>
    intro a
    rw [List.foldl_cons, ih]
    constructor
    · rintro (h | ⟨x, hx, h⟩)
      · by_cases h2 : a < b
        · exact .inl h2
        · exact .inr ⟨y, by simp, by omega⟩
      · exact .inr ⟨x, by simp [hx], h⟩
    · rintro (h | ⟨x, hx, h⟩)
      · exact .inl (by omega)
      · rcases List.mem_cons.1 hx with rfl | hx
        · exact .inl (by omega)
        · exact .inr ⟨x, hx, h⟩
theorem foldl_max_gt (l : List Int) (b : Int) : ∀ a, b < l.foldl max a ↔ b < a ∨ ∃ x ∈ l, b < x := by
  induction l with
  | nil => intro a; simp
  | cons y l ih =>
    intro a
    rw [List.foldl_cons, ih]
    constructor
    · rintro (h | ⟨x, hx, h⟩)
      · by_cases h2 : b < a
        · exact .inl h2
        · exact .inr ⟨y, by simp, by omega⟩
      · exact .inr ⟨x, by simp [hx], h⟩
    · rintro (h | ⟨x, hx, h⟩)
      · exact .inl (by omega)
      · rcases List.mem_cons.1 hx with rfl | hx
        · exact .inl (by omega)
        · exact .inr ⟨x, hx, h⟩
theorem fitsI_iff (l : List Int) (h : l ≠ []) : FitsI l ↔ 1 ≤ minI l ∧ maxI l ≤ 20 := by
  have e : l = l.headD 0 :: l.tail := by
    cases l with
    | nil => exact absurd rfl h
    | cons a l => rfl
  have h1 := foldl_min_lt l.tail 1 (l.headD 0)
  have h2 := foldl_max_gt l.tail 20 (l.headD 0)
  unfold minI maxI
  constructor
  · intro hf
    rw [e] at hf
    constructor
    · rcases (show l.tail.foldl min (l.headD 0) < 1 ∨ 1 ≤ l.tail.foldl min (l.headD 0) by omega) with h3 | h3
      · rcases h1.1 h3 with h4 | ⟨x, hx, h4⟩
        · have := hf (l.headD 0) (by simp); omega
        · have := hf x (by simp [hx]); omega
      · exact h3
    · rcases (show 20 < l.tail.foldl max (l.headD 0) ∨ l.tail.foldl max (l.headD 0) ≤ 20 by omega) with h3 | h3
      · rcases h2.1 h3 with h4 | ⟨x, hx, h4⟩
        · have := hf (l.headD 0) (by simp); omega
        · have := hf x (by simp [hx]); omega
      · exact h3
  · rintro ⟨h3, h4⟩ x hx
    rw [e] at hx
    constructor
    · rcases (show x < 1 ∨ 1 ≤ x by omega) with h5 | h5
      · have := h1.2 (by
          rcases List.mem_cons.1 hx with rfl | hx
          · exact .inl h5
          · exact .inr ⟨x, hx, h5⟩)
        omega
      · exact h5
    · rcases (show 20 < x ∨ x ≤ 20 by omega) with h5 | h5
      · have := h2.2 (by
          rcases List.mem_cons.1 hx with rfl | hx
          · exact .inl h5
          · exact .inr ⟨x, hx, h5⟩)
        omega
      · exact h5
theorem foldl_take (f : Int → Int → Int) (l : List Int) (a : Int) (k : Nat) (h : k < l.length) : (l.take (k + 1)).foldl f a = f ((l.take k).foldl f a) (l[k]?.getD 0) := by
  rw [List.take_succ_eq_append_getElem h, List.foldl_append, List.getElem?_eq_getElem h]
  rfl

set_option maxHeartbeats 800000 in
theorem min_any (w : World) (v : Value) (l : List Int) (hv : IsInts w w.heap.size v l) (hl : l.length ≤ 1000000) (h0 : l ≠ []) :
    Calls Try.prog 27 #[v] w fun e w' => e = .returned (.int .i64 (minI l)) ∧ w = w' := by
  obtain ⟨A, ca, rfl, hc1, hc2⟩ := hv.shape
  obtain ⟨N, hN⟩ : ∃ N, l.length = N + 1 := ⟨l.length - 1, by have := List.length_pos_iff.2 h0; omega⟩
  obtain ⟨g, o, hg, hgs, hx0⟩ := hv.at 0 (by omega)
  obtain rfl := hg
  have hall : ∀ i, i < N + 1 → w.cell? ⟨g, o + i, none⟩ = some (.int .i64 (l[i]?.getD 0)) := fun i hi => by
    obtain ⟨g', o', he, _, hx⟩ := hv.at i (by omega)
    injection he with he
    injection he with h1 h2
    rw [← h1, ← h2] at hx
    exact hx
  have hhd : l[0]?.getD 0 = l.headD 0 := by cases l <;> rfl
  have htl : l.tail.length = N := by rw [List.length_tail]; omega
  have hti : ∀ i, i < N → l[i + 1]?.getD 0 = l.tail[i]?.getD 0 := fun i hi => by
    rw [List.getElem?_eq_getElem (by omega), List.getElem?_eq_getElem (by omega)]
    simp
  rw [Nat.add_zero, hhd] at hx0
  have hmin : minI l = l.tail.foldl min (l.headD 0) := rfl
  generalize l.headD 0 = z at *
  generalize l.tail = T at *
  rw [hN] at hc1 ⊢
  have Hall := Lib.hid hall
  have Hmin := Lib.hid hmin
  have Hti := Lib.hid hti
  have Htl := Lib.hid htl
  have hN2 : N ≤ 1000000 := by omega
  clear hv hall hmin hhd hti htl h0 hN hl hc1 hc2
  go_enter Try.func27, Try.ntmps27
  go_wp2
  go_loop [3, 4] (fun mv iv => ∃ k : Nat, k ≤ N ∧ iv = .int .i64 ((k + 1 : Nat) : Int) ∧ mv = .int .i64 ((T.take k).foldl min z)) (fun _ iv => N + 2 - (intOf iv).toNat)
  case atStart => exact ⟨0, Nat.zero_le _, rfl, rfl⟩
  case round =>
    obtain ⟨k, hk, rfl, rfl⟩ := hrel
    clear hx0
    by_cases hlt : k < N
    · have hc := Hall.out (k + 1) (by omega)
      have hfo := foldl_take min T z k (by rw [Htl.out]; exact hlt)
      rw [Hti.out k hlt] at hc
      generalize T[k]?.getD 0 = x at *
      obtain ⟨m, hm⟩ : ∃ m, (T.take k).foldl min z = m := ⟨_, rfl⟩
      rw [hm] at hfo ⊢
      have Hfo := Lib.hid hfo
      clear hfo hm
      by_cases hxm : x < m
      · go_wp2
        go_round
        case rel => exact ⟨k + 1, by omega, by go_num, by rw [Hfo.out, Int.min_eq_right (by omega)]⟩
        case measure => simp [intOf]; omega
      · go_wp2
        go_round
        case rel => exact ⟨k + 1, by omega, by go_num, by rw [Hfo.out, Int.min_eq_left (by omega)]⟩
        case measure => simp [intOf]; omega
    · obtain rfl : k = N := by omega
      go_wp2
      go_ret
      exact ⟨ret_int (by rw [Hmin.out, List.take_of_length_le (by rw [Htl.out]; exact Nat.le_refl _)]), rfl⟩

set_option maxHeartbeats 800000 in
theorem max_any (w : World) (v : Value) (l : List Int) (hv : IsInts w w.heap.size v l) (hl : l.length ≤ 1000000) (h0 : l ≠ []) :
    Calls Try.prog 25 #[v] w fun e w' => e = .returned (.int .i64 (maxI l)) ∧ w = w' := by
  obtain ⟨A, ca, rfl, hc1, hc2⟩ := hv.shape
  obtain ⟨N, hN⟩ : ∃ N, l.length = N + 1 := ⟨l.length - 1, by have := List.length_pos_iff.2 h0; omega⟩
  obtain ⟨g, o, hg, hgs, hx0⟩ := hv.at 0 (by omega)
  obtain rfl := hg
  have hall : ∀ i, i < N + 1 → w.cell? ⟨g, o + i, none⟩ = some (.int .i64 (l[i]?.getD 0)) := fun i hi => by
    obtain ⟨g', o', he, _, hx⟩ := hv.at i (by omega)
    injection he with he
    injection he with h1 h2
    rw [← h1, ← h2] at hx
    exact hx
  have hhd : l[0]?.getD 0 = l.headD 0 := by cases l <;> rfl
  have htl : l.tail.length = N := by rw [List.length_tail]; omega
  have hti : ∀ i, i < N → l[i + 1]?.getD 0 = l.tail[i]?.getD 0 := fun i hi => by
    rw [List.getElem?_eq_getElem (by omega), List.getElem?_eq_getElem (by omega)]
    simp
  rw [Nat.add_zero, hhd] at hx0
  have hmin : maxI l = l.tail.foldl max (l.headD 0) := rfl
  generalize l.headD 0 = z at *
  generalize l.tail = T at *
  rw [hN] at hc1 ⊢
  have Hall := Lib.hid hall
  have Hmin := Lib.hid hmin
  have Hti := Lib.hid hti
  have Htl := Lib.hid htl
  have hN2 : N ≤ 1000000 := by omega
  clear hv hall hmin hhd hti htl h0 hN hl hc1 hc2
  go_enter Try.func25, Try.ntmps25
  go_wp2
  go_loop [3, 4] (fun mv iv => ∃ k : Nat, k ≤ N ∧ iv = .int .i64 ((k + 1 : Nat) : Int) ∧ mv = .int .i64 ((T.take k).foldl max z)) (fun _ iv => N + 2 - (intOf iv).toNat)
  case atStart => exact ⟨0, Nat.zero_le _, rfl, rfl⟩
  case round =>
    obtain ⟨k, hk, rfl, rfl⟩ := hrel
    clear hx0
    by_cases hlt : k < N
    · have hc := Hall.out (k + 1) (by omega)
      have hfo := foldl_take max T z k (by rw [Htl.out]; exact hlt)
      rw [Hti.out k hlt] at hc
      generalize T[k]?.getD 0 = x at *
      obtain ⟨m, hm⟩ : ∃ m, (T.take k).foldl max z = m := ⟨_, rfl⟩
      rw [hm] at hfo ⊢
      have Hfo := Lib.hid hfo
      clear hfo hm
      by_cases hxm : m < x
      · go_wp2
        go_round
        case rel => exact ⟨k + 1, by omega, by go_num, by rw [Hfo.out, Int.max_eq_right (by omega)]⟩
        case measure => simp [intOf]; omega
      · go_wp2
        go_round
        case rel => exact ⟨k + 1, by omega, by go_num, by rw [Hfo.out, Int.max_eq_left (by omega)]⟩
        case measure => simp [intOf]; omega
    · obtain rfl : k = N := by omega
      go_wp2
      go_ret
      exact ⟨ret_int (by rw [Hmin.out, List.take_of_length_le (by rw [Htl.out]; exact Nat.le_refl _)]), rfl⟩

/-- how many words have each length, as cells -/
def cntC (l : List Nat) : Array Value := ((List.range 21).map fun k => Value.int .i64 (l.count k : Nat)).toArray
theorem cntC_size (l : List Nat) : (cntC l).size = 21 := by simp [cntC]
theorem cntC_get (l : List Nat) (c : Nat) (h : c < 21) : (cntC l)[c]? = some (.int .i64 (l.count c : Nat)) := by simp [cntC, h]
theorem cntC_none (l : List Nat) (c : Nat) (h : ¬ c < 21) : (cntC l)[c]? = none := Array.getElem?_eq_none (by rw [cntC_size]; omega)
theorem cntC_one (l : List Nat) : (cntC l).all (·.oneCell') = true := by simp [cntC, Value.oneCell']
theorem cntC_set (l : List Nat) (x : Nat) (hx : x < 21) : (cntC l).setIfInBounds x (.int .i64 ((l.count x + 1 : Nat) : Int)) = cntC (l ++ [x]) := by
  apply Array.ext_getElem?
  intro i
  rw [Array.getElem?_setIfInBounds]
  by_cases hi : i < 21
  · rw [cntC_get _ _ hi, cntC_get _ _ hi, List.count_append, cntC_size]
    by_cases h : x = i
    · subst h; simp [hx]
    · rw [if_neg h]
      simp [h]
  · rw [cntC_none _ _ hi, cntC_none _ _ hi, if_neg (by omega)]
theorem cnt_info : (Try.prog.info? 52).map (·.size) = some 21 := by kernel_rfl
theorem cntC_nil : cntC [] = #[.int .i64 0, .int .i64 0, .int .i64 0, .int .i64 0, .int .i64 0, .int .i64 0, .int .i64 0, .int .i64 0, .int .i64 0, .int .i64 0, .int .i64 0, .int .i64 0, .int .i64 0, .int .i64 0, .int .i64 0, .int .i64 0, .int .i64 0, .int .i64 0, .int .i64 0, .int .i64 0, .int .i64 0] := by rfl
theorem cnt_zero : ∀ W, (zeroValue 52).run Try.prog W = .ok (.agg (cntC [])) W := fun _ => by kernel_rfl
theorem run_index_cnt (cs : Array Value) (k : Nat) (v : Value) (hk : k < 21) (h : cs[k]? = some v) (W : World) : (Instr.index 52 (.agg cs) (.int .i64 (k : Int))).run Try.prog W = .ok v W := by
  have h2 : (sizeOf 3).run Try.prog W = .ok 1 W := by kernel_rfl
  simp [Instr.index, run_underlying Try.underlying52, asIntOf, part, h2, hk, h, go_sem]

set_option maxRecDepth 100000 in
set_option maxHeartbeats 800000 in
theorem counted_any (w : World) (v : Value) (l : List Nat) (hv : IsInts w w.heap.size v (ints l)) (hl : l.length ≤ 1000000) (hf : ∀ x ∈ l, x < 21) :
    Calls Try.prog 28 #[v] w fun e w' => e = .returned (.agg (cntC l)) ∧ Below w.heap.size w w' := by
  obtain ⟨A, ca, rfl, hc1, hc2⟩ := hv.shape
  have hli := length_ints l
  obtain ⟨N, hN⟩ : ∃ N, l.length = N := ⟨_, rfl⟩
  rw [hli, hN] at hc1
  rw [hli, hN] at hv ⊢
  have Hv := Lib.hid hv
  have HN := Lib.hid hN
  have Hf := Lib.hid hf
  have hz := cnt_zero
  obtain ⟨Z, hZ⟩ : ∃ Z, cntC [] = Z := ⟨_, rfl⟩
  rw [hZ] at hz
  have HZ := Lib.hid hZ
  rw [hN] at hl
  clear hv hf hZ hN hli
  go_enter Try.func28, Try.ntmps28
  go_wp2
  have hZb : (w.alloc (.cells Z 52)).heap[w.heap.size]? = some (.cells Z 52 (0, 0)) := heap_new _ _ _ rfl
  go_loopw [7] (fun i wr => ∃ k : Nat, k ≤ N ∧ i = .int .i64 k ∧ wr.heap[w.heap.size]? = some (.cells (cntC (l.take k)) 52 (0, 0)) ∧ Below w.heap.size w wr) (fun i _ => N + 1 - (intOf i).toNat)
  case atStart => exact ⟨0, Nat.zero_le _, rfl, by rw [List.take_zero, HZ.out]; exact hZb, (Below.refl _ _).alloc (Nat.le_refl _) _⟩
  case round =>
    obtain ⟨k, hk, rfl, hh, hB⟩ := hrel
    have Hh := Lib.hid hh
    clear hh hZb
    by_cases hlt : k < N
    · obtain ⟨g, o, rfl, hg, hx⟩ := Hv.out.at k (by rw [length_ints, HN.out]; exact hlt)
      have hxe : (ints l)[k]?.getD 0 = ((l[k]?.getD 0 : Nat) : Int) := by simp [ints, List.getElem?_eq_getElem (show k < l.length by rw [HN.out]; exact hlt)]
      rw [hxe] at hx
      have hx' := (hB.cell (p := ⟨g, o + k, none⟩) hg).trans hx
      have hx21 : l[k]?.getD 0 < 21 := by
        rw [List.getElem?_eq_getElem (show k < l.length by rw [HN.out]; exact hlt)]
        exact Hf.out _ (List.getElem_mem _)
      have htk : l.take (k + 1) = l.take k ++ [l[k]?.getD 0] := by
        rw [List.take_succ_eq_append_getElem (show k < l.length by rw [HN.out]; exact hlt), List.getElem?_eq_getElem (show k < l.length by rw [HN.out]; exact hlt)]
        rfl
      obtain ⟨x, hxx⟩ : ∃ x, l[k]?.getD 0 = x := ⟨_, rfl⟩
      rw [hxx] at hx' hx21 htk
      have hcl : (l.take k).count x ≤ k := Nat.le_trans List.count_le_length (List.length_take_le _ _)
      have hc := (cell_of_heap Hh.out x).trans (cntC_get _ _ hx21)
      have hfz := frozen_of_heap Hh.out x
      have Ht : Hid (cntC (l.take (k + 1)) = (cntC (l.take k)).setIfInBounds x (.int .i64 (((l.take k).count x + 1 : Nat) : Int))) := by
        show _ = _
        rw [cntC_set _ _ hx21, htk]
      have hset := Lib.hid (heap_set_ Hh.out x (.int .i64 (((l.take k).count x + 1 : Nat) : Int)))
      obtain ⟨c, hcc⟩ : ∃ c, (l.take k).count x = c := ⟨_, rfl⟩
      rw [hcc] at hc hset Ht hcl
      have hx0 : (0 : Int) ≤ (x : Int) := by omega
      have hxi : (x : Int) < 21 := by omega
      clear hxx htk hx hxe hcc
      go_wp2
      go_roundw
      case rel => exact ⟨k + 1, by omega, by go_num, by rw [Ht.out]; exact hset.out, hB.setCell (p := ⟨w.heap.size, _, none⟩) (Nat.le_refl _) _⟩
      case measure => simp [intOf]; omega
    · obtain rfl : k = N := by omega
      have Hh : Hid (wr.heap[w.heap.size]? = some (.cells (cntC l) 52 (0, 0))) := by
        show _ = _
        have := Hh.out
        rw [List.take_of_length_le (by rw [HN.out]; exact Nat.le_refl _)] at this
        exact this
      generalize hS : cntC l = S at *
      have hSs : S.size = 21 := by rw [← hS]; exact cntC_size _
      have hS1 : S.all (·.oneCell') = true := by rw [← hS]; exact cntC_one _
      have hi : (Try.prog.info? 52).map (·.size) = some S.size := by rw [hSs]; exact cnt_info
      have HS := Lib.hid hS
      have Hi := Lib.hid hi
      have HS1 := Lib.hid hS1
      clear hS hSs hi hS1
      go_wp2_with
        (first
          | (refine wpList_load_row rfl 52 _ rfl w.heap.size rfl _ S _ _ Hh.out Try.underlying52 rfl Hi.out ?_)
          | (refine wpList_store_whole rfl 52 _ _ rfl w.heap.size S S _ rfl rfl Hh.out rfl Hi.out HS1.out ?_
             intro w2 hg2 hs2 hk2 hb2
             have Hg2 := Lib.hid hg2
             have HB2 := Lib.hid (hb2 _ _ (Nat.le_refl _) hB)
             clear hg2 hs2 hk2 hb2))
      refine bodyPost_ret (results_cell_row rfl _ _ w.heap.size _ S _ _ rfl Hg2.out Try.underlying52 rfl Hi.out) rfl ⟨by rw [HS.out], HB2.out⟩

/-- what is left, at the head of each round -/
def leftI (l : List Nat) : Nat → Int
  | 0 => 1
  | k + 1 => 2 ^ k - (nextV l k : Int)
theorem leftI_one (l : List Nat) (k : Nat) : leftI l (k + 1) = 2 ^ k - (nextV l k : Int) := rfl
theorem leftI_succ (l : List Nat) (k : Nat) : leftI l (k + 2) = leftI l (k + 1) * 2 - (l.count (k + 1) : Nat) := by
  rw [leftI_one, leftI_one, nextV, Int.pow_succ]
  omega
theorem leftI_bound (l : List Nat) (k : Nat) (hk : k ≤ 21) (h : 0 ≤ leftI l k) : leftI l k ≤ 1048576 := by
  cases k with
  | zero => simp [leftI]
  | succ k =>
    rw [leftI_one] at *
    have : (2 : Int) ^ k ≤ 2 ^ 20 := by
      rw [pow_castK, pow_castK]
      exact Int.ofNat_le.2 (Nat.pow_le_pow_right (by omega) (by omega))
    have e : (2 : Int) ^ 20 = 1048576 := by decide
    omega

set_option maxRecDepth 100000 in
set_option maxHeartbeats 1600000 in
theorem check_any (w : World) (v : Value) (l : List Int) (hv : IsInts w w.heap.size v l) (hl : l.length ≤ 1000000) :
    Calls Try.prog 14 #[v] w fun e w' => e = .returned (.int .i64 (checkF l)) ∧ Below w.heap.size w w' := by
  by_cases hs : l.length < 2 ∨ 258 < l.length
  · have hc : checkF l = 1 := by unfold checkF; rw [if_pos (by omega)]
    rw [hc]
    obtain ⟨A, ca, rfl, hc1, hc2⟩ := hv.shape
    clear hv hc
    obtain ⟨N, hN⟩ : ∃ N, l.length = N := ⟨_, rfl⟩
    rw [hN] at hs hc1 ⊢
    clear hN
    rcases hs with hs | hs
    · go_enter Try.func14, Try.ntmps14
      go_wp2_with fail
      go_ret
      exact ⟨rfl, Below.refl _ _⟩
    · go_enter Try.func14, Try.ntmps14
      go_wp2_with fail
      go_ret
      exact ⟨rfl, Below.refl _ _⟩
  · have h2 : 2 ≤ l.length := by omega
    have h258 : l.length ≤ 258 := by omega
    have hne : l ≠ [] := fun e => by rw [e] at h2; simp at h2
    have CMin : Hid (Calls Try.prog 27 #[v] w fun e w' => e = .returned (.int .i64 (minI l)) ∧ w = w') := min_any w v l hv (by omega) hne
    have CMax : Hid (Calls Try.prog 25 #[v] w fun e w' => e = .returned (.int .i64 (maxI l)) ∧ w = w') := max_any w v l hv (by omega) hne
    have hfi := fitsI_iff l hne
    by_cases hf : FitsI l
    · have hin := toNat_ints l fun x hx => by have := hf x hx; omega
      obtain ⟨m, hm⟩ : ∃ m, l.map Int.toNat = m := ⟨_, rfl⟩
      have hc : checkF l = if 1048576 < kraft m then 6 else 0 := by
        unfold checkF
        rw [if_neg (by simp only [hf, not_true, or_false]; omega), hm]
      rw [hc]
      obtain ⟨R, hR⟩ : ∃ R : Int, (if 1048576 < kraft m then 6 else 0) = R := ⟨_, rfl⟩
      rw [hR]
      have HR6 : Hid (1048576 < kraft m → R = 6) := fun h => by rw [← hR, if_pos h]
      have HR0 : Hid (kraft m ≤ 1048576 → R = 0) := fun h => by rw [← hR, if_neg (by omega)]
      clear hR
      rw [hm] at hin
      have hmf : Fits m := (fitsI_ints m).1 (by rw [hin]; exact hf)
      have hml : m.length = l.length := by rw [← hm]; simp
      have CC : Hid (Calls Try.prog 28 #[v] w fun e w' => e = .returned (.agg (cntC m)) ∧ Below w.heap.size w w') :=
        counted_any w v m (by rw [hin]; exact hv) (by omega) fun x hx => by have := hmf x hx; omega
      have hk := nextV_kraft m hmf
      have hover := fun j hj => nextV_over m (j := j) (k := 20) hj
      have hk6 : ∀ k, k ≤ 20 → leftI m (k + 1) < 0 → 1048576 < kraft m := fun k hk20 hlt => by
        have h3 : 2 ^ k < nextV m k := by
          rw [leftI_one, pow_castK] at hlt
          omega
        have h4 := hover k hk20 h3
        rw [hk] at h4
        have e : (2 : Nat) ^ 20 = 1048576 := by decide
        omega
      have hk0 : 0 ≤ leftI m 21 → kraft m ≤ 1048576 := fun h => by
        show kraft m ≤ 1048576
        have h5 : leftI m 21 = 2 ^ 20 - (nextV m 20 : Int) := rfl
        rw [hk] at h5
        have e : (2 : Int) ^ 20 = 1048576 := by decide
        omega
      have hcl : ∀ k, m.count k ≤ 258 := fun k => Nat.le_trans List.count_le_length (by omega)
      have hls := leftI_succ m
      have h0c : m.count 0 = 0 := List.count_eq_zero.2 fun h => by have := hmf 0 h; omega
      have hl1 : leftI m 1 = 1 := rfl
      have hlb := leftI_bound m
      have hl0 : leftI m 0 = 1 := rfl
      obtain ⟨hmn, hmx⟩ := hfi.1 hf
      generalize minI l = mn at *
      generalize maxI l = mx at *
      obtain ⟨A, ca, rfl, hc1, hc2⟩ := hv.shape
      obtain ⟨N, hN⟩ : ∃ N, l.length = N := ⟨_, rfl⟩
      have hcg := cntC_get m
      generalize cntC m = C at *
      have Hk6 := Lib.hid hk6
      have Hk0 := Lib.hid hk0
      have Hcl := Lib.hid hcl
      have Hls := Lib.hid hls
      have H0c := Lib.hid h0c
      have Hlb := Lib.hid hlb
      have Hcg := Lib.hid hcg
      have Hl0 := Lib.hid hl0
      have Hl1 := Lib.hid hl1
      generalize hK : kraft m = K at *
      rw [hN] at h2 h258 CMin CMax CC hc1 ⊢
      clear hv hs hne hfi hf hin hm hc hmf hml hk hover hk6 hk0 hcl hls h0c hlb hcg hl0 hl1 hK hN hl
      go_enter Try.func14, Try.ntmps14
      go_wp2_with fail
      refine CMin.out.mono ?_
      rintro e w_ ⟨rfl, rfl⟩
      go_wp2_with fail
      refine CMax.out.mono ?_
      rintro e w_ ⟨rfl, rfl⟩
      go_wp2_with fail
      refine CC.out.mono ?_
      rintro e w1 ⟨rfl, hB1⟩
      clear CMin CMax CC
      go_wp2_with fail
      go_loopw [3, 26] (fun lv iv wr => ∃ k : Nat, k ≤ 21 ∧ iv = .int .i64 k ∧ lv = .int .i64 (leftI m k) ∧ 0 ≤ leftI m k ∧ Hid (wr = w1)) (fun _ iv _ => 21 - (intOf iv).toNat)
      case atStart => exact ⟨0, Nat.zero_le _, rfl, by rw [Hl0.out], by rw [Hl0.out]; omega, Lib.hid rfl⟩
      case round =>
        obtain ⟨k, hk, rfl, rfl, hl0, hw⟩ := hrel
        have hlb := Hlb.out k hk hl0
        by_cases hlt : k < 21
        · have hidx := run_index_cnt C k _ hlt (Hcg.out k hlt)
          have hcl := Hcl.out k
          rcases Nat.eq_zero_or_pos k with rfl | hpos
          · rw [H0c.out] at hidx
            have hidx0 : ∀ W, (Instr.index 52 (.agg C) (.int .i64 0)).run Try.prog W = .ok (.int .i64 0) W := hidx
            clear hidx
            have e0 : leftI m 0 = 1 := Hl0.out
            have e1 : leftI m 1 = 1 := Hl1.out
            rw [e0]
            have He1 := Lib.hid e1
            clear e0 e1 hl0 hlb hcl
            go_wp2_with fail
            go_roundw
            case rel => exact ⟨1, by omega, rfl, by rw [He1.out], by rw [He1.out]; omega, hw⟩
            case measure => simp [intOf]
          · obtain ⟨j, rfl⟩ : ∃ j, k = j + 1 := ⟨k - 1, by omega⟩
            have hst := Hls.out j
            have hov := Hk6.out (j + 1) (by omega)
            obtain ⟨a, ha⟩ : ∃ a, leftI m (j + 1) = a := ⟨_, rfl⟩
            obtain ⟨c, hc⟩ : ∃ c, m.count (j + 1) = c := ⟨_, rfl⟩
            obtain ⟨b, hb⟩ : ∃ b, leftI m (j + 1 + 1) = b := ⟨_, rfl⟩
            rw [ha, hc] at hst
            rw [show leftI m (j + 2) = b from hb] at hst
            rw [hb] at hov
            rw [hc] at hidx hcl
            rw [ha] at hl0 hlb ⊢
            have Hb := Lib.hid hb
            have Hst := Lib.hid hst
            have hb1 : b = a * 2 - (c : Int) := hst
            have Hov := Lib.hid hov
            have hgt : decide ((0 : Int) < (j : Int) + 1) = true := by rw [decide_eq_true_eq]; omega
            have hidx1 : ∀ W, (Instr.index 52 (.agg C) (.int .i64 ((j : Int) + 1))).run Try.prog W = .ok (.int .i64 (c : Int)) W := hidx
            clear ha hc hb hst hov hb1 hidx
            by_cases hneg : a * 2 - (c : Int) < 0
            · have h6 : Hid (1048576 < K) := Hov.out (by rw [Hst.out]; exact hneg)
              go_wp2_with fail
              go_ret
              exact ⟨ret_int (HR6.out h6.out).symm, by rw [hw.out]; exact hB1⟩
            · go_wp2_with fail
              go_roundw
              case rel => exact ⟨j + 1 + 1, by omega, by go_num, by rw [Hb.out, Hst.out], by rw [Hb.out, Hst.out]; omega, hw⟩
              case measure => simp [intOf]; omega
        · obtain rfl : k = 21 := by omega
          have h7 := Lib.hid (Hk0.out hl0)
          clear hl0 hlb
          go_wp2_with fail
          go_ret
          exact ⟨ret_int (HR0.out h7.out).symm, by rw [hw.out]; exact hB1⟩
    · have hc : checkF l = 1 := by unfold checkF; rw [if_pos (.inr (.inr hf))]
      rw [hc]
      have hmm : ¬ (1 ≤ minI l ∧ maxI l ≤ 20) := fun h => hf (hfi.2 h)
      generalize minI l = mn at *
      generalize maxI l = mx at *
      obtain ⟨A, ca, rfl, hc1, hc2⟩ := hv.shape
      obtain ⟨N, hN⟩ : ∃ N, l.length = N := ⟨_, rfl⟩
      rw [hN] at h2 h258 CMin CMax hc1 ⊢
      clear hv hs hne hfi hf hc hN hl
      by_cases h1 : mn < 1
      · clear CMax hmm
        go_enter Try.func14, Try.ntmps14
        go_wp2_with fail
        refine CMin.out.mono ?_
        rintro e w_ ⟨rfl, rfl⟩
        go_wp2_with fail
        go_ret
        exact ⟨rfl, Below.refl _ _⟩
      · have h3 : 20 < mx := by omega
        have h4 : 1 ≤ mn := by omega
        clear hmm h1
        go_enter Try.func14, Try.ntmps14
        go_wp2_with fail
        refine CMin.out.mono ?_
        rintro e w_ ⟨rfl, rfl⟩
        go_wp2_with fail
        refine CMax.out.mono ?_
        rintro e w_ ⟨rfl, rfl⟩
        go_wp2_with fail
        go_ret
        exact ⟨rfl, Below.refl _ _⟩
end Go.Proofs.Ytodniacnjdnffaa
