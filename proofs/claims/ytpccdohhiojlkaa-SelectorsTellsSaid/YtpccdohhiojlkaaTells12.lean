/- Both answers of layer 12, for any row, for any text. -/
import Derived.Test.YtpccdohhiojlkaaRefSelP
import Derived.Test.YtpccdohhiojlkaaRefSelT
import Derived.Test.YtpccdohhiojlkaaAwake12
import Derived.Test.YtpccdohhiojlkaaRefInts
namespace Go.Proofs.Ytpccdohhiojlkaa
open Go.RowKit
set_option linter.unusedVariables false

theorem sputs_any (xs : List Int) (t : Int) (hl : xs.length ≤ 1000) : ∃ (d : ByteArray) (n e : Int),
    (∀ (W : World) (v : Value), IsInts W W.heap.size v xs → Calls Try.prog 11 #[v, .int .i64 t] W fun en w' => en = .returned (.tuple #[.agg #[.string d, .int .i64 n], .int .i64 e]) ∧ Below W.heap.size W w') ∧
    (∀ (W : World) (v : Value), IsInts W W.heap.size v xs → Calls Try.prog 12 #[v, .int .i64 t] W fun en w' => en = .returned (.tuple #[.agg #[.string d, .int .i64 n], .int .i64 e]) ∧ Below W.heap.size W w') := by
  by_cases ht : 2 ≤ t ∧ t ≤ 6
  · obtain ⟨t, rfl⟩ := Int.eq_ofNat_of_zero_le (show 0 ≤ t by omega)
    by_cases hb : xs.any (badF (t : Nat)) = true
    · exact ⟨_, _, _, fun W v h => selPut_none W v xs t h (by omega) (by omega) (by omega) hb, fun W v h => rput12_none W v xs t h hl (by omega) (by omega) hb⟩
    · have hb2 : xs.any (badF (t : Nat)) = false := by simpa using hb
      have hn : ∀ x ∈ xs, 0 ≤ x ∧ x < t := fun x hx => by
        have := List.any_eq_false.1 hb2 x hx
        simp [badF] at this
        omega
      obtain ⟨ns, rfl⟩ : ∃ ns : List Nat, xs = ints ns := ⟨xs.map Int.toNat, by
        unfold ints
        rw [List.map_map]
        conv => lhs; rw [← List.map_id xs]
        apply List.map_congr_left
        intro x hx
        have := hn x hx
        simp only [Function.comp, id]
        omega⟩
      rw [length_ints] at hl
      have hn2 : ∀ n ∈ ns, n < t := fun n h => by
        have := hn (n : Int) (by simp only [ints, List.mem_map]; exact ⟨n, h, rfl⟩)
        omega
      exact ⟨_, _, _, fun W v h => selPut_any W v ns t h (by omega) (by omega) (by omega) hn2, fun W v h => rput12_any W v ns t h hl (by omega) (by omega) hn2⟩
  · have ht2 : (decide (2 ≤ t) && decide (t ≤ 6)) = false := by
      rw [Bool.and_eq_false_iff, decide_eq_false_iff_not, decide_eq_false_iff_not]
      omega
    exact ⟨_, _, _, fun W v h => selPut_arg W v t ht2, fun W v h => rput12_arg W v t ht2⟩
def rowS (r : Except Int (List Nat × Nat)) : List Int := match r with
  | .ok (l, _) => ints l
  | .error _ => []
def xS (r : Except Int (List Nat × Nat)) : Int := match r with
  | .ok (_, x) => (x : Nat)
  | .error _ => 0
def eS (r : Except Int (List Nat × Nat)) : Int := match r with
  | .ok _ => 0
  | .error e => e
theorem takeEndsS_row {W : World} {r : Except Int (List Nat × Nat)} {en : Ending} {w' : World} (h : TakeEnds W r en w') : ∃ q c, en = .returned (.tuple #[.slice q (rowS r).length c, .int .i64 (xS r), .int .i64 (eS r)]) ∧ IsInts w' w'.heap.size (.slice q (rowS r).length c) (rowS r) ∧ Below W.heap.size W w' := by
  cases r with
  | error c =>
    obtain ⟨rfl, hB⟩ := h
    exact ⟨none, 0, rfl, IsInts.nil _ _, hB⟩
  | ok p =>
    obtain ⟨l, x⟩ := p
    obtain ⟨v, rfl, ho, hB⟩ := h
    obtain ⟨q, c, rfl⟩ := ho.shape
    exact ⟨q, c, rfl, ho.is, hB⟩
theorem stakes_any (z : ByteArray) (i m y : Int) (hz : z.size ≤ 1099511627776) (hi : i ≤ 9223372036854775807) : ∃ (L : List Int) (x e : Int), L.length ≤ 1048576 ∧
    (∀ W, Calls Try.prog 13 #[.string z, .int .i64 i, .int .i64 m, .int .i64 y] W fun en w' => ∃ q c, en = .returned (.tuple #[.slice q L.length c, .int .i64 x, .int .i64 e]) ∧ IsInts w' w'.heap.size (.slice q L.length c) L ∧ Below W.heap.size W w') ∧
    (∀ W, Calls Try.prog 14 #[.string z, .int .i64 i, .int .i64 m, .int .i64 y] W fun en w' => ∃ q c, en = .returned (.tuple #[.slice q L.length c, .int .i64 x, .int .i64 e]) ∧ IsInts w' w'.heap.size (.slice q L.length c) L ∧ Below W.heap.size W w') := by
  by_cases h : ((decide (2 ≤ y) && decide (y ≤ 6)) && !(decide (i < 0)) && !(decide (m < 0)) && !(decide (1048576 < m))) = true
  · simp only [Bool.and_eq_true, Bool.not_eq_true', decide_eq_false_iff_not, decide_eq_true_eq] at h
    obtain ⟨t, rfl⟩ := Int.eq_ofNat_of_zero_le (show 0 ≤ y by omega)
    obtain ⟨a, rfl⟩ := Int.eq_ofNat_of_zero_le (show 0 ≤ i by omega)
    obtain ⟨c, rfl⟩ := Int.eq_ofNat_of_zero_le (show 0 ≤ m by omega)
    refine ⟨rowS (selR z.data.toList t a c), _, _, ?_, fun W => (selTake_any W z a c t hz (by omega) (by omega) (by omega) (by omega)).mono fun _ _ h => takeEndsS_row h, fun W => (rtake12_any W z a c t hz (by omega) (by omega) (by omega) (by omega)).mono fun _ _ h => takeEndsS_row h⟩
    cases hr : selR z.data.toList t a c with
    | error e => simp [rowS]
    | ok p =>
      obtain ⟨l, x⟩ := p
      unfold selR at hr
      cases hp : selP t c (List.range 6) (rest z.data.toList a) with
      | error e => rw [hp] at hr; cases hr
      | ok q =>
        obtain ⟨l2, r2⟩ := q
        rw [hp] at hr
        simp only [Except.ok.injEq, Prod.mk.injEq] at hr
        obtain ⟨rfl, rfl⟩ := hr
        have := (selP_ok t (by omega) (by omega) c _ _ _ _ (tabs_start t (by omega)) hp).1
        simp only [rowS, length_ints]
        omega
  · have h2 : ((decide (2 ≤ y) && decide (y ≤ 6)) && !(decide (i < 0)) && !(decide (m < 0)) && !(decide (1048576 < m))) = false := by simpa using h
    refine ⟨[], 0, 1, by simp, fun W => (selTake_arg W z i m y h2).mono ?_, fun W => (rtake12_arg W z i m y h2).mono ?_⟩
    · rintro e w' ⟨rfl, hB⟩
      exact ⟨none, 0, rfl, IsInts.nil _ _, hB⟩
    · rintro e w' ⟨rfl, rfl⟩
      exact ⟨none, 0, rfl, IsInts.nil _ _, Below.refl _ _⟩
end Go.Proofs.Ytpccdohhiojlkaa
