/- Lengths: weights are halved till no depth is too great. -/
import Derived.Test.YtodniacnjdnffaaHuff2
namespace Go.Proofs.Ytodniacnjdnffaa
open Go.RowKit
set_option linter.unusedVariables false

def halve (w : List Nat) : List Nat := w.map fun x => x / 2 + 1
theorem length_halve (w : List Nat) : (halve w).length = w.length := by simp [halve]
theorem halve_pos (w : List Nat) : ∀ x ∈ halve w, 1 ≤ x := fun x hx => by
  simp only [halve, List.mem_map] at hx
  obtain ⟨y, _, rfl⟩ := hx
  omega
theorem halve_get (w : List Nat) (i : Nat) : (halve w)[i]? = w[i]?.map fun x => x / 2 + 1 := by simp [halve]
/-- is some depth too great -/
def tooDeep (w : List Nat) (most : Nat) : Bool := (depthsF w).any fun d => decide (most < d)
def lengthsF : Nat → List Nat → Nat → List Nat
  | 0, w, _ => depthsF w
  | n + 1, w, most => if tooDeep w most then lengthsF n (halve w) most else depthsF w
theorem tooDeep_iff (w : List Nat) (most : Nat) : tooDeep w most = true ↔ ∃ i, i < w.length ∧ most < dpF w i := by
  unfold tooDeep
  rw [List.any_eq_true]
  constructor
  · rintro ⟨d, hd, h⟩
    obtain ⟨i, hi, he⟩ := List.getElem_of_mem hd
    rw [length_depthsF] at hi
    have h3 := depthsF_get w i hi
    rw [List.getElem?_eq_getElem (by rw [length_depthsF]; exact hi), he] at h3
    injection h3 with h3
    exact ⟨i, hi, by rw [← h3]; simpa using h⟩
  · rintro ⟨i, hi, h⟩
    exact ⟨dpF w i, List.mem_of_getElem? (depthsF_get w i hi), by simpa using h⟩
/-- of weights that are at most 2 no depth is more than 9 -/
theorem small_depth {w : List Nat} (hw : ∀ x ∈ w, 1 ≤ x) (h2 : 2 ≤ w.length) (h258 : w.length ≤ 258) (hs : ∀ x ∈ w, x ≤ 2) : ∀ i, i < w.length → dpF w i ≤ 9 := by
  obtain ⟨d, h3, h4, _⟩ := depths_even hw h2 (fun i k hi hk => dpF_near hw h2 (List.getElem?_eq_getElem hi) (List.getElem?_eq_getElem hk) (.inr (hs _ (List.getElem_mem hk))))
  have hd : d < 9 := by
    rcases Nat.lt_or_ge d 9 with h | h
    · exact h
    · have h5 : (2 : Nat) ^ 9 ≤ 2 ^ d := Nat.pow_le_pow_right (by omega) h
      have h6 : (2 : Nat) ^ 9 = 512 := by decide
      omega
  intro i hi
  have := h3 i hi
  omega
theorem halve_sum (w : List Nat) (hw : ∀ x ∈ w, 1 ≤ x) : (halve w).sum ≤ w.sum ∧ ((∃ x ∈ w, 3 ≤ x) → (halve w).sum < w.sum) := by
  induction w with
  | nil => exact ⟨Nat.le_refl _, fun ⟨x, hx, _⟩ => by simp at hx⟩
  | cons y w ih =>
    obtain ⟨h1, h2⟩ := ih fun x hx => hw x (by simp [hx])
    have hy := hw y (by simp)
    have e : (halve (y :: w)).sum = (y / 2 + 1) + (halve w).sum := by simp [halve]
    rw [e, List.sum_cons]
    refine ⟨by omega, fun ⟨x, hx, h3⟩ => ?_⟩
    rcases List.mem_cons.1 hx with rfl | hx
    · omega
    · have := h2 ⟨x, hx, h3⟩
      omega
theorem sum_pos {w : List Nat} (hw : ∀ x ∈ w, 1 ≤ x) (h : 0 < w.length) : 0 < w.sum := by
  cases w with
  | nil => simp at h
  | cons x w => have := hw x (by simp); rw [List.sum_cons]; omega
/-- one step -/
theorem halve_step {w : List Nat} (hw : ∀ x ∈ w, 1 ≤ x) (h2 : 2 ≤ w.length) (h258 : w.length ≤ 258) {most : Nat} (hm : 9 ≤ most) (ht : tooDeep w most = true) {n : Nat} (hn : w.sum ≤ n) : ∃ k, n = k + 1 ∧ (halve w).sum ≤ k ∧ lengthsF n w most = lengthsF k (halve w) most := by
  have h0 := sum_pos hw (by omega)
  obtain ⟨k, rfl⟩ : ∃ k, n = k + 1 := ⟨n - 1, by omega⟩
  have h3 : ∃ x ∈ w, 3 ≤ x := by
    obtain ⟨i, hi, hd⟩ := (tooDeep_iff w most).1 ht
    refine Classical.byContradiction fun hno => ?_
    have := small_depth hw h2 h258 (fun x hx => by
      rcases Nat.lt_or_ge x 3 with h | h
      · omega
      · exact absurd ⟨x, hx, h⟩ hno) i hi
    omega
  have := (halve_sum w hw).2 h3
  exact ⟨k, rfl, by omega, by rw [lengthsF, if_pos ht]⟩
theorem lengthsF_done {w : List Nat} {most : Nat} (ht : tooDeep w most = false) (n : Nat) : lengthsF n w most = depthsF w := by
  cases n with
  | zero => rfl
  | succ n => rw [lengthsF, if_neg (by rw [ht]; simp)]
/-- what Lengths tells, is the depths of some weights -/
theorem lengthsF_spec (n : Nat) : ∀ (w : List Nat) (most : Nat), (∀ x ∈ w, 1 ≤ x) → 2 ≤ w.length → w.length ≤ 258 → 9 ≤ most → w.sum ≤ n →
    ∃ u, lengthsF n w most = depthsF u ∧ u.length = w.length ∧ (∀ x ∈ u, 1 ≤ x) ∧ (∀ i, i < w.length → dpF u i ≤ most) ∧ (∀ i k : Nat, w[i]? = w[k]? → u[i]? = u[k]?) ∧ (tooDeep w most = false → u = w) := by
  induction n with
  | zero =>
    intro w most hw h2 _ _ hn
    have := sum_pos hw (by omega)
    omega
  | succ n ih =>
    intro w most hw h2 h258 hm hn
    cases ht : tooDeep w most with
    | false =>
      refine ⟨w, lengthsF_done ht _, rfl, hw, fun i hi => ?_, fun i k h => h, fun _ => rfl⟩
      rcases Nat.lt_or_ge most (dpF w i) with h | h
      · have := (tooDeep_iff w most).2 ⟨i, hi, h⟩
        rw [ht] at this
        cases this
      · exact h
    | true =>
      obtain ⟨k, hk1, hk2, hk3⟩ := halve_step hw h2 h258 hm ht hn
      obtain rfl : n = k := by omega
      obtain ⟨u, h3, h4, h5, h6, h7, _⟩ := ih (halve w) most (halve_pos w) (by rw [length_halve]; exact h2) (by rw [length_halve]; exact h258) hm hk2
      rw [length_halve] at h4 h6
      exact ⟨u, hk3.trans h3, h4, h5, h6, fun i j h => h7 i j (by rw [halve_get, halve_get, h]), fun h => by cases h⟩
theorem not_deep {w : List Nat} (hw : ∀ x ∈ w, 1 ≤ x) (h20 : w.length ≤ 20) : tooDeep w 20 = false := by
  cases ht : tooDeep w 20 with
  | false => rfl
  | true =>
    obtain ⟨i, hi, hd⟩ := (tooDeep_iff w 20).1 ht
    have := dpF_lt hw (List.getElem?_eq_getElem hi)
    omega
end Go.Proofs.Ytodniacnjdnffaa
