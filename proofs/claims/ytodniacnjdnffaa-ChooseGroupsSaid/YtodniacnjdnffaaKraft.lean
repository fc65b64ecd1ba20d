/- What lengths use up, and which may be: plain. (The head of CodePlain, without bits.) -/
import Derived.Test.YtodniacnjdnffaaKit
namespace Go.Proofs.Ytodniacnjdnffaa
open Go.RowKit
set_option linter.unusedVariables false

theorem pow_castK (k : Nat) : ((2 : Int) ^ k) = ((2 ^ k : Nat) : Int) := by push_cast; rfl
/-- what lengths use up, at 20 bits -/
def kraft (l : List Nat) : Nat := (l.map fun x => 2 ^ (20 - x)).sum
/-- the number behind the words of at most k bits -/
def nextV (l : List Nat) : Nat → Nat
  | 0 => 0
  | k + 1 => 2 * nextV l k + l.count (k + 1)
/-- may lengths be -/
def Fits (l : List Nat) : Prop := ∀ x ∈ l, 1 ≤ x ∧ x ≤ 20
theorem nextV_nil (k : Nat) : nextV [] k = 0 := by
  induction k with
  | zero => rfl
  | succ k ih => rw [nextV, ih]; rfl
theorem nextV_cons (x : Nat) (l : List Nat) (hx : 1 ≤ x) (k : Nat) : nextV (x :: l) k = nextV l k + if x ≤ k then 2 ^ (k - x) else 0 := by
  induction k with
  | zero => rw [if_neg (by omega)]; rfl
  | succ k ih =>
    rw [nextV, nextV, ih, List.count_cons]
    by_cases h : x ≤ k
    · have h2 : (x == k + 1) = false := by rw [beq_eq_false_iff_ne]; omega
      have h4 : x ≤ k + 1 := by omega
      rw [if_pos h, if_pos h4, show k + 1 - x = (k - x) + 1 by omega, Nat.pow_succ]
      simp only [h2, Bool.false_eq_true, if_false]
      omega
    · by_cases h3 : x = k + 1
      · subst h3
        rw [if_neg h, if_pos (Nat.le_refl _), Nat.sub_self]
        simp
        omega
      · have h2 : (x == k + 1) = false := by rw [beq_eq_false_iff_ne]; omega
        have h4 : ¬ x ≤ k + 1 := by omega
        rw [if_neg h, if_neg h4]
        simp only [h2, Bool.false_eq_true, if_false]
        omega
theorem kraft_nil : kraft [] = 0 := rfl
theorem kraft_cons (x : Nat) (l : List Nat) : kraft (x :: l) = 2 ^ (20 - x) + kraft l := by simp [kraft]
theorem kraft_append (l m : List Nat) : kraft (l ++ m) = kraft l + kraft m := by simp [kraft]
theorem nextV_kraft (l : List Nat) (h : Fits l) : nextV l 20 = kraft l := by
  induction l with
  | nil => exact nextV_nil 20
  | cons x l ih =>
    have hx := h x (by simp)
    rw [nextV_cons x l hx.1, kraft_cons, ih fun y hy => h y (by simp [hy]), if_pos hx.2]
    omega
/-- what was too much stays so -/
theorem nextV_over (l : List Nat) {j k : Nat} (hjk : j ≤ k) (h : 2 ^ j < nextV l j) : 2 ^ k < nextV l k := by
  induction hjk with
  | refl => exact h
  | step _ ih => rw [nextV, Nat.pow_succ]; omega
theorem nextV_le (l : List Nat) (hf : Fits l) (hk : kraft l ≤ 1048576) (k : Nat) (h : k ≤ 20) : nextV l k ≤ 2 ^ k := by
  rcases Nat.lt_or_ge (2 ^ k) (nextV l k) with h1 | h1
  · have := nextV_over l h h1
    rw [nextV_kraft l hf] at this
    have e : (2 : Nat) ^ 20 = 1048576 := by decide
    omega
  · exact h1
/-- what is wrong with lengths -/
def FitsI (l : List Int) : Prop := ∀ x ∈ l, 1 ≤ x ∧ x ≤ 20
instance (l : List Int) : Decidable (FitsI l) := inferInstanceAs (Decidable (∀ x ∈ l, 1 ≤ x ∧ x ≤ 20))
instance (l : List Nat) : Decidable (Fits l) := inferInstanceAs (Decidable (∀ x ∈ l, 1 ≤ x ∧ x ≤ 20))
def checkF (l : List Int) : Int :=
  if l.length < 2 ∨ 258 < l.length ∨ ¬ FitsI l then 1 else if 1048576 < kraft (l.map Int.toNat) then 6 else 0
theorem fitsI_ints (l : List Nat) : FitsI (ints l) ↔ Fits l := by
  unfold FitsI Fits ints
  constructor
  · intro h x hx
    have := h (x : Int) (List.mem_map.2 ⟨x, hx, rfl⟩)
    omega
  · intro h x hx
    obtain ⟨y, hy, rfl⟩ := List.mem_map.1 hx
    have := h y hy
    omega
theorem ints_toNat (l : List Nat) : (ints l).map Int.toNat = l := by
  unfold ints
  rw [List.map_map]
  have : (Int.toNat ∘ fun a : Nat => (a : Int)) = id := by funext x; simp
  rw [this, List.map_id]
theorem toNat_ints (l : List Int) (h : ∀ x ∈ l, 0 ≤ x) : ints (l.map Int.toNat) = l := by
  unfold ints
  rw [List.map_map]
  have : l.map ((fun a : Nat => (a : Int)) ∘ Int.toNat) = l.map id := List.map_congr_left fun x hx => by
    have := h x hx
    simp only [Function.comp, id]
    omega
  rw [this, List.map_id]
theorem checkF_ints (l : List Nat) : checkF (ints l) = if l.length < 2 ∨ 258 < l.length ∨ ¬ Fits l then 1 else if 1048576 < kraft l then 6 else 0 := by
  unfold checkF
  rw [length_ints, ints_toNat]
  by_cases h : Fits l
  · have h2 := (fitsI_ints l).2 h
    simp only [h2, h]
  · have h2 : ¬ FitsI (ints l) := fun h3 => h ((fitsI_ints l).1 h3)
    simp only [h, h2, not_false_eq_true, or_true, if_true]
/-- lengths that may be -/
structure Code (l : List Nat) : Prop where
  two : 2 ≤ l.length
  most : l.length ≤ 258
  fits : Fits l
  room : kraft l ≤ 1048576
theorem Code.ok {l : List Nat} (h : Code l) : checkF (ints l) = 0 := by
  rw [checkF_ints, if_neg (by have := h.two; have := h.most; have := h.fits; simp [*]), if_neg (by have := h.room; omega)]
theorem code_of_ok {l : List Int} (h : checkF l = 0) : Code (l.map Int.toNat) ∧ ints (l.map Int.toNat) = l := by
  unfold checkF at h
  split at h
  · cases h
  · rename_i h1
    split at h
    · cases h
    · have h2 : 2 ≤ l.length := by omega
      have h3 : l.length ≤ 258 := by omega
      have h4 : FitsI l := Classical.not_not.1 fun hn => h1 (.inr (.inr hn))
      have h5 := toNat_ints l fun x hx => by have := h4 x hx; omega
      refine ⟨⟨by simpa using h2, by simpa using h3, (fitsI_ints _).1 (by rw [h5]; exact h4), by omega⟩, h5⟩
end Go.Proofs.Ytodniacnjdnffaa
