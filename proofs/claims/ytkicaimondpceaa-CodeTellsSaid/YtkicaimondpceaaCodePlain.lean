/- Plain facts on codes: lengths, words, what stands somewhere: no program. -/
import Derived.Test.YtkicaimondpceaaRest
import Derived.Test.YtkicaimondpceaaKit
namespace Go.Proofs.Ytkicaimondpceaa
open Go.RowKit
set_option linter.unusedVariables false

/-- what lengths use up, at 20 bits -/
def kraft (l : List Nat) : Nat := (l.map fun x => 2 ^ (20 - x)).sum
/-- the number behind the words of at most k bits -/
def nextV (l : List Nat) : Nat → Nat
  | 0 => 0
  | k + 1 => 2 * nextV l k + l.count (k + 1)
/-- may lengths be -/
def Fits (l : List Nat) : Prop := ∀ x ∈ l, 1 ≤ x ∧ x ≤ 20
theorem nextV_nil (k : Nat) : nextV [] k = 0 := by
  induction k with
  | zero => rfl
  | succ k ih => rw [nextV, ih]; rfl
theorem nextV_cons (x : Nat) (l : List Nat) (hx : 1 ≤ x) (k : Nat) : nextV (x :: l) k = nextV l k + if x ≤ k then 2 ^ (k - x) else 0 := by
  induction k with
  | zero => rw [if_neg (by omega)]; rfl
  | succ k ih =>
    rw [nextV, nextV, ih, List.count_cons]
    by_cases h : x ≤ k
    · have h2 : (x == k + 1) = false := by rw [beq_eq_false_iff_ne]; omega
      have h4 : x ≤ k + 1 := by omega
      rw [if_pos h, if_pos h4, show k + 1 - x = (k - x) + 1 by omega, Nat.pow_succ]
      simp only [h2, Bool.false_eq_true, if_false]
      omega
    · by_cases h3 : x = k + 1
      · subst h3
        rw [if_neg h, if_pos (Nat.le_refl _), Nat.sub_self]
        simp
        omega
      · have h2 : (x == k + 1) = false := by rw [beq_eq_false_iff_ne]; omega
        have h4 : ¬ x ≤ k + 1 := by omega
        rw [if_neg h, if_neg h4]
        simp only [h2, Bool.false_eq_true, if_false]
        omega
theorem kraft_nil : kraft [] = 0 := rfl
theorem kraft_cons (x : Nat) (l : List Nat) : kraft (x :: l) = 2 ^ (20 - x) + kraft l := by simp [kraft]
theorem kraft_append (l m : List Nat) : kraft (l ++ m) = kraft l + kraft m := by simp [kraft]
theorem nextV_kraft (l : List Nat) (h : Fits l) : nextV l 20 = kraft l := by
  induction l with
  | nil => exact nextV_nil 20
  | cons x l ih =>
    have hx := h x (by simp)
    rw [nextV_cons x l hx.1, kraft_cons, ih fun y hy => h y (by simp [hy]), if_pos hx.2]
    omega
/-- what was too much stays so -/
theorem nextV_over (l : List Nat) {j k : Nat} (hjk : j ≤ k) (h : 2 ^ j < nextV l j) : 2 ^ k < nextV l k := by
  induction hjk with
  | refl => exact h
  | step _ ih => rw [nextV, Nat.pow_succ]; omega
theorem nextV_le (l : List Nat) (hf : Fits l) (hk : kraft l ≤ 1048576) (k : Nat) (h : k ≤ 20) : nextV l k ≤ 2 ^ k := by
  rcases Nat.lt_or_ge (2 ^ k) (nextV l k) with h1 | h1
  · have := nextV_over l h h1
    rw [nextV_kraft l hf] at this
    have e : (2 : Nat) ^ 20 = 1048576 := by decide
    omega
  · exact h1
/-- what is wrong with lengths -/
def FitsI (l : List Int) : Prop := ∀ x ∈ l, 1 ≤ x ∧ x ≤ 20
instance (l : List Int) : Decidable (FitsI l) := inferInstanceAs (Decidable (∀ x ∈ l, 1 ≤ x ∧ x ≤ 20))
instance (l : List Nat) : Decidable (Fits l) := inferInstanceAs (Decidable (∀ x ∈ l, 1 ≤ x ∧ x ≤ 20))
def checkF (l : List Int) : Int :=
  if l.length < 2 ∨ 258 < l.length ∨ ¬ FitsI l then 1 else if 1048576 < kraft (l.map Int.toNat) then 6 else 0
theorem fitsI_ints (l : List Nat) : FitsI (ints l) ↔ Fits l := by
  unfold FitsI Fits ints
  constructor
  · intro h x hx
    have := h (x : Int) (List.mem_map.2 ⟨x, hx, rfl⟩)
    omega
  · intro h x hx
    obtain ⟨y, hy, rfl⟩ := List.mem_map.1 hx
    have := h y hy
    omega
theorem ints_toNat (l : List Nat) : (ints l).map Int.toNat = l := by
  unfold ints
  rw [List.map_map]
  have : (Int.toNat ∘ fun a : Nat => (a : Int)) = id := by funext x; simp
  rw [this, List.map_id]
theorem toNat_ints (l : List Int) (h : ∀ x ∈ l, 0 ≤ x) : ints (l.map Int.toNat) = l := by
  unfold ints
  rw [List.map_map]
  have : l.map ((fun a : Nat => (a : Int)) ∘ Int.toNat) = l.map id := List.map_congr_left fun x hx => by
    have := h x hx
    simp only [Function.comp, id]
    omega
  rw [this, List.map_id]
theorem checkF_ints (l : List Nat) : checkF (ints l) = if l.length < 2 ∨ 258 < l.length ∨ ¬ Fits l then 1 else if 1048576 < kraft l then 6 else 0 := by
  unfold checkF
  rw [length_ints, ints_toNat]
  by_cases h : Fits l
  · have h2 := (fitsI_ints l).2 h
    simp only [h2, h]
  · have h2 : ¬ FitsI (ints l) := fun h3 => h ((fitsI_ints l).1 h3)
    simp only [h, h2, not_false_eq_true, or_true, if_true]
/-- lengths that may be -/
structure Code (l : List Nat) : Prop where
  two : 2 ≤ l.length
  most : l.length ≤ 258
  fits : Fits l
  room : kraft l ≤ 1048576
theorem Code.ok {l : List Nat} (h : Code l) : checkF (ints l) = 0 := by
  rw [checkF_ints, if_neg (by have := h.two; have := h.most; have := h.fits; simp [*]), if_neg (by have := h.room; omega)]
theorem code_of_ok {l : List Int} (h : checkF l = 0) : Code (l.map Int.toNat) ∧ ints (l.map Int.toNat) = l := by
  unfold checkF at h
  split at h
  · cases h
  · rename_i h1
    split at h
    · cases h
    · have h2 : 2 ≤ l.length := by omega
      have h3 : l.length ≤ 258 := by omega
      have h4 : FitsI l := Classical.not_not.1 fun hn => h1 (.inr (.inr hn))
      have h5 := toNat_ints l fun x hx => by have := h4 x hx; omega
      refine ⟨⟨by simpa using h2, by simpa using h3, (fitsI_ints _).1 (by rw [h5]; exact h4), by omega⟩, h5⟩
/-- whose words have n bits, in order -/
def whose (l : List Nat) (n : Nat) : List Nat := (List.range l.length).filter fun s => l[s]? == some n
/-- the first ones of so many -/
def whoseTo (l : List Nat) (n i : Nat) : List Nat := (List.range i).filter fun s => l[s]? == some n
theorem whoseTo_succ (l : List Nat) (n i : Nat) : whoseTo l n (i + 1) = whoseTo l n i ++ if l[i]? = some n then [i] else [] := by
  unfold whoseTo
  rw [List.range_succ, List.filter_append]
  by_cases h : l[i]? = some n
  · rw [if_pos h]; simp [h]
  · rw [if_neg h]; simp [h]
theorem length_whoseTo (l : List Nat) (n i : Nat) (hi : i ≤ l.length) : (whoseTo l n i).length = (l.take i).count n := by
  induction i with
  | zero => rfl
  | succ i ih =>
    rw [whoseTo_succ, List.length_append, ih (by omega), List.take_succ_eq_append_getElem (by omega), List.count_append, List.getElem?_eq_getElem (by omega)]
    by_cases h : l[i] = n
    · simp [h]
    · simp [h]
theorem length_whose (l : List Nat) (n : Nat) : (whose l n).length = l.count n := by
  have := length_whoseTo l n l.length (Nat.le_refl _)
  rw [List.take_length] at this
  exact this
theorem whose_mem (l : List Nat) (n s : Nat) : s ∈ whose l n ↔ l[s]? = some n := by
  simp only [whose, List.mem_filter, List.mem_range, beq_iff_eq]
  constructor
  · exact fun h => h.2
  · exact fun h => ⟨(List.getElem?_eq_some_iff.1 h).1, h⟩
theorem length_whose_le (l : List Nat) (n : Nat) : (whose l n).length ≤ l.length := by rw [length_whose]; exact List.count_le_length
/-- where a symbol stands among those of its length -/
theorem whose_rank (l : List Nat) (n s : Nat) (h : l[s]? = some n) : (whose l n)[(l.take s).count n]? = some s := by
  have hs := (List.getElem?_eq_some_iff.1 h).1
  obtain ⟨d, hd⟩ : ∃ d, l.length = s + 1 + d := ⟨l.length - (s + 1), by omega⟩
  have e : whose l n = whoseTo l n s ++ ([s] ++ ((List.range d).map fun j => s + 1 + j).filter fun t => l[t]? == some n) := by
    unfold whose
    rw [hd, List.range_add, List.filter_append, List.range_succ, List.filter_append]
    unfold whoseTo
    simp [h]
  rw [e, ← length_whoseTo l n s (by omega), List.getElem?_append_right (Nat.le_refl _), Nat.sub_self]
  rfl
/-- a symbol's word -/
def wordV (l : List Nat) (s : Nat) : Nat := 2 * nextV l ((l[s]?.getD 0) - 1) + (l.take s).count (l[s]?.getD 0)
/-- the lengths that there are, from the least -/
def levelNs (l : List Nat) (k : Nat) : List Nat := (List.range (k + 1)).filter fun n => decide (1 ≤ n) && decide (0 < l.count n)
theorem levelNs_zero (l : List Nat) : levelNs l 0 = [] := rfl
theorem levelNs_succ (l : List Nat) (k : Nat) : levelNs l (k + 1) = levelNs l k ++ if 0 < l.count (k + 1) then [k + 1] else [] := by
  unfold levelNs
  rw [List.range_succ, List.filter_append]
  congr 1
  by_cases h : 0 < l.count (k + 1)
  · rw [if_pos h, List.filter_cons, decide_eq_true h]; simp
  · rw [if_neg h, List.filter_cons, decide_eq_false h]; simp
theorem levelNs_mem (l : List Nat) (k n : Nat) : n ∈ levelNs l k ↔ 1 ≤ n ∧ n ≤ k ∧ 0 < l.count n := by
  simp only [levelNs, List.mem_filter, List.mem_range, Bool.and_eq_true, decide_eq_true_eq]
  omega
theorem levelNs_prefix (l : List Nat) {j k : Nat} (h : j ≤ k) : levelNs l j <+: levelNs l k := by
  induction h with
  | refl => exact List.prefix_refl _
  | step _ ih => exact ih.trans (by rw [levelNs_succ]; exact List.prefix_append _ _)
/-- the symbol that stands somewhere, and the place behind it, or why there is none -/
def takeGo (l : List Nat) (u : List UInt8) (a : Int) : List Nat → Except Int (Nat × Int)
  | [] => .error 3
  | n :: ns =>
    if getE u a n ≠ 0 then .error (getE u a n)
    else if 2 * nextV l (n - 1) ≤ (getV u a n).toNat ∧ (getV u a n).toNat < 2 * nextV l (n - 1) + l.count n then .ok ((whose l n)[(getV u a n).toNat - 2 * nextV l (n - 1)]?.getD 0, a + n)
    else takeGo l u a ns
def takeF (l : List Nat) (u : List UInt8) (a : Int) : Except Int (Nat × Int) := takeGo l u a (levelNs l 20)
/-- does a round go on -/
def missN (l : List Nat) (u : List UInt8) (a : Int) (n : Nat) : Prop :=
  getE u a n = 0 ∧ ¬ (2 * nextV l (n - 1) ≤ (getV u a n).toNat ∧ (getV u a n).toNat < 2 * nextV l (n - 1) + l.count n)
theorem takeGo_miss {l : List Nat} {u : List UInt8} {a : Int} {ns : List Nat} (h : ∀ n ∈ ns, missN l u a n) (ms : List Nat) : takeGo l u a (ns ++ ms) = takeGo l u a ms := by
  induction ns with
  | nil => rfl
  | cons n ns ih =>
    have hn := h n (by simp)
    rw [List.cons_append, takeGo, if_neg (by rw [hn.1]; simp), if_neg hn.2, ih fun m hm => h m (by simp [hm])]
/-- a symbol's bits -/
def wordB (l : List Nat) (s : Nat) : List Bool := B.low (wordV l s) (l[s]?.getD 0)
def putB (l : List Nat) (m : List Nat) : List Bool := m.flatMap (wordB l)
theorem length_wordB (l : List Nat) (s : Nat) : (wordB l s).length = l[s]?.getD 0 := B.length_low _ _
theorem getD_fits {l : List Nat} (h : Fits l) (s : Nat) : l[s]?.getD 0 ≤ 20 := by
  cases hs : l[s]? with
  | none => simp
  | some x => exact (h x (List.mem_of_getElem? hs)).2
theorem length_putB_le {l : List Nat} (h : Fits l) (m : List Nat) : (putB l m).length ≤ 20 * m.length := by
  induction m with
  | nil => simp [putB]
  | cons s m ih =>
    have e : putB l (s :: m) = wordB l s ++ putB l m := by simp [putB]
    have := getD_fits h s
    rw [e, List.length_append, length_wordB, List.length_cons]
    omega
theorem wordV_lt {l : List Nat} (h : Code l) {s n : Nat} (hs : l[s]? = some n) : wordV l s < 2 ^ n := by
  have hn := h.fits n (List.mem_of_getElem? hs)
  obtain ⟨k, rfl⟩ : ∃ k, n = k + 1 := ⟨n - 1, by omega⟩
  have h1 := nextV_le l h.fits h.room (k + 1) hn.2
  rw [nextV] at h1
  have hlt := (List.getElem?_eq_some_iff.1 hs).1
  have h2 : (l.take s).count (k + 1) < l.count (k + 1) := by
    have e : l = l.take s ++ (k + 1) :: l.drop (s + 1) := by
      have := (List.getElem?_eq_some_iff.1 hs).2
      rw [← this, List.getElem_cons_drop, List.take_append_drop]
    have : l.count (k + 1) = (l.take s ++ (k + 1) :: l.drop (s + 1)).count (k + 1) := by rw [← e]
    rw [this, List.count_append, List.count_cons]
    simp
  unfold wordV
  rw [hs]
  simp only [Option.getD_some, Nat.add_sub_cancel]
  omega
end Go.Proofs.Ytkicaimondpceaa
