/- Digits of numbers, plainly. -/
import Derived.Test.YtflhhlemoaifnaaMem
namespace Go.Proofs.Ytflhhlemoaifnaa
open Go.RowKit
set_option linter.unusedVariables false

/-- a number's digits -/
def digs (n : Nat) : List Int := if h : n = 0 then [] else (((n - 1) % 2 : Nat) : Int) :: digs ((n - 1) / 2)
termination_by n
decreasing_by omega
theorem digs_zero : digs 0 = [] := by rw [digs]; rfl
theorem digs_pos {n : Nat} (h : 0 < n) : digs n = (((n - 1) % 2 : Nat) : Int) :: digs ((n - 1) / 2) := by rw [digs, dif_neg (by omega)]
/-- digits, each 0 or 1 -/
def Dig (d : List Int) : Prop := ∀ x ∈ d, x = 0 ∨ x = 1
theorem dig_digs (n : Nat) : Dig (digs n) := by
  induction n using Nat.strongRecOn with
  | ind n ih =>
    rcases Nat.eq_zero_or_pos n with rfl | h
    · rw [digs_zero]; intro x hx; simp at hx
    · rw [digs_pos h]
      intro x hx
      rcases List.mem_cons.1 hx with rfl | hx
      · omega
      · exact ih _ (by omega) x hx
theorem length_digs_le (n : Nat) : ∀ k, n + 1 < 2 ^ (k + 1) → (digs n).length ≤ k := by
  induction n using Nat.strongRecOn with
  | ind n ih =>
    intro k hk
    rcases Nat.eq_zero_or_pos n with rfl | h
    · rw [digs_zero]; simp
    · rw [digs_pos h]
      cases k with
      | zero => omega
      | succ k =>
        have := ih ((n - 1) / 2) (by omega) k (by rw [Nat.pow_succ] at hk; omega)
        simp only [List.length_cons]; omega
theorem length_digs_64 (n : Nat) (h : n < 9223372036854775808) : (digs n).length ≤ 63 := length_digs_le n 63 (by omega)
/-- the number of digits -/
def numD (d : List Int) : Nat := d.foldr (fun x n => 2 * n + x.toNat + 1) 0
theorem numD_nil : numD [] = 0 := rfl
theorem numD_cons (x : Int) (d : List Int) : numD (x :: d) = 2 * numD d + x.toNat + 1 := rfl
theorem numD_digs (n : Nat) : numD (digs n) = n := by
  induction n using Nat.strongRecOn with
  | ind n ih =>
    rcases Nat.eq_zero_or_pos n with rfl | h
    · rw [digs_zero]; rfl
    · rw [digs_pos h, numD_cons, ih _ (by omega)]; omega
theorem digs_numD (d : List Int) (h : Dig d) : digs (numD d) = d := by
  induction d with
  | nil => rw [numD_nil, digs_zero]
  | cons x d ih =>
    have hx := h x (List.mem_cons_self)
    have ih := ih fun y hy => h y (List.mem_cons_of_mem _ hy)
    rw [numD_cons, digs_pos (by omega)]
    rcases hx with rfl | rfl
    · rw [show 2 * numD d + (0 : Int).toNat + 1 - 1 = 2 * numD d by simp, show 2 * numD d / 2 = numD d by omega, ih, show 2 * numD d % 2 = 0 by omega]; rfl
    · rw [show 2 * numD d + (1 : Int).toNat + 1 - 1 = 2 * numD d + 1 by simp, show (2 * numD d + 1) / 2 = numD d by omega, ih, show (2 * numD d + 1) % 2 = 1 by omega]; rfl
theorem numD_lt (d : List Int) (h : Dig d) : numD d + 2 ≤ 2 ^ (d.length + 1) := by
  induction d with
  | nil => decide
  | cons x d ih =>
    have hx := h x (List.mem_cons_self)
    have ih := ih fun y hy => h y (List.mem_cons_of_mem _ hy)
    rw [numD_cons, List.length_cons, Nat.pow_succ]
    rcases hx with rfl | rfl <;> simp <;> omega
theorem numD_ge (d : List Int) : 2 ^ d.length ≤ numD d + 1 := by
  induction d with
  | nil => decide
  | cons x d ih => rw [numD_cons, List.length_cons, Nat.pow_succ]; omega
theorem length_le_numD (d : List Int) : d.length ≤ numD d := by
  induction d with
  | nil => exact Nat.le_refl _
  | cons x d ih => rw [numD_cons, List.length_cons]; omega
theorem numD_append (a b : List Int) : numD b ≤ numD (a ++ b) := by
  induction a with
  | nil => exact Nat.le_refl _
  | cons x a ih => rw [List.cons_append, numD_cons]; omega

/-- what is told of numbers, n noughts being behind -/
def encA : Nat → List Int → List Int
  | n, [] => digs n
  | n, x :: t => if x ≤ 0 then encA (n + 1) t else digs n ++ (x + 1) :: encA 0 t
def enc (l : List Int) : List Int := encA 0 l
def rowLen (top : Int) (l : List Int) : Nat := (l.takeWhile fun x => decide (x ≤ top)).length
theorem rowLen_nil (top : Int) : rowLen top [] = 0 := rfl
theorem rowLen_cons_le {top x : Int} {l : List Int} (h : x ≤ top) : rowLen top (x :: l) = rowLen top l + 1 := by simp [rowLen, h]
theorem rowLen_cons_gt {top x : Int} {l : List Int} (h : ¬ x ≤ top) : rowLen top (x :: l) = 0 := by simp [rowLen, h]
theorem rowLen_le (top : Int) (l : List Int) : rowLen top l ≤ l.length := by
  induction l with
  | nil => exact Nat.le_refl _
  | cons x l ih =>
    by_cases h : x ≤ top
    · rw [rowLen_cons_le h, List.length_cons]; omega
    · rw [rowLen_cons_gt h]; omega
/-- the row's numbers, and the one behind it -/
theorem rowLen_mem {top : Int} {l : List Int} {i : Nat} {x : Int} (h : i < rowLen top l) (hx : l[i]? = some x) : x ≤ top := by
  induction l generalizing i with
  | nil => simp at hx
  | cons y l ih =>
    by_cases hy : y ≤ top
    · rw [rowLen_cons_le hy] at h
      cases i with
      | zero => simp at hx; omega
      | succ i => exact ih (i := i) (by omega) (by simpa using hx)
    · rw [rowLen_cons_gt hy] at h; omega
theorem rowLen_at {top : Int} {l : List Int} {x : Int} (hx : l[rowLen top l]? = some x) : top < x := by
  induction l with
  | nil => simp at hx
  | cons y l ih =>
    by_cases hy : y ≤ top
    · rw [rowLen_cons_le hy] at hx; exact ih (by simpa using hx)
    · rw [rowLen_cons_gt hy] at hx; simp at hx; omega
theorem rowLen_eq {top : Int} {l : List Int} {k : Nat} (hk : k ≤ l.length) (h1 : ∀ i x, i < k → l[i]? = some x → x ≤ top) (h2 : ∀ x, l[k]? = some x → top < x) : rowLen top l = k := by
  rcases Nat.lt_trichotomy (rowLen top l) k with h | h | h
  · have hx : l[rowLen top l]? = some l[rowLen top l] := List.getElem?_eq_getElem (by omega)
    have := rowLen_at hx
    have := h1 _ _ h hx
    omega
  · exact h
  · have hl := rowLen_le top l
    have hx : l[k]? = some l[k] := List.getElem?_eq_getElem (by omega)
    have := rowLen_mem h hx
    have := h2 _ hx
    omega
/-- a row of noughts is told, and what stands behind it -/
def encRest : List Int → List Int
  | [] => []
  | x :: t => (x + 1) :: enc t
theorem encA_row (l : List Int) : ∀ n, encA n l = digs (n + rowLen 0 l) ++ encRest (l.drop (rowLen 0 l)) := by
  induction l with
  | nil => intro n; simp [encA, rowLen_nil, encRest]
  | cons x l ih =>
    intro n
    by_cases h : x ≤ 0
    · rw [rowLen_cons_le h, encA, if_pos h, ih]
      rw [show n + 1 + rowLen 0 l = n + (rowLen 0 l + 1) by omega, List.drop_succ_cons]
    · rw [rowLen_cons_gt h, encA, if_neg h]; rfl
theorem enc_row (l : List Int) : enc l = digs (rowLen 0 l) ++ encRest (l.drop (rowLen 0 l)) := by
  have := encA_row l 0
  rw [Nat.zero_add] at this
  exact this
theorem encA_len (l : List Int) : ∀ n, (encA n l).length ≤ n + l.length := by
  induction l with
  | nil => intro n; have := length_le_numD (digs n); rw [numD_digs] at this; simpa [encA] using this
  | cons x l ih =>
    intro n
    rw [encA]
    split
    · have := ih (n + 1); simp only [List.length_cons]; omega
    · have := ih 0
      have h2 := length_le_numD (digs n)
      rw [numD_digs] at h2
      simp only [List.length_append, List.length_cons]; omega
theorem enc_len (l : List Int) : (enc l).length ≤ l.length := by have := encA_len l 0; unfold enc; omega
/-- what is told of a row that ends with no nought, and more -/
theorem encA_append (a b : List Int) (x : Int) (hx : ¬ x ≤ 0) : ∀ n, encA n (a ++ [x] ++ b) = encA n (a ++ [x]) ++ enc b := by
  induction a with
  | nil => intro n; simp [encA, hx, enc, digs_zero]
  | cons y a ih =>
    intro n
    simp only [List.cons_append, encA]
    split
    · exact ih _
    · rw [ih]; simp
theorem enc_append (a b : List Int) (x : Int) (hx : ¬ x ≤ 0) : enc (a ++ [x] ++ b) = enc (a ++ [x]) ++ enc b := encA_append a b x hx 0

/-- noughts -/
def zeros (n : Nat) : List Int := List.replicate n 0
/-- what is told of digits and numbers, the digits d being ahead -/
def decA : List Int → List Int → List Int
  | d, [] => zeros (numD d)
  | d, x :: t => if x ≤ 1 then decA (d ++ [x]) t else zeros (numD d) ++ (x - 1) :: decA [] t
def dec (m : List Int) : List Int := decA [] m
def decRest : List Int → List Int
  | [] => []
  | x :: t => (x - 1) :: dec t
theorem decA_row (l : List Int) : ∀ d, decA d l = zeros (numD (d ++ l.take (rowLen 1 l))) ++ decRest (l.drop (rowLen 1 l)) := by
  induction l with
  | nil => intro d; simp [decA, rowLen_nil, decRest]
  | cons x l ih =>
    intro d
    by_cases h : x ≤ 1
    · rw [rowLen_cons_le h, decA, if_pos h, ih]
      simp
    · rw [rowLen_cons_gt h, decA, if_neg h]; simp [decRest, dec]
theorem dec_row (l : List Int) : dec l = zeros (numD (l.take (rowLen 1 l))) ++ decRest (l.drop (rowLen 1 l)) := by
  have := decA_row l []
  rw [List.nil_append] at this
  exact this
theorem length_zeros (n : Nat) : (zeros n).length = n := by simp [zeros]
theorem zeros_add (a b : Nat) : zeros (a + b) = zeros a ++ zeros b := by unfold zeros; exact (List.replicate_append_replicate).symm
end Go.Proofs.Ytflhhlemoaifnaa
