/- What is told is undone, plainly. -/
import Derived.Test.YtflhhlemoaifnaaZeroPlain
namespace Go.Proofs.Ytflhhlemoaifnaa
set_option linter.unusedVariables false

theorem decA_digits (d : List Int) (hd : Dig d) : ∀ ds r, decA ds (d ++ r) = decA (ds ++ d) r := by
  induction d with
  | nil => intro ds r; simp
  | cons x d ih =>
    intro ds r
    have hx := hd x List.mem_cons_self
    rw [List.cons_append, decA, if_pos (by omega), ih (fun y hy => hd y (List.mem_cons_of_mem _ hy))]
    simp
theorem dec_encA (l : List Int) (hl : ∀ x ∈ l, 0 ≤ x) : ∀ n, dec (encA n l) = zeros n ++ l := by
  induction l with
  | nil =>
    intro n
    have := decA_digits (digs n) (dig_digs n) [] []
    rw [List.append_nil, List.nil_append] at this
    rw [encA, dec, this, decA, numD_digs]; simp
  | cons x l ih =>
    intro n
    have ih := ih fun y hy => hl y (List.mem_cons_of_mem _ hy)
    have hx := hl x List.mem_cons_self
    rw [encA]
    split
    · rename_i h
      obtain rfl : x = 0 := by omega
      rw [ih, zeros_add]
      simp [zeros]
    · rename_i h
      rw [dec, decA_digits _ (dig_digs n), List.nil_append, decA, if_neg (by omega), numD_digs, show x + 1 - 1 = x by omega]
      show zeros n ++ x :: dec (encA 0 l) = _
      rw [ih]; simp [zeros]
theorem dec_enc (l : List Int) (hl : ∀ x ∈ l, 0 ≤ x) : dec (enc l) = l := by
  have := dec_encA l hl 0
  simpa [enc, zeros] using this
theorem encA_zeros (k : Nat) (l : List Int) : ∀ n, encA n (zeros k ++ l) = encA (n + k) l := by
  induction k with
  | zero => intro n; simp [zeros]
  | succ k ih =>
    intro n
    rw [show zeros (k + 1) ++ l = 0 :: (zeros k ++ l) by simp [zeros, List.replicate_succ], encA, if_pos (by omega), ih]
    congr 1; omega
theorem enc_decA (m : List Int) (hm : ∀ x ∈ m, 0 ≤ x) : ∀ ds, Dig ds → enc (decA ds m) = ds ++ m := by
  induction m with
  | nil =>
    intro ds hd
    have := encA_zeros (numD ds) [] 0
    rw [List.append_nil, Nat.zero_add] at this
    rw [decA, enc, this, encA, digs_numD ds hd, List.append_nil]
  | cons x m ih =>
    intro ds hd
    have ih := ih fun y hy => hm y (List.mem_cons_of_mem _ hy)
    have hx := hm x List.mem_cons_self
    rw [decA]
    split
    · rename_i h
      rw [ih]
      · simp
      · intro y hy
        rcases List.mem_append.1 hy with h1 | h1
        · exact hd y h1
        · simp at h1; omega
    · rename_i h
      rw [enc, encA_zeros, encA, if_neg (by omega), Nat.zero_add, digs_numD ds hd, show x - 1 + 1 = x by omega]
      show ds ++ x :: enc (decA [] m) = _
      rw [ih [] (fun y hy => by simp at hy)]; simp
theorem enc_dec (m : List Int) (hm : ∀ x ∈ m, 0 ≤ x) : enc (dec m) = m := by
  have := enc_decA m hm [] (fun y hy => by simp at hy)
  simpa [dec] using this
theorem mem_decA (m : List Int) (P : Int → Prop) (h0 : P 0) (hm : ∀ x ∈ m, 1 < x → P (x - 1)) : ∀ ds, ∀ y ∈ decA ds m, P y := by
  induction m with
  | nil => intro ds y hy; simp [decA, zeros] at hy; rw [hy.2]; exact h0
  | cons x m ih =>
    intro ds y hy
    have ih := ih fun z hz => hm z (List.mem_cons_of_mem _ hz)
    rw [decA] at hy
    split at hy
    · exact ih _ y hy
    · rename_i h
      rcases List.mem_append.1 hy with h1 | h1
      · simp [zeros] at h1; rw [h1.2]; exact h0
      · rcases List.mem_cons.1 h1 with rfl | h1
        · exact hm x List.mem_cons_self (by omega)
        · exact ih _ y h1
theorem mem_encA (l : List Int) (P : Int → Prop) (h0 : P 0) (h1 : P 1) (hl : ∀ x ∈ l, 0 < x → P (x + 1)) : ∀ n, ∀ y ∈ encA n l, P y := by
  have hdig : ∀ n, ∀ y ∈ digs n, P y := fun n y hy => by
    rcases dig_digs n y hy with rfl | rfl
    · exact h0
    · exact h1
  induction l with
  | nil => intro n y hy; exact hdig n y hy
  | cons x l ih =>
    intro n y hy
    have ih := ih fun z hz => hl z (List.mem_cons_of_mem _ hz)
    rw [encA] at hy
    split at hy
    · exact ih _ y hy
    · rename_i h
      rcases List.mem_append.1 hy with h2 | h2
      · exact hdig n y h2
      · rcases List.mem_cons.1 h2 with rfl | h2
        · exact hl x List.mem_cons_self (by omega)
        · exact ih _ y h2
end Go.Proofs.Ytflhhlemoaifnaa
