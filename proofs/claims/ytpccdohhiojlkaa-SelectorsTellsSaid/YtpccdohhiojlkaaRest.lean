/- A text's bits from a place on. -/
import Derived.Test.YtpccdohhiojlkaaBitsFacts
namespace Go.Proofs.Ytpccdohhiojlkaa
open Go.RowKit
set_option linter.unusedVariables false

def rest (s : List UInt8) (a : Nat) : List Bool := B.slice s a (8 * s.length - a)
theorem length_rest (s : List UInt8) (a : Nat) : (rest s a).length = 8 * s.length - a := B.length_slice _ _ _
theorem rest_nil (s : List UInt8) (a : Nat) (h : 8 * s.length ≤ a) : rest s a = [] := List.eq_nil_of_length_eq_zero (by rw [length_rest]; omega)
theorem rest_add (s : List UInt8) (a n : Nat) (h : a + n ≤ 8 * s.length) : rest s a = B.slice s a n ++ rest s (a + n) := by
  unfold rest
  rw [← B.slice_append, show n + (8 * s.length - (a + n)) = 8 * s.length - a by omega]
theorem rest_cons (s : List UInt8) (a : Nat) (h : a < 8 * s.length) : rest s a = B.bitAt s a :: rest s (a + 1) := by
  rw [rest_add s a 1 (by omega)]
  rfl
theorem num_one (s : List UInt8) (a : Nat) : B.num (B.slice s a 1) = if B.bitAt s a then 1 else 0 := by
  rw [show B.slice s a 1 = [B.bitAt s a] from rfl]
  cases B.bitAt s a <;> rfl
theorem extract_list (s : ByteArray) (k : Nat) : (s.extract 0 k).data.toList = s.data.toList.take k := by simp
/-- what stands in packed bits from a place on -/
theorem rest_pack (D : List Bool) (k : Nat) (h : k ≤ D.length) : rest (B.pack D) k = D.drop k ++ List.replicate (8 * (B.pack D).length - D.length) false := by
  have hl := len8_pack D
  have h1 := rest_add (B.pack D) k (D.length - k) (by omega)
  rw [h1, B.slice_pack_at _ _ _ (by omega)]
  congr 1
  · rw [List.take_of_length_le (by simp)]
  · rw [show k + (D.length - k) = D.length by omega]
    apply List.ext_getElem
    · rw [length_rest, List.length_replicate]
    · intro i h2 h3
      rw [length_rest] at h2
      have := (B.right_pack D).2 (D.length + i) (by omega) (by omega)
      have hg := B.getD_slice (B.pack D) D.length (8 * (B.pack D).length - D.length) i h2
      rw [this] at hg
      rw [List.getElem_replicate]
      have he : (rest (B.pack D) D.length).getD i false = (rest (B.pack D) D.length)[i] := by
        rw [List.getD_eq_getElem?_getD, List.getElem?_eq_getElem (by rw [length_rest]; exact h2)]
        rfl
      rw [← he]
      exact hg
theorem take_rest (s : List UInt8) (k : Nat) (h : k ≤ s.length) : ∃ q, rest s 0 = rest (s.take k) 0 ++ q ∧ q.length = 8 * (s.length - k) := by
  have h1 := rest_add s 0 (8 * k) (by omega)
  refine ⟨rest s (0 + 8 * k), ?_, by rw [length_rest]; omega⟩
  rw [h1]
  congr 1
  unfold rest
  rw [List.length_take, Nat.min_eq_left h, Nat.sub_zero]
  unfold B.slice
  apply List.map_congr_left
  intro i hi
  rw [List.mem_range] at hi
  unfold B.bitAt
  rw [List.getD_eq_getElem?_getD, List.getD_eq_getElem?_getD, List.getElem?_take, if_pos (by omega)]
/-- one bit: it, or too short -/
theorem get_bit (s : ByteArray) (a : Nat) (W : World) (hs : s.size ≤ 1099511627776) (h : a < 8 * s.size) :
    Calls Try.prog 30 #[.string s, .int .i64 (a : Nat), .int .i64 1] W fun e w' => e = .returned (.tuple #[.int .u64 (if B.bitAt s.data.toList a then 1 else 0 : Nat), .int .i64 0]) ∧ W = w' := by
  have hl : s.data.toList.length = s.size := by simp
  have := get_any s a (1 : Nat) W (by omega)
  rw [getE_ok _ a 1 (by omega) (by omega), getV_ok _ a 1 (by omega) (by omega), num_one] at this
  exact this
theorem get_short (s : ByteArray) (a n : Nat) (W : World) (hs : s.size ≤ 1099511627776) (hn : n ≤ 64) (h : 8 * s.size < a + n) :
    Calls Try.prog 30 #[.string s, .int .i64 (a : Nat), .int .i64 (n : Nat)] W fun e w' => e = .returned (.tuple #[.int .u64 0, .int .i64 2]) ∧ W = w' := by
  have hl : s.data.toList.length = s.size := by simp
  have := get_any s a n W (by omega)
  rw [show getE s.data.toList a n = 2 by unfold getE; rw [if_neg (by omega), if_pos (by rw [hl]; omega)], show getV s.data.toList a n = 0 by unfold getV; rw [if_neg (by omega), if_pos (by rw [hl]; omega)]] at this
  exact this
end Go.Proofs.Ytpccdohhiojlkaa
