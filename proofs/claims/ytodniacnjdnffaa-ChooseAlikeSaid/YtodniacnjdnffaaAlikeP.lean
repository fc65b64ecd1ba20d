/- ChooseAlike's plain law: one group, and two groups alike. -/
import Derived.Test.YtodniacnjdnffaaTabPlain
namespace Go.Proofs.Ytodniacnjdnffaa
set_option linter.unusedVariables false

theorem parTo_one (m : List Nat) : parTo m 1 1 = [] := by simp [parTo, List.range_succ]
theorem oftF_nil (n : Nat) : oftF n [] = List.replicate n 0 := rfl
theorem cntG_one {n : Nat} (h0 : 0 < n) (h : n ≤ 10) : cntG n = 1 := by unfold cntG; omega
theorem tabF_one (m : List Nat) (n : Nat) (h0 : 0 < m.length) (h : m.length ≤ 10) : tabF m n 1 = lenF (List.replicate n 0) 20 := by
  rw [tabF, cntG_one h0 h, parTo_one, oftF_nil]
theorem grN_two0 (m : List Nat) (h : m.length = 10) : grN (m ++ m) 0 = m := by
  unfold grN
  rw [show 10 * 0 + 10 = m.length by omega, List.take_left]
  rfl
theorem grN_two1 (m : List Nat) (h : m.length = 10) : grN (m ++ m) 1 = m := by
  unfold grN
  rw [List.take_of_length_le (by rw [List.length_append]; omega), show 10 * 1 = m.length by omega, List.drop_left]
theorem parTo_two (m : List Nat) (h : m.length = 10) (b : Nat) (hb : b = 0 ∨ b = 1) : parTo (m ++ m) b 2 = m := by
  rw [parTo_succ, parTo_succ, grN_two0 m h, grN_two1 m h]
  rcases hb with rfl | rfl <;> simp [parTo]
theorem cntG_two (m : List Nat) (h : m.length = 10) : cntG (m ++ m).length = 2 := by rw [List.length_append, h]; decide
theorem tabF_two (m : List Nat) (n : Nat) (h : m.length = 10) : tabF (m ++ m) n 1 = tabF (m ++ m) n 0 := by
  rw [tabF, tabF, cntG_two m h, parTo_two m h 0 (.inl rfl), parTo_two m h 1 (.inr rfl)]
theorem chosen_two (m : List Nat) (n : Nat) (h : m.length = 10) : chosenF (m ++ m) n = [0, 0] := by
  have hc : ∀ i, choF (m ++ m) n i = 0 := fun i => by
    unfold choF
    rw [tabF_two m n h, if_neg (Nat.lt_irrefl _)]
  rw [chosenF, cntG_two m h, List.range_succ, List.range_succ]
  simp [hc]
end Go.Proofs.Ytodniacnjdnffaa
