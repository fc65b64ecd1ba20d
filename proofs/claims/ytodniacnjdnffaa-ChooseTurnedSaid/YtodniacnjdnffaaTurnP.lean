/- ChooseTurned's plain law: the groups changed about by twos. -/
import Derived.Test.YtodniacnjdnffaaTabPlain
namespace Go.Proofs.Ytodniacnjdnffaa
set_option linter.unusedVariables false

/-- the groups of m, each two of them changed about -/
def turnTo (m : List Nat) (h : Nat) : List Nat := (List.range h).flatMap fun j => grN m (2 * j + 1) ++ grN m (2 * j)
theorem turnTo_succ (m : List Nat) (h : Nat) : turnTo m (h + 1) = turnTo m h ++ (grN m (2 * h + 1) ++ grN m (2 * h)) := by
  unfold turnTo
  rw [List.range_succ, List.flatMap_append]
  simp
theorem length_grN_full (m : List Nat) (i : Nat) (h : 10 * i + 10 ≤ m.length) : (grN m i).length = 10 := by
  unfold grN
  rw [List.length_drop, List.length_take]
  omega
theorem length_turnTo (m : List Nat) (h : Nat) (hm : 20 * h ≤ m.length) : (turnTo m h).length = 20 * h := by
  induction h with
  | zero => rfl
  | succ h ih =>
    rw [turnTo_succ, List.length_append, List.length_append, ih (by omega), length_grN_full m _ (by omega), length_grN_full m _ (by omega)]
    omega
theorem turnTo_mem {m : List Nat} {h s : Nat} (hs : s ∈ turnTo m h) : s ∈ m := by
  unfold turnTo at hs
  obtain ⟨j, _, hj⟩ := List.mem_flatMap.1 hs
  rcases List.mem_append.1 hj with h | h
  · exact grN_mem h
  · exact grN_mem h
theorem grN_append_left (l k : List Nat) (i : Nat) (h : 10 * i + 10 ≤ l.length) : grN (l ++ k) i = grN l i := by
  unfold grN
  rw [List.take_append_of_le_length h]
theorem grN_append_right (l k : List Nat) (i j : Nat) (h : l.length = 10 * i) : grN (l ++ k) (i + j) = grN k j := by
  unfold grN
  rw [List.take_append, List.drop_append]
  rw [List.take_of_length_le (by omega), List.drop_of_length_le (by omega), List.nil_append, List.drop_take, List.drop_take]
  rw [show 10 * (i + j) - l.length = 10 * j by omega]
  congr 1
  omega
theorem grN_turn (m : List Nat) (h : Nat) (hm : 20 * h ≤ m.length) : ∀ j, j < h → grN (turnTo m h) (2 * j) = grN m (2 * j + 1) ∧ grN (turnTo m h) (2 * j + 1) = grN m (2 * j) := by
  induction h with
  | zero => intro j hj; omega
  | succ h ih =>
    intro j hj
    have hl := length_turnTo m h (by omega)
    have l1 := length_grN_full m (2 * h + 1) (by omega)
    have l2 := length_grN_full m (2 * h) (by omega)
    rw [turnTo_succ]
    by_cases hjh : j < h
    · rw [grN_append_left _ _ _ (by omega), grN_append_left _ _ _ (by omega)]
      exact ih (by omega) j hjh
    · obtain rfl : j = h := by omega
      have e1 := grN_append_right (turnTo m j) (grN m (2 * j + 1) ++ grN m (2 * j)) (2 * j) 0 (by omega)
      have e2 := grN_append_right (turnTo m j) (grN m (2 * j + 1) ++ grN m (2 * j)) (2 * j) 1 (by omega)
      simp only [Nat.add_zero] at e1
      rw [e1, e2]
      refine ⟨?_, ?_⟩
      · rw [grN_append_left _ _ _ (by omega)]
        unfold grN at l1 ⊢
        rw [List.take_of_length_le (by omega)]
        rfl
      · have e3 := grN_append_right (grN m (2 * j + 1)) (grN m (2 * j)) 1 0 (by omega)
        rw [e3]
        unfold grN at l2 ⊢
        rw [List.take_of_length_le (by omega)]
        rfl
theorem parTo_pair (m : List Nat) (b h : Nat) (hb : b = 0 ∨ b = 1) : parTo m b (2 * (h + 1)) = parTo m b (2 * h) ++ grN m (2 * h + b) := by
  rw [show 2 * (h + 1) = 2 * h + 1 + 1 by omega, parTo_succ, parTo_succ]
  rcases hb with rfl | rfl
  · rw [if_pos (by omega), if_neg (by omega), List.append_nil]; rfl
  · rw [if_neg (by omega), if_pos (by omega), List.append_nil]
theorem parTo_turn (m : List Nat) (H : Nat) (hm : 20 * H ≤ m.length) : ∀ h, h ≤ H → parTo (turnTo m H) 0 (2 * h) = parTo m 1 (2 * h) ∧ parTo (turnTo m H) 1 (2 * h) = parTo m 0 (2 * h) := by
  intro h
  induction h with
  | zero => intro _; exact ⟨rfl, rfl⟩
  | succ h ih =>
    intro hh
    obtain ⟨i1, i2⟩ := ih (by omega)
    obtain ⟨g1, g2⟩ := grN_turn m H hm h (by omega)
    rw [parTo_pair _ 0 h (.inl rfl), parTo_pair _ 1 h (.inr rfl), parTo_pair _ 0 h (.inl rfl), parTo_pair _ 1 h (.inr rfl), i1, i2, Nat.add_zero, g1, g2]
    exact ⟨rfl, rfl⟩
theorem tabF_turn (m : List Nat) (n H : Nat) (hm : m.length = 20 * H) : tabF (turnTo m H) n 0 = tabF m n 1 ∧ tabF (turnTo m H) n 1 = tabF m n 0 := by
  have hc : cntG (20 * H) = 2 * H := by unfold cntG; omega
  obtain ⟨h1, h2⟩ := parTo_turn m H (by omega) H (Nat.le_refl _)
  unfold tabF
  rw [length_turnTo m H (by omega), hm, hc, h1, h2]
  exact ⟨rfl, rfl⟩
/-- the symbols of even groups that stand ahead of place p -/
def evF (m : List Nat) (p : Nat) : List Nat := parAt m 0 (p / 10) (p % 10)
theorem grN_get (m : List Nat) (i t s : Nat) (ht : t < 10) (hs : m[10 * i + t]? = some s) : (grN m i)[t]? = some s := by
  unfold grN
  rw [List.getElem?_drop, List.getElem?_take_of_lt (by omega), hs]
theorem parAt_ten (m : List Nat) (i : Nat) : parAt m 0 i 10 = parTo m 0 (i + 1) := by
  rw [parTo_succ, parAt, List.take_of_length_le (length_grN m i)]
theorem evF_next (m : List Nat) (p : Nat) : evF m (p + 1) = parAt m 0 (p / 10) (p % 10 + 1) := by
  unfold evF
  by_cases h : p % 10 = 9
  · rw [show (p + 1) / 10 = p / 10 + 1 by omega, show (p + 1) % 10 = 0 by omega, h, parAt_zero, parAt_ten]
  · rw [show (p + 1) / 10 = p / 10 by omega, show (p + 1) % 10 = p % 10 + 1 by omega]
theorem evF_yes (m : List Nat) (p s : Nat) (h : p / 10 % 2 = 0) (hs : m[p]? = some s) : evF m (p + 1) = evF m p ++ [s] := by
  rw [evF_next]
  exact parAt_yes m 0 (p / 10) (p % 10) s h (grN_get m _ _ s (by omega) (by rw [← hs]; congr 1; omega))
theorem evF_no (m : List Nat) (p : Nat) (h : p / 10 % 2 ≠ 0) : evF m (p + 1) = evF m p := by
  rw [evF_next, parAt_no m 0 _ _ h, evF, parAt_no m 0 _ _ h]
theorem evF_all (m : List Nat) (H : Nat) (hm : m.length = 20 * H) : evF m m.length = parTo m 0 (2 * H) := by
  rw [evF, hm, show 20 * H / 10 = 2 * H by omega, show 20 * H % 10 = 0 by omega, parAt_zero]
theorem length_evF (m : List Nat) (p : Nat) : (evF m p).length ≤ p + 10 := by
  unfold evF
  have := length_parAt m 0 (p / 10) (p % 10)
  omega
end Go.Proofs.Ytodniacnjdnffaa
