/- Both answers of layer 8, for any lengths. -/
import Derived.Test.YtkicaimondpceaaRefTake08
import Derived.Test.YtkicaimondpceaaRefPut08
import Derived.Test.YtkicaimondpceaaCodeHelp
namespace Go.Proofs.Ytkicaimondpceaa
open Go.RowKit
set_option linter.unusedVariables false

/-- a row of words, each a length and bits -/
def WRow (W : World) (v : Value) (n : Nat) (La Lb : Nat → Int) : Prop := ∃ A c, v = .slice A n c ∧ ∀ j, j < n → ∃ g, A = some ⟨g, 0, none⟩ ∧ g < W.heap.size ∧ W.cell? ⟨g, j * 2, none⟩ = some (.int .i64 (La j)) ∧ W.cell? ⟨g, j * 2 + 1, none⟩ = some (.int .u64 (Lb j))
theorem WRow.up {W W' : World} {v : Value} {n : Nat} {La Lb : Nat → Int} (h : WRow W v n La Lb) (hB : Below W.heap.size W W') : WRow W' v n La Lb := by
  obtain ⟨A, c, rfl, h⟩ := h
  refine ⟨A, c, rfl, fun j hj => ?_⟩
  obtain ⟨g, h1, h2, h3, h4⟩ := h j hj
  exact ⟨g, h1, Nat.lt_of_lt_of_le h2 hB.size, (hB.cell (p := ⟨g, j * 2, none⟩) h2).trans h3, (hB.cell (p := ⟨g, j * 2 + 1, none⟩) h2).trans h4⟩
theorem WRow.nil (W : World) (La Lb : Nat → Int) : WRow W (.slice none 0 0) 0 La Lb := ⟨none, 0, rfl, fun j hj => by omega⟩
theorem WRow.words {W : World} {v : Value} {l : List Nat} (h : IsWords W v l) : WRow W v l.length (fun j => ((l[j]?.getD 0 : Nat) : Int)) (fun j => (wordV l j : Int)) := by
  obtain ⟨g, c, rfl, hg⟩ := h
  refine ⟨_, c, rfl, fun j hj => ⟨g, rfl, lt_of_heap hg, ?_, ?_⟩⟩
  · rw [cell_of_heap hg, outC_get _ _ _ (by omega)]
    unfold wcell
    rw [if_pos (by omega), show j * 2 / 2 = j by omega]
    rfl
  · rw [cell_of_heap hg, outC_get _ _ _ (by omega)]
    unfold wcell
    rw [if_neg (by omega), show (j * 2 + 1) / 2 = j by omega]
    rfl
theorem words8 (X : List Int) (hX : X.length ≤ 1000000) : ∃ (n : Nat) (La Lb : Nat → Int) (e : Int), n ≤ 258 ∧
    (∀ (W : World) (v : Value), IsInts W W.heap.size v X → Calls Try.prog 13 #[v] W fun en w' => ∃ u, en = .returned (.tuple #[u, .int .i64 e]) ∧ WRow w' u n La Lb ∧ Below W.heap.size W w') ∧
    (∀ (W : World) (v : Value), IsInts W W.heap.size v X → Calls Try.prog 14 #[v] W fun en w' => ∃ u, en = .returned (.tuple #[u, .int .i64 e]) ∧ WRow w' u n La Lb ∧ Below W.heap.size W w') ∧
    (∀ (W : World) (v : Value), IsInts W W.heap.size v X → Calls Try.prog 15 #[v] W fun en w' => en = .returned (.int .i64 e) ∧ Below W.heap.size W w') ∧
    (∀ (W : World) (v : Value), IsInts W W.heap.size v X → Calls Try.prog 16 #[v] W fun en w' => en = .returned (.int .i64 e) ∧ W = w') := by
  have hc1 := fun (W : World) (v : Value) (h : IsInts W W.heap.size v X) => check_any W v X h hX
  have hc2 := fun (W : World) (v : Value) (h : IsInts W W.heap.size v X) => rcheck_any W v X h hX
  by_cases hc : checkF X = 0
  · obtain ⟨hl, he⟩ := code_of_ok hc
    rw [hc] at hc1 hc2
    have hw : ∀ (W : World) (v : Value), IsInts W W.heap.size v X → IsInts W W.heap.size v (ints (X.map Int.toNat)) := fun W v h => by rw [he]; exact h
    refine ⟨_, fun j => (((X.map Int.toNat)[j]?.getD 0 : Nat) : Int), fun j => (wordV (X.map Int.toNat) j : Int), 0, hl.most, fun W v h => (words_ok W v _ (hw W v h) hl).mono ?_, fun W v h => (rwords_ok W v _ (hw W v h) hl).mono ?_, hc1, hc2⟩
    · rintro e w' ⟨u, rfl, h1, h2⟩
      exact ⟨u, rfl, WRow.words h1, h2⟩
    · rintro e w' ⟨u, rfl, h1, h2⟩
      exact ⟨u, rfl, WRow.words h1, h2⟩
  · refine ⟨0, fun _ => 0, fun _ => 0, checkF X, by omega, fun W v h => (words_er W v X h hX hc).mono ?_, fun W v h => (rwords_er W v X h hX hc).mono ?_, hc1, hc2⟩
    · rintro e w' ⟨rfl, h2⟩
      exact ⟨_, rfl, WRow.nil _ _ _, h2⟩
    · rintro e w' ⟨rfl, rfl⟩
      exact ⟨_, rfl, WRow.nil _ _ _, Below.refl _ _⟩
theorem puts8 (X m : List Int) (hX : X.length ≤ 1000000) (hm : m.length ≤ 1000) (hr : I64s m) : ∃ (d : ByteArray) (nn e : Int),
    (∀ (W : World) (v u : Value), IsInts W W.heap.size v X → IsInts W W.heap.size u m → Calls Try.prog 18 #[v, u] W fun en w' => en = .returned (.tuple #[.agg #[.string d, .int .i64 nn], .int .i64 e]) ∧ Below W.heap.size W w') ∧
    (∀ (W : World) (v u : Value), IsInts W W.heap.size v X → IsInts W W.heap.size u m → Calls Try.prog 19 #[v, u] W fun en w' => en = .returned (.tuple #[.agg #[.string d, .int .i64 nn], .int .i64 e]) ∧ Below W.heap.size W w') := by
  by_cases hc : checkF X = 0
  · obtain ⟨hl, he⟩ := code_of_ok hc
    have hw : ∀ (W : World) (v : Value), IsInts W W.heap.size v X → IsInts W W.heap.size v (ints (X.map Int.toNat)) := fun W v h => by rw [he]; exact h
    exact ⟨_, _, _, fun W v u h h2 => cput_any W v u _ m (hw W v h) hl h2 (by omega) hr, fun W v u h h2 => rput8_any W v u _ m (hw W v h) hl h2 hm⟩
  · exact ⟨_, _, _, fun W v u h h2 => cput_er W v u X h hX hc, fun W v u h h2 => rput8_er W v u X h hX hc⟩
theorem takes8 (X : List Int) (t : ByteArray) (i : Int) (hX : X.length ≤ 1000000) (ht : t.size ≤ 281474976710656) : ∃ (x n e : Int),
    (∀ (W : World) (v : Value), IsInts W W.heap.size v X → Calls Try.prog 20 #[v, .string t, .int .i64 i] W fun en w' => en = .returned (.tuple #[.int .i64 x, .int .i64 n, .int .i64 e]) ∧ Below W.heap.size W w') ∧
    (∀ (W : World) (v : Value), IsInts W W.heap.size v X → Calls Try.prog 21 #[v, .string t, .int .i64 i] W fun en w' => en = .returned (.tuple #[.int .i64 x, .int .i64 n, .int .i64 e]) ∧ Below W.heap.size W w') := by
  by_cases hc : checkF X = 0
  · obtain ⟨hl, he⟩ := code_of_ok hc
    have hw : ∀ (W : World) (v : Value), IsInts W W.heap.size v X → IsInts W W.heap.size v (ints (X.map Int.toNat)) := fun W v h => by rw [he]; exact h
    exact ⟨_, _, _, fun W v h => take_any W v _ t i (hw W v h) hl ht, fun W v h => rtake8_any W v _ t i (hw W v h) hl ht⟩
  · refine ⟨_, _, _, fun W v h => take_er W v X t i h hX hc, fun W v h => (rtake8_er W v X t i h hX hc).mono ?_⟩
    rintro e w' ⟨rfl, rfl⟩
    exact ⟨rfl, Below.refl _ _⟩
end Go.Proofs.Ytkicaimondpceaa
