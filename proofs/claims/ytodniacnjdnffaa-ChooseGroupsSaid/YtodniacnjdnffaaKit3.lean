/- A row of ints of one's own: read and written in place. -/
import Derived.Test.YtodniacnjdnffaaKit2
namespace Go.Proofs.Ytodniacnjdnffaa
open Go.RowKit
set_option linter.unusedVariables false

theorem OwnInts.place {w : World} {base : Nat} {v : Value} {xs : List Int} (h : OwnInts w base v xs) (hn : 0 < xs.length) :
    ∃ g cap, v = .slice (some ⟨g, 0, none⟩) xs.length cap ∧ base ≤ g ∧ g < w.heap.size ∧ (∀ j, j < xs.length → w.cell? ⟨g, j, none⟩ = some (.int .i64 (xs[j]?.getD 0))) ∧ (∀ j, w.frozen? ⟨g, j, none⟩ = false) ∧
      (∀ (j : Nat) (x : Int), OwnInts (w.setCell ⟨g, j, none⟩ (.int .i64 x)) base (.slice (some ⟨g, 0, none⟩) xs.length cap) (xs.set j x) ∧ w.grownBy (w.setCell ⟨g, j, none⟩ (.int .i64 x)) (some g)) := by
  rcases h.2 with ⟨rfl, h0⟩ | ⟨g, cap, cur, rfl, hb, hg, _⟩
  · have := h.1
    rw [h0] at this
    simp at this
    omega
  · refine ⟨g, cap, rfl, hb, lt_of_heap hg, fun j hj => ?_, fun j => World.ownsRow.frozenAt h j, fun j x => ?_⟩
    · have h1 := World.ownsRow.cellAt h j (by omega)
      rw [h1, getElem?_intCells, List.getElem?_eq_getElem hj]
      rfl
    · have h1 := World.ownsRow.stored h j (.int .i64 x)
      refine ⟨?_, h1.2⟩
      unfold OwnInts
      have h2 : intCells (xs.set j x) = (intCells xs).set j (.int .i64 x) := by simp [intCells, List.map_set]
      rw [h2, List.length_set]
      exact h1.1
theorem OwnInts.set_below {w0 w : World} {base : Nat} {g : Nat} (hB : Below base w0 w) (hg : base ≤ g) (j : Nat) (x : Value) : Below base w0 (w.setCell ⟨g, j, none⟩ x) := hB.setCell (p := ⟨g, j, none⟩) hg x
end Go.Proofs.Ytodniacnjdnffaa
