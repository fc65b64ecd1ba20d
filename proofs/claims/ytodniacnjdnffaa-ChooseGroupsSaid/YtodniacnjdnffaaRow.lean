/- A whole array in a block of its own: stored whole. -/
import Derived.Test.YtodniacnjdnffaaKit
import Derived.Laws.Rows
import Derived.Deep.MidRow
namespace Go.Proofs.Ytodniacnjdnffaa
open Go.RowKit
set_option linter.unusedVariables false

theorem heap_setCells {g : Nat} {t : TypeId} : ∀ (vs : List Value) (w : World) (a b : List Value), w.heap[g]? = some (.cells (a ++ b).toArray t (0, 0)) → vs.length = b.length →
    (w.setCells g a.length vs).heap[g]? = some (.cells (a ++ vs).toArray t (0, 0)) ∧ (w.setCells g a.length vs).heap.size = w.heap.size ∧ (∀ k, k ≠ g → (w.setCells g a.length vs).heap[k]? = w.heap[k]?) ∧ (∀ (B : Nat) (w0 : World), B ≤ g → Below B w0 w → Below B w0 (w.setCells g a.length vs)) := by
  intro vs
  induction vs with
  | nil =>
    intro w a b h hl
    obtain rfl : b = [] := List.eq_nil_of_length_eq_zero (by simpa using hl.symm)
    exact ⟨h, rfl, fun _ _ => rfl, fun _ _ _ h => h⟩
  | cons v vs ih =>
    intro w a b h hl
    obtain ⟨x, b, rfl⟩ : ∃ x c, b = x :: c := by
      cases b with
      | nil => simp at hl
      | cons x c => exact ⟨x, c, rfl⟩
    have h1 := heap_set_ h a.length v
    have e1 : ((a ++ x :: b).toArray.setIfInBounds a.length v) = ((a ++ [v]) ++ b).toArray := by
      simp [List.set_append_right]
    rw [e1] at h1
    obtain ⟨i1, i2, i3, i4⟩ := ih (w.setCell ⟨g, a.length, none⟩ v) (a ++ [v]) b h1 (by simpa using hl)
    rw [List.length_append, List.length_singleton] at i1 i2 i3 i4
    rw [World.setCells]
    refine ⟨by simpa using i1, i2.trans (by simp [World.setCell]), fun k hk => (i3 k hk).trans (Below.heap_setCell _ _ _ _ hk), fun B w0 hB h0 => i4 B w0 hB (h0.setCell (p := ⟨g, a.length, none⟩) hB v)⟩
/-- a store of a whole array -/
theorem wpList_store_whole {ops : Array Oper} {rest : List Oper} {op : Oper} {a : Act} {w : World} {Q : Exit → Act → World → Prop} (hgd : op.guard = none) (ty : TypeId) (x y : Operand) (ho : op.op = .store ty x y)
    (g : Nat) (cs old : Array Value) (t : TypeId) (hx : a.eval x = .pointer (some ⟨g, 0, none⟩)) (hy : a.eval y = .agg cs)
    (hg : w.heap[g]? = some (.cells old t (0, 0))) (hs : old.size = cs.size) (hi : (Try.prog.info? ty).map (·.size) = some cs.size) (h1 : cs.all (·.oneCell') = true)
    (h : ∀ w', w'.heap[g]? = some (.cells cs t (0, 0)) → w'.heap.size = w.heap.size → (∀ k, k ≠ g → w'.heap[k]? = w.heap[k]?) → (∀ (B : Nat) (w0 : World), B ≤ g → Below B w0 w → Below B w0 w') → wpList Try.prog ops Q rest (a.put op.dst undef) w') :
    wpList Try.prog ops Q (op :: rest) a w := by
  have hc : ∀ j, j < cs.size → (w.cell? ⟨g, 0 + j, none⟩).isSome = true ∧ w.frozen? ⟨g, 0 + j, none⟩ = false := fun j hj => by
    rw [Nat.zero_add, cell_of_heap hg, frozen_of_heap hg, Array.getElem?_eq_getElem (by omega)]
    exact ⟨rfl, rfl⟩
  refine wpList_store_mid hgd ty x y ho g 0 cs hx hy hc hi h1 ?_
  obtain ⟨i1, i2, i3, i4⟩ := heap_setCells (g := g) (t := t) cs.toList w [] old.toList (by simpa using hg) (by simpa using hs.symm)
  exact h _ (by simpa using i1) i2 i3 i4
end Go.Proofs.Ytodniacnjdnffaa
