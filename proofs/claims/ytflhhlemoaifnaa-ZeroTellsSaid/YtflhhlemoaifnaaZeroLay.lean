/- The program's list of numbers, and Number: contracts. -/
import Derived.Test.YtflhhlemoaifnaaZeroFns
namespace Go.Proofs.Ytflhhlemoaifnaa
open Go.RowKit
set_option linter.unusedVariables false

/-- block b is a list that holds xs -/
def LB (w : World) (b : Nat) (xs : List Int) : Prop := ∃ v, w.heap[b]? = some (.cells #[v] 44 (0, 0)) ∧ OwnInts w (b + 1) v xs
theorem LB.lt {w : World} {b : Nat} {xs : List Int} (h : LB w b xs) : b < w.heap.size := by
  obtain ⟨v, hb, _⟩ := h
  exact lt_of_heap hb
theorem LB.below {w w' : World} {b : Nat} {xs : List Int} (h : LB w b xs) (hB : Below w.heap.size w w') : LB w' b xs := by
  obtain ⟨v, hb, ho⟩ := h
  exact ⟨v, (hB.block b (lt_of_heap hb)).trans hb, ho.below hB⟩

set_option maxHeartbeats 400000 in
theorem lay_any (w : World) (b : Nat) (xs ys : List Int) (u : Value) (h : LB w b xs) (hu : IsInts w w.heap.size u ys) (hlen : xs.length + ys.length ≤ 17592186044416) :
    Calls Try.prog 24 #[.pointer (some ⟨b, 0, none⟩), u] w fun e w' => e = .returned (.tuple #[]) ∧ LB w' b (xs ++ ys) ∧ Below b w w' := by
  have hbs := h.lt
  obtain ⟨v, hb, ho⟩ := h
  have c0 : w.cell? ⟨b, 0, none⟩ = some v := cell_of_heap hb 0
  have Hb := Lib.hid hb
  have Ho := Lib.hid ho
  have Hu := Lib.hid hu
  clear hb ho hu
  go_enter Try.func24, Try.ntmps24
  go_wp2_with
    (at_builtin
     refine wpList_append_ints rfl _ _ rfl (b + 1) v xs rfl Ho.out w.heap.size u ys rfl Hu.out hlen (by omega) ?_
     intro q' c' w1 hown1 hg1 hat1
     have hv : ∀ k, v.ownBlock = some k → b + 1 ≤ k := fun k hk => own_ge Ho.out hk
     have hb1 : w1.heap[b]? = some (.cells #[v] 44 (0, 0)) := (hg1.block b hbs (fun e => by have := hv b e.symm; omega)).trans Hb.out
     have f1 : w1.frozen? ⟨b, 0, none⟩ = false := frozen_of_heap hb1 0
     have c1 : w1.cell? ⟨b, 0, none⟩ = some v := cell_of_heap hb1 0
     have hB1 : Below b w w1 := (Below.refl _ _).grown hg1 (by omega) (fun k hk => by have := hv k hk; omega)
     have Hb1 := Lib.hid hb1
     have Hown1 := Lib.hid hown1
     clear hb1 hown1 hg1 hat1 hv)
  go_end0
  refine ⟨rfl, ⟨.slice q' (xs.length + ys.length) c', ?_, ?_⟩, hB1.setCell (p := ⟨b, 0, none⟩) (Nat.le_refl _) _⟩
  · have := heap_set_ Hb1.out 0 (.slice q' (xs.length + ys.length) c')
    simpa using this
  · exact ownsRow_setCell_below Hown1.out (by simp) _
end Go.Proofs.Ytflhhlemoaifnaa
