/- Nothing but one block has turned. -/
import Derived.Test.YtodniacnjdnffaaKit
namespace Go.Proofs.Ytodniacnjdnffaa
open Go.RowKit
set_option linter.unusedVariables false

/-- nothing but block k has turned of what was there -/
structure Only (k : Nat) (w w' : World) : Prop where
  os : w'.os = w.os
  tape : w'.tape = w.tape
  output : w'.output = w.output
  size : w.heap.size ≤ w'.heap.size
  block : ∀ j, j < w.heap.size → j ≠ k → w'.heap[j]? = w.heap[j]?
theorem Only.refl (k : Nat) (w : World) : Only k w w := ⟨rfl, rfl, rfl, Nat.le_refl _, fun _ _ _ => rfl⟩
theorem Only.of {k : Nat} {w w' : World} (h : Below w.heap.size w w') : Only k w w' := ⟨h.os, h.tape, h.output, h.size, fun j hj _ => h.block j hj⟩
theorem Only.trans {k : Nat} {a b c : World} (h : Only k a b) (g : Only k b c) : Only k a c :=
  ⟨g.os.trans h.os, g.tape.trans h.tape, g.output.trans h.output, Nat.le_trans h.size g.size, fun j hj hk => (g.block j (Nat.lt_of_lt_of_le hj h.size) hk).trans (h.block j hj hk)⟩
theorem Only.set {k : Nat} {a w : World} (h : Only k a w) (i : Nat) (u : Value) : Only k a (w.setCell ⟨k, i, none⟩ u) :=
  h.trans ⟨rfl, rfl, rfl, by simp [World.setCell], fun j hj hk => Below.heap_setCell _ _ _ _ hk⟩
theorem Only.below {k B : Nat} {w w' : World} (h : Only k w w') (hk : B ≤ k) (hB : B ≤ w.heap.size) : Below B w w' := ⟨h.os, h.tape, h.output, h.size, fun j hj => h.block j (by omega) (by omega)⟩
theorem Only.bel {k B : Nat} {w0 w w' : World} (h : Only k w w') (h0 : Below B w0 w) (hk : B ≤ k) (hB : B ≤ w0.heap.size) : Below B w0 w' := h0.trans (h.below hk (Nat.le_trans hB h0.size))
theorem Only.other {k j : Nat} {o : Obj} {w w' : World} (h : Only k w w') (hj : w.heap[j]? = some o) (hk : j ≠ k) : w'.heap[j]? = some o := (h.block j (lt_of_heap hj) hk).trans hj
end Go.Proofs.Ytodniacnjdnffaa
