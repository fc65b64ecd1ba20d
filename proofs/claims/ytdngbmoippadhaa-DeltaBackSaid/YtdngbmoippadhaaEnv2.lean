/- More words on what lives; words for regions that draw their order. -/
import Derived.Test.YtdngbmoippadhaaEnv
import Derived.Test.YtdngbmoippadhaaBitsFacts
namespace Go.Proofs.Ytdngbmoippadhaa
open Go.RowKit
set_option linter.unusedVariables false
section
variable {w0 W W' : World} {l : List (Value × List Int)} {bs : List (Nat × Array Value × TypeId)}
theorem Env.lit (h : Env w0 W l bs) (xs : List Int) (cs : Array Value) (k : Nat) (hk : k = W.heap.size) (hcs : cs.toList = intCells xs) (hl : xs.length ≤ maxLen) :
    Env w0 (W.alloc (.cells cs 3)) ((.slice (some ⟨k, 0, none⟩) xs.length xs.length, xs) :: l) bs := ⟨h.1.lit xs cs k hk hcs hl, (h.alloc _).2⟩
/-- with a box that has come since -/
theorem Env.fresh (h : Env w0 W l bs) (hB : Below W.heap.size W W') {k : Nat} {cs : Array Value} {t : TypeId} (hk : W'.heap[k]? = some (.cells cs t (0, 0))) : Env w0 W' l ((k, cs, t) :: bs) :=
  ⟨(h.step hB).1, fun p hp => by
    rcases List.mem_cons.1 hp with rfl | hp
    · exact hk
    · exact (h.step hB).2 p hp⟩
end
section
variable {W c c' : World}
theorem bel_drew (h : Below W.heap.size W c) : Below W.heap.size W c.drew := h.drew
theorem bel_alloc (h : Below W.heap.size W c) (o : Obj) : Below W.heap.size W (c.alloc o) := h.alloc h.size o
theorem bel_call (h2 : Below c.heap.size c c') (h : Below W.heap.size W c) : Below W.heap.size W c' := h.trans (h2.mono h.size)
theorem bel_set (h : Below W.heap.size W c) {k : Nat} (hk : W.heap.size ≤ k) (i : Nat) (u : Value) : Below W.heap.size W (c.setCell ⟨k, i, none⟩ u) := h.setCell (p := ⟨k, i, none⟩) hk u
theorem ints_up {v : Value} {xs : List Int} (h : IsInts W W.heap.size v xs) (hB : Below W.heap.size W c) : IsInts c c.heap.size v xs := (h.below hB (Nat.le_refl _)).mono hB.size
theorem pairs_up {v : Value} {ps : List Pair} (h : IsPairs W W.heap.size v ps) (hB : Below W.heap.size W c) : IsPairs c c.heap.size v ps := Rd.mono (Rd.below h hB (Nat.le_refl _)) hB.size
theorem pairs_alloc {v : Value} {ps : List Pair} (h : IsPairs W W.heap.size v ps) (o : Obj) : IsPairs (W.alloc o) (W.alloc o).heap.size v ps := pairs_up h ((Below.refl _ _).alloc (Nat.le_refl _) o)
theorem heap_call {k : Nat} {o : Obj} (hB : Below c.heap.size c c') (h : c.heap[k]? = some o) : c'.heap[k]? = some o := (hB.block k (lt_of_heap h)).trans h
theorem heap_set2 {k : Nat} {a b : Value} {t : TypeId} (h : W.heap[k]? = some (.cells #[a, b] t (0, 0))) (a' b' : Value) : ((W.setCell ⟨k, 0, none⟩ a').setCell ⟨k, 1, none⟩ b').heap[k]? = some (.cells #[a', b'] t (0, 0)) := by
  have h1 := heap_set_ (heap_set_ h 0 a') 1 b'
  simpa using h1
end
end Go.Proofs.Ytdngbmoippadhaa
