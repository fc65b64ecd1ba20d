/- All that lives in one fact: slices of ints, and blocks that are known whole. -/
import Derived.Test.YtodniacnjdnffaaKit
namespace Go.Proofs.Ytodniacnjdnffaa
open Go.RowKit
set_option linter.unusedVariables false

/-- blocks that are known whole -/
def Boxes (W : World) (bs : List (Nat × Array Value × TypeId)) : Prop := ∀ p ∈ bs, W.heap[p.1]? = some (.cells p.2.1 p.2.2 (0, 0))
def Env (w0 W : World) (l : List (Value × List Int)) (bs : List (Nat × Array Value × TypeId)) : Prop := Live w0 W l ∧ Boxes W bs
section
variable {w0 W W' : World} {l : List (Value × List Int)} {bs : List (Nat × Array Value × TypeId)}
theorem Env.nil (w : World) : Env w w [] [] := ⟨Live.nil w, fun p hp => by simp at hp⟩
theorem Env.bel (h : Env w0 W l bs) : Below w0.heap.size w0 W := h.1.bel
theorem Env.size (h : Env w0 W l bs) : w0.heap.size ≤ W.heap.size := h.1.size
theorem Env.step (h : Env w0 W l bs) (hB : Below W.heap.size W W') : Env w0 W' l bs := ⟨h.1.step hB, fun p hp => (hB.block p.1 (lt_of_heap (h.2 p hp))).trans (h.2 p hp)⟩
theorem Env.add {v : Value} {xs : List Int} (h : Env w0 W l bs) (hv : IsInts W W.heap.size v xs) : Env w0 W ((v, xs) :: l) bs := ⟨h.1.add hv, h.2⟩
theorem Env.get {v : Value} {xs : List Int} (h : Env w0 W l bs) (i : Nat) (hi : l[i]? = some (v, xs)) : IsInts W W.heap.size v xs := h.1.get i hi
theorem Env.old {v : Value} {xs : List Int} (h : Env w0 W l bs) (hv : IsInts w0 w0.heap.size v xs) : IsInts W W.heap.size v xs := h.1.old hv
theorem Env.alloc (h : Env w0 W l bs) (o : Obj) : Env w0 (W.alloc o) l bs := h.step ((Below.refl _ W).alloc (Nat.le_refl _) o)
theorem Env.drew (h : Env w0 W l bs) : Env w0 W.drew l bs := h.step (Below.refl _ W).drew
theorem Env.drewN (h : Env w0 W l bs) (n : Nat) : Env w0 (W.drewN n) l bs := h.step (below_drewN (Below.refl _ W) n)
theorem Env.lt (h : Env w0 W l bs) (i : Nat) {k : Nat} {cs : Array Value} {t : TypeId} (hi : bs[i]? = some (k, cs, t)) : k < W.heap.size := lt_of_heap (h.2 (k, cs, t) (List.mem_of_getElem? hi))
theorem Env.blk (h : Env w0 W l bs) (i : Nat) {k : Nat} {cs : Array Value} {t : TypeId} (hi : bs[i]? = some (k, cs, t)) : W.heap[k]? = some (.cells cs t (0, 0)) := h.2 (k, cs, t) (List.mem_of_getElem? hi)
theorem Env.cell (h : Env w0 W l bs) (i : Nat) {k : Nat} {cs : Array Value} {t : TypeId} (hi : bs[i]? = some (k, cs, t)) (j : Nat) : W.cell? ⟨k, j, none⟩ = cs[j]? := cell_of_heap (h.blk i hi) j
theorem Env.cellv (h : Env w0 W l bs) (i : Nat) {k : Nat} {cs : Array Value} {t : TypeId} (hi : bs[i]? = some (k, cs, t)) (j : Nat) (u : Value) (hj : cs[j]? = some u) : W.cell? ⟨k, j, none⟩ = some u := (h.cell i hi j).trans hj
theorem Env.frozen (h : Env w0 W l bs) (i : Nat) {k : Nat} {cs : Array Value} {t : TypeId} (hi : bs[i]? = some (k, cs, t)) (j : Nat) : W.frozen? ⟨k, j, none⟩ = false := frozen_of_heap (h.blk i hi) j
theorem Env.box (h : Env w0 W l bs) (cs : Array Value) (t : TypeId) (k : Nat) (hk : k = W.heap.size) : Env w0 (W.alloc (.cells cs t)) l ((k, cs, t) :: bs) :=
  ⟨h.1.alloc _, fun p hp => by
    rcases List.mem_cons.1 hp with rfl | hp
    · exact heap_new _ _ _ hk
    · exact heap_up _ (h.2 p hp)⟩
theorem Env.drop {m : List (Value × List Int)} {cs : List (Nat × Array Value × TypeId)} (h : Env w0 W l bs) (hm : ∀ p ∈ m, p ∈ l) (hc : ∀ p ∈ cs, p ∈ bs) : Env w0 W m cs := ⟨h.1.drop hm, fun p hp => h.2 p (hc p hp)⟩
end
end Go.Proofs.Ytodniacnjdnffaa
