/- More words on what lives; words for regions that draw their order. -/
import Derived.Test.YtodniacnjdnffaaEnv
import Derived.Test.YtodniacnjdnffaaKit2
namespace Go.Proofs.Ytodniacnjdnffaa
open Go.RowKit
set_option linter.unusedVariables false
section
variable {w0 W W' : World} {l : List (Value × List Int)} {bs : List (Nat × Array Value × TypeId)}
theorem Env.lit (h : Env w0 W l bs) (xs : List Int) (cs : Array Value) (k : Nat) (hk : k = W.heap.size) (hcs : cs.toList = intCells xs) (hl : xs.length ≤ maxLen) :
    Env w0 (W.alloc (.cells cs 3)) ((.slice (some ⟨k, 0, none⟩) xs.length xs.length, xs) :: l) bs := ⟨h.1.lit xs cs k hk hcs hl, (h.alloc _).2⟩
/-- with a box that has come since -/
theorem Env.fresh (h : Env w0 W l bs) (hB : Below W.heap.size W W') {k : Nat} {cs : Array Value} {t : TypeId} (hk : W'.heap[k]? = some (.cells cs t (0, 0))) : Env w0 W' l ((k, cs, t) :: bs) :=
  ⟨(h.step hB).1, fun p hp => by
    rcases List.mem_cons.1 hp with rfl | hp
    · exact hk
    · exact (h.step hB).2 p hp⟩
end
section
variable {W c c' : World}
theorem bel_drew (h : Below W.heap.size W c) : Below W.heap.size W c.drew := h.drew
theorem bel_alloc (h : Below W.heap.size W c) (o : Obj) : Below W.heap.size W (c.alloc o) := h.alloc h.size o
theorem bel_call (h2 : Below c.heap.size c c') (h : Below W.heap.size W c) : Below W.heap.size W c' := h.trans (h2.mono h.size)
theorem bel_set (h : Below W.heap.size W c) {k : Nat} (hk : W.heap.size ≤ k) (i : Nat) (u : Value) : Below W.heap.size W (c.setCell ⟨k, i, none⟩ u) := h.setCell (p := ⟨k, i, none⟩) hk u
theorem ints_up {v : Value} {xs : List Int} (h : IsInts W W.heap.size v xs) (hB : Below W.heap.size W c) : IsInts c c.heap.size v xs := (h.below hB (Nat.le_refl _)).mono hB.size
theorem heap_call {k : Nat} {o : Obj} (hB : Below c.heap.size c c') (h : c.heap[k]? = some o) : c'.heap[k]? = some o := (hB.block k (lt_of_heap h)).trans h
theorem bel_size (h : Below W.heap.size W c) : W.heap.size ≤ c.heap.size := h.size
theorem bel_grown {row : Option Nat} (hg : c.grownBy c' row) (h : Below W.heap.size W c) (hr : ∀ k, row = some k → W.heap.size ≤ k) : Below W.heap.size W c' := h.grown hg h.size hr
theorem heap_grown {k : Nat} {o : Obj} {row : Option Nat} (hg : c.grownBy c' row) (h : c.heap[k]? = some o) (hne : some k ≠ row) : c'.heap[k]? = some o := (hg.block k (lt_of_heap h) hne).trans h
theorem heap_grown_own {base k n : Nat} {v : Value} {xs : List Int} {cs : Array Value} {t : TypeId} (hg : c.grownBy c' v.ownBlock) (ho : OwnInts c base v xs) (hte : t ≠ 3) (h : c.heap[k]? = some (.cells cs t (0, 0))) : c'.heap[k]? = some (.cells cs t (0, 0)) :=
  heap_grown hg h fun e => by
    obtain ⟨d, hd⟩ := own_heap ho e.symm
    rw [h] at hd
    injection hd with hd
    injection hd with h1 h2
    exact hte h2
theorem ints_of_heap {k n : Nat} {cs : Array Value} {xs : List Int} (h : c.heap[k]? = some (.cells cs 3 (0, 0))) (hcs : cs.toList = intCells xs) (hn : xs.length = n) (hl : xs.length ≤ maxLen) : IsInts c c.heap.size (.slice (some ⟨k, 0, none⟩) n n) xs := by
  subst hn
  refine ⟨by rw [length_intCells]; omega, _, xs.length, rfl, Nat.le_refl _, hl, fun _ => ⟨k, 0, rfl, lt_of_heap h, fun i u hu => ?_⟩⟩
  rw [Nat.zero_add, cell_of_heap h, ← hu, ← hcs]
  simp
theorem heap_grown_nil {k : Nat} {o : Obj} (hg : c.grownBy c' (Value.slice none 0 0).ownBlock) (h : c.heap[k]? = some o) : c'.heap[k]? = some o := heap_grown hg h (by simp [Value.ownBlock])
theorem heap_new1 (w : World) (a o : Obj) : ((w.alloc a).alloc o).heap[w.heap.size + 1]? = some o := heap_new _ _ _ (by simp)
theorem lit_of_heap {k : Nat} {x : Int} (h : c.heap[k]? = some (.cells #[.int .i64 x] 3 (0, 0))) : IsInts c c.heap.size (.slice (some ⟨k, 0, none⟩) 1 1) [x] := ints_of_heap h rfl rfl (by simp [maxLen])
theorem heap_set2 {k : Nat} {a b : Value} {t : TypeId} (h : W.heap[k]? = some (.cells #[a, b] t (0, 0))) (a' b' : Value) : ((W.setCell ⟨k, 0, none⟩ a').setCell ⟨k, 1, none⟩ b').heap[k]? = some (.cells #[a', b'] t (0, 0)) := by
  have h1 := heap_set_ (heap_set_ h 0 a') 1 b'
  simpa using h1
end
/-- an append of ints, at a step of a region that draws its order: what is appended is told apart -/
theorem step_append_two {w : World} {ops : Array Oper} {o : Oper} {a : Act} {K : Act → World → Prop} {Q : Exit → Act → World → Prop} {E : Prop} (hgd : o.guard = none) (s x : Operand)
    (ho : o.op = .call { callee := .builtin .append, args := #[s, x], argTypes := #[22, 22] })
    (base : Nat) (v : Value) (xs : List Int) (hs : a.eval s = v) (hown : OwnInts w base v xs) (ys : List Int) (hx : ∃ B u, a.eval x = u ∧ IsInts w B u ys)
    (hlen : xs.length + ys.length ≤ 17592186044416) (hbase : base ≤ w.heap.size)
    (h : ∀ q c w', OwnInts w' base (.slice q (xs.length + ys.length) c) (xs ++ ys) → w.grownBy w' v.ownBlock → ((Value.slice q (xs.length + ys.length) c).ownBlock = v.ownBlock ∨ (Value.slice q (xs.length + ys.length) c).ownBlock = some w.heap.size) → K (a.put o.dst (.slice q (xs.length + ys.length) c)) w') :
    if Region.wanted o (yielded ops a.tmps) = true then Oper.wp Try.prog o a w K Q else E := by
  obtain ⟨B, u, hu, hr⟩ := hx
  exact step_append_ints hgd s x ho base v xs hs hown B u ys hu hr hlen hbase h
end Go.Proofs.Ytodniacnjdnffaa
