/- Words for ranges over a function: what a body must keep; the ends of a range. -/
import Derived.Test.YtodniacnjdnffaaKit
import Derived.RangeFuncBound
import Derived.RangeFuncCalls
import Derived.RangeFuncLeaves
import Derived.RangeFuncNested
import Derived.RangeFuncBox
import Derived.LoopNIn
import Derived.LoopIn
import Derived.OwnWalkIn
import Derived.TacticsInMore
import Derived.Shelf.RegionOpen
import Derived.RegionIn
namespace Go.Proofs.Ytodniacnjdnffaa
open Go.RowKit Go.Shelf
attribute [local go_sem] Oper.semAt_some
set_option linter.unusedVariables false

/-- the blocks of which p holds are as they were -/
def KeepP (p : Nat → Prop) (W W' : World) : Prop := ∀ b, p b → W'.heap[b]? = W.heap[b]?
theorem KeepP.refl (p : Nat → Prop) (W : World) : KeepP p W W := fun _ _ => rfl
theorem KeepP.trans {p : Nat → Prop} {A B C : World} (h : KeepP p A B) (k : KeepP p B C) : KeepP p A C := fun b h1 => (k b h1).trans (h b h1)
theorem KeepP.cell {p : Nat → Prop} {W W' : World} (h : KeepP p W W') (b o : Nat) (h1 : p b) : W'.cell? ⟨b, o, none⟩ = W.cell? ⟨b, o, none⟩ := World.cell?_of_block (w := W) (h b h1)
theorem KeepP.setCell {p : Nat → Prop} {W W' : World} (h : KeepP p W W') {q : Addr} (hp : ∀ b, p b → b ≠ q.block) (u : Value) : KeepP p W (W'.setCell q u) := fun b h1 =>
  (Below.heap_setCell W' q u b (hp b h1)).trans (h b h1)
theorem KeepP.drew {p : Nat → Prop} {W W' : World} (h : KeepP p W W') : KeepP p W W'.drew := h
theorem KeepP.drewN {p : Nat → Prop} {W W' : World} (h : KeepP p W W') (n : Nat) : KeepP p W (W'.drewN n) := h
theorem KeepP.alloc {p : Nat → Prop} {W W' : World} (h : KeepP p W W') (hh : ∀ b, p b → b < W'.heap.size) (o : Obj) : KeepP p W (W'.alloc o) := fun b h1 =>
  (Below.heap_alloc W' o b (hh b h1)).trans (h b h1)
theorem KeepP.below {p : Nat → Prop} {W W' W2 : World} {n : Nat} (h : KeepP p W W') (hB : Below n W' W2) (hh : ∀ b, p b → b < n) : KeepP p W W2 := fun b h1 =>
  (hB.block b (hh b h1)).trans (h b h1)
theorem KeepP.grown {p : Nat → Prop} {W W' W2 : World} {row : Option Nat} (h : KeepP p W W') (hg : W'.grownBy W2 row) (hh : ∀ b, p b → b < W'.heap.size) (hr : ∀ b, p b → some b ≠ row) : KeepP p W W2 := fun b h1 =>
  (hg.block b (hh b h1) (hr b h1)).trans (h b h1)
theorem keepP_b {p : Nat → Prop} {n₀ : Nat} {w : World} (hp : ∀ b, p b → b < n₀) (hn : n₀ ≤ w.heap.size) (W : World) (l : Nat) (o o' : Obj) (hl : w.heap.size ≤ l) (h : W.heap[l]? = some o) (_ : o.isCells = false) (_ : o.isWalk = false) : KeepP p W (W.putObj l o') :=
  (KeepP.refl p W).grown (grownBy_putObj' W l o') (fun b hb => by have := (Array.getElem?_eq_some_iff.1 h).1; have := hp b hb; omega) (fun b hb e => by cases e; have := hp l hb; omega)
/-- how an iterator ends: all have come, or some, a round having said no more -/
def IterEnd {α : Type} (J Jx : List α → World → Prop) (xs : List α) (e : Ending) (W' : World) : Prop :=
  (∃ v, e = .returned v) ∧ ((∃ ys, ys = xs ∧ J ys W') ∨ (∃ pre, pre <+: xs ∧ Jx pre W'))
theorem IsInts.kept {p : Nat → Prop} {W W' : World} {B : Nat} {v : Value} {xs : List Int} (h : IsInts W B v xs) (hk : KeepP p W W') (hp : ∀ b, b < B → p b) : IsInts W' B v xs := h.keep fun j o hj => hk.cell j o (hp j hj)
theorem results_cell2 {fn : Func} {p q : Tmp} {ty uy : TypeId} (h : fn.results = #[.cell p ty, .cell q uy]) (tmps : Array Value) (P : Program) (w : World) (a b : Addr) (v u : Value) (hp : tmps.getD p undef = .pointer (some a)) (hq : tmps.getD q undef = .pointer (some b)) (hl : (loadVar ty a).run P w = .ok v w) (hm : (loadVar uy b).run P w = .ok u w) : (results fn tmps).run P w = .ok (.tuple #[v, u]) w := by
  have hp' : tmps[p]?.getD undef = .pointer (some a) := by simpa using hp
  have hq' : tmps[q]?.getD undef = .pointer (some b) := by simpa using hq
  simp [results, h, hp', hq', asAddr, hl, hm]
theorem loadVar_int (a : Addr) (w : World) (v : Value) (hc : w.cell? a = some v) : (loadVar 3 a).run Try.prog w = .ok v w := by
  simp [loadVar, isAgg, hc]
theorem loadVar_errno (a : Addr) (w : World) (v : Value) (hc : w.cell? a = some v) : (loadVar 27 a).run Try.prog w = .ok v w := by
  simp [loadVar, isAgg, hc]
end Go.Proofs.Ytodniacnjdnffaa
