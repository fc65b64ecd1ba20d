/- An append of ints in an operation that is guarded. -/
import Derived.Test.YtodniacnjdnffaaKit
namespace Go.Proofs.Ytodniacnjdnffaa
open Go.RowKit
set_option linter.unusedVariables false

theorem wpList_append_guarded {w : World} {ops : Array Oper} {rest : List Oper} {o : Oper} {a : Act} {Q : Exit → Act → World → Prop} (hw : Region.wanted o (yielded ops a.tmps) = true) (s x : Operand)
    (ho : o.op = .call { callee := .builtin .append, args := #[s, x], argTypes := #[22, 22] })
    (base : Nat) (v : Value) (xs : List Int) (hs : a.eval s = v) (hown : OwnInts w base v xs)
    (B : Nat) (u : Value) (ys : List Int) (hx : a.eval x = u) (hr : IsInts w B u ys)
    (hlen : xs.length + ys.length ≤ 17592186044416) (hbase : base ≤ w.heap.size)
    (h : ∀ q c w', OwnInts w' base (.slice q (xs.length + ys.length) c) (xs ++ ys) → w.grownBy w' v.ownBlock → ((Value.slice q (xs.length + ys.length) c).ownBlock = v.ownBlock ∨ (Value.slice q (xs.length + ys.length) c).ownBlock = some w.heap.size) → wpList Try.prog ops Q rest (a.put o.dst (.slice q (xs.length + ys.length) c)) w') :
    wpList Try.prog ops Q (o :: rest) a w := by
  obtain ⟨i0, hi, hz0, hz1, hz2⟩ := info_parts int_info2
  refine wpList_step fun K hK => ?_
  rw [if_pos hw]
  obtain ⟨v', w', hrun, h2, h3, h4⟩ := run_append_rd (P := Try.prog) w base 22 o.type 3 i0 (.int .i64 0) 1 8 Try.underlying22 hi hz0 hz1 hz2 rfl (by decide) v xs.length (intCells xs) hown B ys.length u (intCells ys) hr (one_intCells ys) (by unfold maxLen; omega) (by omega) hbase
  unfold Oper.wp execOp
  simp only [ho, resolve, invoke, builtin, Sem.run_bind, Sem.run_pure, Result.andThen_ok, List.map_toArray, List.map_cons, List.map_nil, hs, hx, hrun]
  have h5 : OwnInts w' base v' (xs ++ ys) := by
    unfold OwnInts
    rw [List.length_append, intCells_append]
    exact h2
  obtain ⟨q, c, rfl⟩ := h5.shape
  rw [List.length_append] at *
  exact hK _ _ (h q c w' h5 h3 h4)

/-- an append of ints, at a step of a region that draws its order -/
theorem step_append_ints {w : World} {ops : Array Oper} {o : Oper} {a : Act} {K : Act → World → Prop} {Q : Exit → Act → World → Prop} {E : Prop} (hgd : o.guard = none) (s x : Operand)
    (ho : o.op = .call { callee := .builtin .append, args := #[s, x], argTypes := #[22, 22] })
    (base : Nat) (v : Value) (xs : List Int) (hs : a.eval s = v) (hown : OwnInts w base v xs)
    (B : Nat) (u : Value) (ys : List Int) (hx : a.eval x = u) (hr : IsInts w B u ys)
    (hlen : xs.length + ys.length ≤ 17592186044416) (hbase : base ≤ w.heap.size)
    (h : ∀ q c w', OwnInts w' base (.slice q (xs.length + ys.length) c) (xs ++ ys) → w.grownBy w' v.ownBlock → ((Value.slice q (xs.length + ys.length) c).ownBlock = v.ownBlock ∨ (Value.slice q (xs.length + ys.length) c).ownBlock = some w.heap.size) → K (a.put o.dst (.slice q (xs.length + ys.length) c)) w') :
    if Region.wanted o (yielded ops a.tmps) = true then Oper.wp Try.prog o a w K Q else E := by
  have hw : Region.wanted o (yielded ops a.tmps) = true := by simp [Region.wanted, hgd]
  rw [if_pos hw]
  obtain ⟨i0, hi, hz0, hz1, hz2⟩ := info_parts int_info2
  obtain ⟨v', w', hrun, h2, h3, h4⟩ := run_append_rd (P := Try.prog) w base 22 o.type 3 i0 (.int .i64 0) 1 8 Try.underlying22 hi hz0 hz1 hz2 rfl (by decide) v xs.length (intCells xs) hown B ys.length u (intCells ys) hr (one_intCells ys) (by unfold maxLen; omega) (by omega) hbase
  unfold Oper.wp execOp
  simp only [ho, resolve, invoke, builtin, Sem.run_bind, Sem.run_pure, Result.andThen_ok, List.map_toArray, List.map_cons, List.map_nil, hs, hx, hrun]
  have h5 : OwnInts w' base v' (xs ++ ys) := by
    unfold OwnInts
    rw [List.length_append, intCells_append]
    exact h2
  obtain ⟨q, c, rfl⟩ := h5.shape
  rw [List.length_append] at *
  exact h q c w' h5 h3 h4
end Go.Proofs.Ytodniacnjdnffaa
