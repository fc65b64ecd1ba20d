/- Rows of trees of one's own; what a queue keeps. -/
import Derived.Test.YtodniacnjdnffaaHeapPlain
import Derived.Test.YtodniacnjdnffaaKit2
import Derived.Test.YtodniacnjdnffaaEnv
namespace Go.Proofs.Ytodniacnjdnffaa
open Go.RowKit
set_option linter.unusedVariables false

def treeC (x : NP) : List Value := [.int .i64 (x.1 : Int), .int .i64 (x.2 : Int)]
def treeCells (h : List NP) : List Value := h.flatMap treeC
theorem length_treeCells (h : List NP) : (treeCells h).length = h.length * 2 := by
  induction h with
  | nil => rfl
  | cons x h ih =>
    have e : treeCells (x :: h) = treeC x ++ treeCells h := by simp [treeCells]
    rw [e, List.length_append, ih, List.length_cons]
    simp [treeC]
    omega
theorem treeCells_cons (x : NP) (h : List NP) : treeCells (x :: h) = .int .i64 (x.1 : Int) :: .int .i64 (x.2 : Int) :: treeCells h := rfl
theorem treeCells_append (a b : List NP) : treeCells (a ++ b) = treeCells a ++ treeCells b := by simp [treeCells]
theorem treeCells_at (h : List NP) : ∀ j, j < h.length → (treeCells h)[j * 2]? = some (.int .i64 ((gP h j).1 : Int)) ∧ (treeCells h)[j * 2 + 1]? = some (.int .i64 ((gP h j).2 : Int)) := by
  induction h with
  | nil => intro j hj; simp at hj
  | cons x h ih =>
    intro j hj
    rw [treeCells_cons]
    cases j with
    | zero => simp [gP]
    | succ j =>
      have := ih j (by simpa using hj)
      have e : gP (x :: h) (j + 1) = gP h j := by simp [gP]
      rw [e, show (j + 1) * 2 = j * 2 + 1 + 1 by omega]
      simp only [List.getElem?_cons_succ]
      exact this
theorem treeCells_set (h : List NP) (x : NP) : ∀ j, j < h.length → ((treeCells h).set (j * 2) (.int .i64 (x.1 : Int))).set (j * 2 + 1) (.int .i64 (x.2 : Int)) = treeCells (h.set j x) := by
  induction h with
  | nil => intro j hj; simp at hj
  | cons y h ih =>
    intro j hj
    rw [treeCells_cons]
    cases j with
    | zero => simp [treeCells_cons]
    | succ j =>
      have := ih j (by simpa using hj)
      rw [show (j + 1) * 2 = j * 2 + 1 + 1 by omega, List.set_cons_succ, List.set_cons_succ, List.set_cons_succ, List.set_cons_succ, this, List.set_cons_succ, treeCells_cons]
theorem treeCells_take (h : List NP) (m : Nat) : (treeCells h).take (m * 2) = treeCells (h.take m) := by
  induction h generalizing m with
  | nil => simp [treeCells]
  | cons x h ih =>
    cases m with
    | zero => simp [treeCells]
    | succ m =>
      rw [treeCells_cons, show (m + 1) * 2 = m * 2 + 1 + 1 by omega, List.take_succ_cons, List.take_succ_cons, ih, List.take_succ_cons, treeCells_cons]
theorem one_treeCells (h : List NP) : ∀ u ∈ treeCells h, u.oneCell' = true := by
  intro u hu
  simp only [treeCells, List.mem_flatMap] at hu
  obtain ⟨x, _, hx⟩ := hu
  simp [treeC] at hx
  rcases hx with rfl | rfl <;> rfl
/-- a row of trees of one's own -/
def TreeOwn (w : World) (base : Nat) (v : Value) (h : List NP) : Prop := w.ownsRow base 66 2 v h.length (treeCells h)
theorem TreeOwn.nil (w : World) (base : Nat) : TreeOwn w base (.slice none 0 0) [] := World.ownsRow_nil _ _ _ _
theorem TreeOwn.below {w w' : World} {base : Nat} {v : Value} {h : List NP} (ho : TreeOwn w base v h) (hB : Below w.heap.size w w') : TreeOwn w' base v h := ownsRow_below ho hB
theorem TreeOwn.alloc {w : World} {base : Nat} {v : Value} {h : List NP} (ho : TreeOwn w base v h) (o : Obj) : TreeOwn (w.alloc o) base v h := World.ownsRow.alloc ho o
theorem TreeOwn.shape {w : World} {base : Nat} {v : Value} {h : List NP} (ho : TreeOwn w base v h) : ∃ q c, v = .slice q h.length c := by
  rcases ho.2 with ⟨rfl, h0⟩ | ⟨g, cap, cur, rfl, _⟩
  · rw [h0]; exact ⟨_, _, rfl⟩
  · exact ⟨_, _, rfl⟩
theorem TreeOwn.place {w : World} {base : Nat} {v : Value} {h : List NP} (ho : TreeOwn w base v h) (hn : 0 < h.length) :
    ∃ g cap, v = .slice (some ⟨g, 0, none⟩) h.length cap ∧ h.length ≤ cap ∧ cap ≤ maxLen ∧ base ≤ g ∧ g < w.heap.size ∧ (∃ cur, w.heap[g]? = some (.cells cur 66 (0, 0))) ∧ (∀ j, j < h.length → w.cell? ⟨g, j * 2, none⟩ = some (.int .i64 ((gP h j).1 : Int)) ∧ w.cell? ⟨g, j * 2 + 1, none⟩ = some (.int .i64 ((gP h j).2 : Int))) ∧ (∀ j, w.frozen? ⟨g, j, none⟩ = false) ∧
      (∀ (j : Nat) (x : NP), j < h.length → TreeOwn ((w.setCell ⟨g, j * 2, none⟩ (.int .i64 (x.1 : Int))).setCell ⟨g, j * 2 + 1, none⟩ (.int .i64 (x.2 : Int))) base v (h.set j x)) ∧
      (∀ m, m ≤ h.length → TreeOwn w base (.slice (some ⟨g, 0, none⟩) m cap) (h.take m)) := by
  have ho' := ho
  rcases ho.2 with ⟨rfl, h0⟩ | ⟨g, cap, cur, rfl, hb, hg, hnc, hcm, hcs, htake⟩
  · omega
  · refine ⟨g, cap, rfl, hnc, hcm, hb, lt_of_heap hg, ⟨cur, hg⟩, fun j hj => ?_, fun j => World.ownsRow.frozenAt ho j, fun j x hj => ?_, fun m hm => ?_⟩
    · obtain ⟨h1, h2⟩ := treeCells_at h j hj
      exact ⟨(World.ownsRow.cellAt ho (j * 2) (by omega)).trans h1, (World.ownsRow.cellAt ho (j * 2 + 1) (by omega)).trans h2⟩
    · have h1 := (World.ownsRow.stored ho (j * 2) (.int .i64 (x.1 : Int))).1
      have h2 := (World.ownsRow.stored h1 (j * 2 + 1) (.int .i64 (x.2 : Int))).1
      rw [treeCells_set h x j hj] at h2
      unfold TreeOwn
      rw [List.length_set]
      exact h2
    · unfold TreeOwn
      have hl : (h.take m).length = m := by rw [List.length_take]; omega
      rw [hl]
      refine ⟨by rw [length_treeCells, hl], .inr ⟨g, cap, cur, rfl, hb, hg, by omega, hcm, hcs, ?_⟩⟩
      rw [← treeCells_take, ← htake, List.take_take, Nat.min_eq_left (by omega)]
theorem own_tree_ge {w : World} {base : Nat} {v : Value} {h : List NP} (ho : TreeOwn w base v h) {k : Nat} (hk : v.ownBlock = some k) : base ≤ k := by
  rcases ho.2 with ⟨rfl, _⟩ | ⟨g, cap, cur, rfl, hb, _⟩
  · simp [Value.ownBlock] at hk
  · obtain rfl : g = k := by simpa [Value.ownBlock] using hk
    exact hb
theorem tree_info : (Try.prog.info? 66).map (fun i => (i.zero, i.size, i.bytes)) = some (some (.agg #[.int .i64 0, .int .i64 0]), 2, 16) := by kernel_rfl
theorem tree_rd {w : World} {k : Nat} {x : NP} (h : w.heap[k]? = some (.cells #[.int .i64 (x.1 : Int), .int .i64 (x.2 : Int)] 66 (0, 0))) : Rd w (k + 1) 2 (.slice (some ⟨k, 0, none⟩) 1 1) 1 (treeCells [x]) := by
  refine ⟨rfl, _, 1, rfl, Nat.le_refl _, by simp [maxLen], fun _ => ⟨k, 0, rfl, Nat.lt_succ_self _, fun i u hu => ?_⟩⟩
  have e : treeCells [x] = [.int .i64 (x.1 : Int), .int .i64 (x.2 : Int)] := rfl
  rw [e] at hu
  rw [Nat.zero_add, cell_of_heap h, ← hu]
  simp
/-- an append of a tree, at a step of a region that draws its order -/
theorem step_append_tree {w : World} {ops : Array Oper} {o : Oper} {a : Act} {K : Act → World → Prop} {Q : Exit → Act → World → Prop} {E : Prop} (hgd : o.guard = none) (s x : Operand)
    (ho : o.op = .call { callee := .builtin .append, args := #[s, x], argTypes := #[68, 68] })
    (base : Nat) (v : Value) (h : List NP) (hs : a.eval s = v) (hown : TreeOwn w base v h)
    (k : Nat) (y : NP) (hx : a.eval x = .slice (some ⟨k, 0, none⟩) 1 1) (hr : w.heap[k]? = some (.cells #[.int .i64 (y.1 : Int), .int .i64 (y.2 : Int)] 66 (0, 0)))
    (hlen : h.length ≤ 1000000) (hbase : base ≤ w.heap.size)
    (hk : ∀ g c w', TreeOwn w' base (.slice (some ⟨g, 0, none⟩) (h.length + 1) c) (h ++ [y]) → w.grownBy w' v.ownBlock → (some g = v.ownBlock ∨ g = w.heap.size) → K (a.put o.dst (.slice (some ⟨g, 0, none⟩) (h.length + 1) c)) w') :
    if Region.wanted o (yielded ops a.tmps) = true then Oper.wp Try.prog o a w K Q else E := by
  have hw : Region.wanted o (yielded ops a.tmps) = true := by simp [Region.wanted, hgd]
  rw [if_pos hw]
  obtain ⟨i0, hi, hz0, hz1, hz2⟩ := info_parts tree_info
  obtain ⟨v', w', hrun, h2, h3, h4⟩ := run_append_rd (P := Try.prog) w base 68 o.type 66 i0 (.agg #[.int .i64 0, .int .i64 0]) 2 16 Try.underlying68 hi hz0 hz1 hz2 rfl (by decide) v h.length (treeCells h) hown (k + 1) 1 _ (treeCells [y]) (tree_rd hr) (one_treeCells _) (by unfold maxLen; omega) (by omega) hbase
  unfold Oper.wp execOp
  simp only [ho, resolve, invoke, builtin, Sem.run_bind, Sem.run_pure, Result.andThen_ok, List.map_toArray, List.map_cons, List.map_nil, hs, hx, hrun]
  have h5 : TreeOwn w' base v' (h ++ [y]) := by
    unfold TreeOwn
    rw [List.length_append, treeCells_append]
    exact h2
  obtain ⟨g, c, rfl, _⟩ := h5.place (by simp)
  rw [List.length_append] at *
  refine hK _ _ (hk g c w' h5 h3 ?_)
  rcases h4 with h4 | h4
  · exact .inl h4
  · refine .inr ?_
    simpa [Value.ownBlock] using h4
where
  hK {K : Act → World → Prop} (a : Act) (w : World) (h : K a w) : K a w := h
/-- what a queue leaves as it was: all blocks but its own, and its row -/
structure Kept (qb : Nat) (w w' : World) : Prop where
  bel : Below qb w w'
  size : w.heap.size ≤ w'.heap.size
  other : ∀ k cs t, t ≠ 66 → k ≠ qb → w.heap[k]? = some (.cells cs t (0, 0)) → w'.heap[k]? = some (.cells cs t (0, 0))
theorem Kept.refl (qb : Nat) (w : World) : Kept qb w w := ⟨Below.refl _ _, Nat.le_refl _, fun _ _ _ _ _ h => h⟩
theorem Kept.trans {qb : Nat} {a b c : World} (h : Kept qb a b) (g : Kept qb b c) : Kept qb a c := ⟨h.bel.trans g.bel, Nat.le_trans h.size g.size, fun k cs t h1 h2 h3 => g.other k cs t h1 h2 (h.other k cs t h1 h2 h3)⟩
theorem Kept.below {qb : Nat} {w w' : World} (hq : qb ≤ w.heap.size) (hB : Below w.heap.size w w') : Kept qb w w' := ⟨hB.mono hq, hB.size, fun k cs t _ _ h => (hB.block k (lt_of_heap h)).trans h⟩
theorem Kept.set {qb g : Nat} {w : World} (hg : qb < g) (hh : ∃ cur, w.heap[g]? = some (.cells cur 66 (0, 0))) (i : Nat) (u : Value) : Kept qb w (w.setCell ⟨g, i, none⟩ u) :=
  ⟨(Below.refl _ _).setCell (p := ⟨g, i, none⟩) (by simp; omega) u, by simp [World.setCell], fun k cs t h1 h2 h3 => by
    have hne : k ≠ g := fun e => by
      subst e
      obtain ⟨cur, hc⟩ := hh
      rw [h3] at hc
      injection hc with hc
      injection hc with _ hc
      exact h1 hc
    rw [Below.heap_setCell _ _ _ _ hne]
    exact h3⟩
theorem Kept.setq {qb : Nat} {w : World} (i : Nat) (u : Value) : Kept qb w (w.setCell ⟨qb, i, none⟩ u) :=
  ⟨(Below.refl _ _).setCell (p := ⟨qb, i, none⟩) (Nat.le_refl _) u, by simp [World.setCell], fun k cs t h1 h2 h3 => by
    rw [Below.heap_setCell _ _ _ _ h2]
    exact h3⟩
theorem Kept.grown {qb base : Nat} {w w' : World} {v : Value} {h : List NP} (ho : TreeOwn w base v h) (hb : qb < base) (hq : qb ≤ w.heap.size) (hg : w.grownBy w' v.ownBlock) : Kept qb w w' :=
  ⟨(Below.refl _ _).grown hg hq (fun k hk => by have := own_tree_ge ho hk; omega), hg.size, fun k cs t h1 h2 h3 => by
    refine (hg.block k (lt_of_heap h3) fun e => ?_).trans h3
    obtain ⟨cur, hc⟩ := own_heap ho e.symm
    rw [h3] at hc
    injection hc with hc
    injection hc with _ hc
    exact h1 hc⟩
/-- a queue in memory -/
structure Que (w : World) (qb : Nat) (h : List NP) : Prop where
  ex : ∃ v, w.heap[qb]? = some (.cells #[v, .func (.func 36) #[] #[]] 70 (0, 0)) ∧ TreeOwn w (qb + 1) v h
end Go.Proofs.Ytodniacnjdnffaa
