/- Rows of the document's trees in memory: their appends and parts; least and without, walked. -/
import Derived.Test.YtegjkhhgihcdcaaJoinP
import Derived.Test.YtegjkhhgihcdcaaOnly
import Derived.Test.YtegjkhhgihcdcaaEnvK
import Derived.Test.YtegjkhhgihcdcaaKit3
import Derived.Deep.RegionHeld3
import Derived.Deep.DeepCutAuto
namespace Go.Proofs.Ytegjkhhgihcdcaa
open Go.RowKit
set_option linter.unusedVariables false

/-- a tree, and the slice that it has -/
abbrev TV := TP × Value
def trC (t : TV) : List Value := [.int .i64 (t.1.1.1 : Int), t.2]
def trCells (M : List TV) : List Value := M.flatMap trC
theorem trCells_cons (t : TV) (M : List TV) : trCells (t :: M) = .int .i64 (t.1.1.1 : Int) :: t.2 :: trCells M := rfl
theorem trCells_append (a b : List TV) : trCells (a ++ b) = trCells a ++ trCells b := by simp [trCells]
theorem length_trCells (M : List TV) : (trCells M).length = M.length * 2 := by
  induction M with
  | nil => rfl
  | cons x M ih => rw [trCells_cons, List.length_cons, List.length_cons, ih, List.length_cons]; omega
theorem trCells_at (M : List TV) : ∀ (j : Nat) (t : TV), M[j]? = some t → (trCells M)[j * 2]? = some (.int .i64 (t.1.1.1 : Int)) ∧ (trCells M)[j * 2 + 1]? = some t.2 := by
  induction M with
  | nil => intro j t h; simp at h
  | cons x M ih =>
    intro j t h
    rw [trCells_cons]
    cases j with
    | zero => simp at h; subst h; simp
    | succ j =>
      have := ih j t (by simpa using h)
      rw [show (j + 1) * 2 = j * 2 + 1 + 1 by omega]
      simp only [List.getElem?_cons_succ]
      exact this
theorem trCells_take (M : List TV) : ∀ m, (trCells M).take (m * 2) = trCells (M.take m) := by
  induction M with
  | nil => intro m; simp [trCells]
  | cons x M ih =>
    intro m
    cases m with
    | zero => simp [trCells]
    | succ m => rw [trCells_cons, show (m + 1) * 2 = m * 2 + 1 + 1 by omega, List.take_succ_cons, List.take_succ_cons, ih, List.take_succ_cons, trCells_cons]
theorem trCells_drop (M : List TV) : ∀ m, (trCells M).drop (m * 2) = trCells (M.drop m) := by
  induction M with
  | nil => intro m; simp [trCells]
  | cons x M ih =>
    intro m
    cases m with
    | zero => simp
    | succ m => rw [trCells_cons, show (m + 1) * 2 = m * 2 + 1 + 1 by omega, List.drop_succ_cons, List.drop_succ_cons, ih, List.drop_succ_cons]
/-- a row of trees of one's own; what they have lies at or above the base, and not in block d -/
structure TrOwn (w : World) (base d : Nat) (v : Value) (M : List TV) : Prop where
  own : w.ownsRow base 55 2 v M.length (trCells M)
  has : ∀ t ∈ M, OwnInts w base t.2 (ints t.1.2) ∧ t.2.ownBlock ≠ some d
theorem TrOwn.nil (w : World) (base d : Nat) : TrOwn w base d (.slice none 0 0) [] := ⟨World.ownsRow_nil _ _ _ _, fun t ht => by simp at ht⟩
theorem TrOwn.below {w w' : World} {base d : Nat} {v : Value} {M : List TV} (h : TrOwn w base d v M) (hB : Below w.heap.size w w') : TrOwn w' base d v M :=
  ⟨ownsRow_below h.own hB, fun t ht => ⟨(h.has t ht).1.below hB, (h.has t ht).2⟩⟩
theorem TrOwn.alloc {w : World} {base d : Nat} {v : Value} {M : List TV} (h : TrOwn w base d v M) (o : Obj) : TrOwn (w.alloc o) base d v M := h.below ((Below.refl _ _).alloc (Nat.le_refl _) o)
theorem TrOwn.shape {w : World} {base d : Nat} {v : Value} {M : List TV} (h : TrOwn w base d v M) : ∃ q c, v = .slice q M.length c := by
  rcases h.own.2 with ⟨rfl, h0⟩ | ⟨g, cap, cur, rfl, _⟩
  · rw [h0]; exact ⟨_, _, rfl⟩
  · exact ⟨_, _, rfl⟩
theorem TrOwn.at {w : World} {base d n c : Nat} {q : Option Addr} {M : List TV} (h : TrOwn w base d (.slice q n c) M) (j : Nat) (t : TV) (ht : M[j]? = some t) :
    ∃ g, q = some ⟨g, 0, none⟩ ∧ g < w.heap.size ∧ w.cell? ⟨g, j * 2, none⟩ = some (.int .i64 (t.1.1.1 : Int)) ∧ w.cell? ⟨g, j * 2 + 1, none⟩ = some t.2 := by
  have hj := (List.getElem?_eq_some_iff.1 ht).1
  have ho := h.own
  rcases h.own.2 with ⟨e, h0⟩ | ⟨g, cap, cur, e, hb, hg, _⟩
  · omega
  · injection e with e1 e2 e3
    subst e1
    subst e2
    subst e3
    obtain ⟨h1, h2⟩ := trCells_at M j t ht
    exact ⟨g, rfl, lt_of_heap hg, (World.ownsRow.cellAt ho (j * 2) (by omega)).trans h1, (World.ownsRow.cellAt ho (j * 2 + 1) (by omega)).trans h2⟩
theorem TrOwn.ge {w : World} {base d : Nat} {v : Value} {M : List TV} (h : TrOwn w base d v M) {k : Nat} (hk : v.ownBlock = some k) : base ≤ k := own_ge' h.own hk
where
  own_ge' {W : World} {base e size k j : Nat} {v : Value} {xs : List Value} (h : W.ownsRow base e size v k xs) (ej : v.ownBlock = some j) : base ≤ j := own_ge h ej
theorem tr_int : (55 : TypeId) ≠ 3 := by decide
/-- a world in which nothing but block d of ints has turned -/
theorem ownsRow_only {w w' : World} {d base e size n : Nat} {v : Value} {xs : List Value} (h : w.ownsRow base e size v n xs) (ho : Only d w w') (hd : v.ownBlock ≠ some d) : w'.ownsRow base e size v n xs := by
  refine ⟨h.1, ?_⟩
  rcases h.2 with h0 | ⟨g, cap, cur, e1, e2, e3, e4⟩
  · exact .inl h0
  · refine .inr ⟨g, cap, cur, e1, e2, ho.other e3 (fun e => hd ?_), e4⟩
    subst e1 e
    rfl
theorem TrOwn.only {w w' : World} {base d : Nat} {v : Value} {M : List TV} (h : TrOwn w base d v M) (ho : Only d w w') (hd : ∃ cs, w.heap[d]? = some (.cells cs 3 (0, 0))) : TrOwn w' base d v M :=
  ⟨ownsRow_only h.own ho (fun e => by
    obtain ⟨cs, hc⟩ := hd
    obtain ⟨c, hc2⟩ := own_heap h.own e
    rw [hc] at hc2
    injection hc2 with hc2
    injection hc2 with _ hc2
    exact tr_int hc2.symm), fun t ht => ⟨ownsRow_only (h.has t ht).1 ho (h.has t ht).2, (h.has t ht).2⟩⟩
theorem tr_info : (Try.prog.info? 55).map (fun i => (i.zero, i.size, i.bytes)) = some (some (.agg #[.int .i64 0, .slice none 0 0]), 2, 32) := by kernel_rfl
theorem own_one {w : World} {base : Nat} {v : Value} {xs : List Int} (h : OwnInts w base v xs) : v.oneCell' = true := by
  obtain ⟨q, c, rfl⟩ := h.shape
  rfl
theorem one_trCells {w : World} {base d : Nat} {M : List TV} (h : ∀ t ∈ M, OwnInts w base t.2 (ints t.1.2) ∧ t.2.ownBlock ≠ some d) : ∀ u ∈ trCells M, u.oneCell' = true := by
  intro u hu
  simp only [trCells, List.mem_flatMap] at hu
  obtain ⟨t, ht, hu⟩ := hu
  simp [trC] at hu
  rcases hu with rfl | rfl
  · rfl
  · exact own_one (h t ht).1
/-- an append of trees -/
theorem run_append_tr (w : World) (base d : Nat) (ty : TypeId) (v : Value) (M : List TV) (ho : TrOwn w base d v M) (B : Nat) (u : Value) (K : List TV) (hr : Rd w B 2 u K.length (trCells K)) (hK : ∀ t ∈ K, OwnInts w base t.2 (ints t.1.2) ∧ t.2.ownBlock ≠ some d)
    (hlen : M.length + K.length ≤ 1000000) (hbase : base ≤ w.heap.size) :
    ∃ q c w', (Builtin.append_ #[53, 53] ty #[v, u]).run Try.prog w = .ok (.slice q (M.length + K.length) c) w' ∧ TrOwn w' base d (.slice q (M.length + K.length) c) (M ++ K) ∧ w.grownBy w' v.ownBlock ∧ ((Value.slice q (M.length + K.length) c).ownBlock = v.ownBlock ∨ (Value.slice q (M.length + K.length) c).ownBlock = some w.heap.size) := by
  obtain ⟨i0, hi, hz0, hz1, hz2⟩ := info_parts tr_info
  obtain ⟨v', w', hrun, h2, h3, h4⟩ := run_append_rd (P := Try.prog) w base 53 ty 55 i0 (.agg #[.int .i64 0, .slice none 0 0]) 2 32 Try.underlying53 hi hz0 hz1 hz2 rfl (by decide) v M.length (trCells M) ho.own B K.length u (trCells K) hr (one_trCells hK) (by unfold maxLen; omega) (by omega) hbase
  have h5 : w'.ownsRow base 55 2 v' (M ++ K).length (trCells (M ++ K)) := by
    rw [List.length_append, trCells_append]
    exact h2
  have keep : ∀ (x : Value) (xs : List Int), OwnInts w base x xs → OwnInts w' base x xs := fun x xs hx => by
    refine World.ownsRow.kept hx h3 ?_
    cases hx0 : x.ownBlock with
    | none => exact .inl rfl
    | some g =>
      refine .inr fun e => ?_
      obtain ⟨c1, hc1⟩ := own_heap hx hx0
      obtain ⟨c2, hc2⟩ := own_heap ho.own e.symm
      rw [hc1] at hc2
      injection hc2 with hc2
      injection hc2 with _ hc2
      exact tr_int hc2.symm
  have h6 : TrOwn w' base d v' (M ++ K) := ⟨h5, fun t ht => by
    rcases List.mem_append.1 ht with ht | ht
    · exact ⟨keep _ _ (ho.has t ht).1, (ho.has t ht).2⟩
    · exact ⟨keep _ _ (hK t ht).1, (hK t ht).2⟩⟩
  obtain ⟨q, c, rfl⟩ := h6.shape
  rw [List.length_append] at hrun h6 h4
  exact ⟨q, c, w', hrun, h6, h3, h4⟩
theorem wpList_append_tr {w : World} {ops : Array Oper} {rest : List Oper} {o : Oper} {a : Act} {Q : Exit → Act → World → Prop} (hgd : o.guard = none) (s x : Operand)
    (ho : o.op = .call { callee := .builtin .append, args := #[s, x], argTypes := #[53, 53] })
    (base d : Nat) (v : Value) (M : List TV) (hs : a.eval s = v) (hown : TrOwn w base d v M)
    (B : Nat) (u : Value) (K : List TV) (hx : a.eval x = u) (hr : Rd w B 2 u K.length (trCells K)) (hK : ∀ t ∈ K, OwnInts w base t.2 (ints t.1.2) ∧ t.2.ownBlock ≠ some d)
    (hlen : M.length + K.length ≤ 1000000) (hbase : base ≤ w.heap.size)
    (h : ∀ q c w', TrOwn w' base d (.slice q (M.length + K.length) c) (M ++ K) → w.grownBy w' v.ownBlock → ((Value.slice q (M.length + K.length) c).ownBlock = v.ownBlock ∨ (Value.slice q (M.length + K.length) c).ownBlock = some w.heap.size) → wpList Try.prog ops Q rest (a.put o.dst (.slice q (M.length + K.length) c)) w') :
    wpList Try.prog ops Q (o :: rest) a w := by
  refine wpList_plain hgd fun K2 hK2 => ?_
  obtain ⟨q, c, w', hrun, h2, h3, h4⟩ := run_append_tr w base d o.type v M hown B u K hr hK hlen hbase
  unfold Oper.wp execOp
  simp only [ho, resolve, invoke, builtin, Sem.run_bind, Sem.run_pure, Result.andThen_ok, List.map_toArray, List.map_cons, List.map_nil, hs, hx, hrun]
  exact hK2 _ _ (h q c w' h2 h3 h4)
/-- the same, at a step of a region that draws its order -/
theorem step_append_tr {w : World} {ops : Array Oper} {o : Oper} {a : Act} {K2 : Act → World → Prop} {Q : Exit → Act → World → Prop} {E : Prop} (hgd : o.guard = none) (s x : Operand)
    (ho : o.op = .call { callee := .builtin .append, args := #[s, x], argTypes := #[53, 53] })
    (base d : Nat) (v : Value) (M : List TV) (hs : a.eval s = v) (hown : TrOwn w base d v M)
    (B : Nat) (u : Value) (K : List TV) (hx : a.eval x = u) (hr : Rd w B 2 u K.length (trCells K)) (hK : ∀ t ∈ K, OwnInts w base t.2 (ints t.1.2) ∧ t.2.ownBlock ≠ some d)
    (hlen : M.length + K.length ≤ 1000000) (hbase : base ≤ w.heap.size)
    (h : ∀ q c w', TrOwn w' base d (.slice q (M.length + K.length) c) (M ++ K) → w.grownBy w' v.ownBlock → ((Value.slice q (M.length + K.length) c).ownBlock = v.ownBlock ∨ (Value.slice q (M.length + K.length) c).ownBlock = some w.heap.size) → K2 (a.put o.dst (.slice q (M.length + K.length) c)) w') :
    if Region.wanted o (yielded ops a.tmps) = true then Oper.wp Try.prog o a w K2 Q else E := by
  have hw : Region.wanted o (yielded ops a.tmps) = true := by simp [Region.wanted, hgd]
  rw [if_pos hw]
  obtain ⟨q, c, w', hrun, h2, h3, h4⟩ := run_append_tr w base d o.type v M hown B u K hr hK hlen hbase
  unfold Oper.wp execOp
  simp only [ho, resolve, invoke, builtin, Sem.run_bind, Sem.run_pure, Result.andThen_ok, List.map_toArray, List.map_cons, List.map_nil, hs, hx, hrun]
  exact h q c w' h2 h3 h4
end Go.Proofs.Ytegjkhhgihcdcaa
