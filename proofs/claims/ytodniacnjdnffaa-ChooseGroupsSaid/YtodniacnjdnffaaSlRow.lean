/- Rows of slices of ints. -/
import Derived.Test.YtodniacnjdnffaaEnvK
import Derived.Test.YtodniacnjdnffaaIter
namespace Go.Proofs.Ytodniacnjdnffaa
open Go.RowKit Go.Shelf
set_option linter.unusedVariables false

/-- a slice, and what it reads -/
abbrev SV := Value × List Int
/-- v reads as a row of slices -/
def IsSl (w : World) (B : Nat) (v : Value) (L : List SV) : Prop := Rd w B 1 v L.length (L.map (·.1)) ∧ ∀ p ∈ L, IsInts w B p.1 p.2
theorem IsSl.below {w w' : World} {B B' : Nat} {v : Value} {L : List SV} (h : IsSl w B v L) (hB : Below B' w w') (hle : B ≤ B') : IsSl w' B v L := ⟨h.1.below hB hle, fun p hp => (h.2 p hp).below hB hle⟩
theorem IsSl.mono {w : World} {B B' : Nat} {v : Value} {L : List SV} (h : IsSl w B v L) (hle : B ≤ B') : IsSl w B' v L := ⟨h.1.mono hle, fun p hp => (h.2 p hp).mono hle⟩
theorem IsSl.up {w w' : World} {v : Value} {L : List SV} (h : IsSl w w.heap.size v L) (hB : Below w.heap.size w w') : IsSl w' w'.heap.size v L := (h.below hB (Nat.le_refl _)).mono hB.size
theorem IsSl.nil (w : World) (B : Nat) : IsSl w B (.slice none 0 0) [] := ⟨Rd.nil w B 1, fun p hp => by simp at hp⟩
theorem IsSl.shape {w : World} {B : Nat} {v : Value} {L : List SV} (h : IsSl w B v L) : ∃ q c, v = .slice q L.length c ∧ L.length ≤ c ∧ c ≤ maxLen := by
  obtain ⟨_, A, c, e, h1, h2, _⟩ := h.1
  exact ⟨A, c, e, h1, h2⟩
theorem IsSl.at {w : World} {B n c : Nat} {q : Option Addr} {L : List SV} (h : IsSl w B (.slice q n c) L) (i : Nat) (p : SV) (hp : L[i]? = some p) : ∃ g o, q = some ⟨g, o, none⟩ ∧ g < B ∧ w.cell? ⟨g, o + i, none⟩ = some p.1 ∧ IsInts w B p.1 p.2 := by
  have hi := (List.getElem?_eq_some_iff.1 hp).1
  obtain ⟨_, g, o, x, hA, hg, hx, hc⟩ := Rd.one h.1 i hi
  rw [List.getElem?_map, hp] at hx
  injection hx with hx
  exact ⟨g, o, hA, hg, by rw [hc, ← hx], h.2 p (List.mem_of_getElem? hp)⟩
/-- a row of slices of one's own, each of them, too -/
structure SlOwn (w : World) (base : Nat) (v : Value) (L : List SV) : Prop where
  own : w.ownsRow base 22 1 v L.length (L.map (·.1))
  has : ∀ p ∈ L, OwnInts w base p.1 p.2
theorem SlOwn.nil (w : World) (base : Nat) : SlOwn w base (.slice none 0 0) [] := ⟨World.ownsRow_nil _ _ _ _, fun p hp => by simp at hp⟩
theorem SlOwn.is {w : World} {base : Nat} {v : Value} {L : List SV} (h : SlOwn w base v L) : IsSl w w.heap.size v L := ⟨Rd.own h.own, fun p hp => (h.has p hp).is⟩
theorem SlOwn.shape {w : World} {base : Nat} {v : Value} {L : List SV} (h : SlOwn w base v L) : ∃ q c, v = .slice q L.length c := slice_len h.own
theorem SlOwn.below {w w' : World} {base : Nat} {v : Value} {L : List SV} (h : SlOwn w base v L) (hB : Below w.heap.size w w') : SlOwn w' base v L := ⟨ownsRow_below h.own hB, fun p hp => (h.has p hp).below hB⟩
theorem SlOwn.mono {w : World} {base b2 : Nat} {v : Value} {L : List SV} (h : SlOwn w base v L) (hb : b2 ≤ base) : SlOwn w b2 v L := ⟨ownsRow_mono h.own hb, fun p hp => (h.has p hp).mono hb⟩
/-- a row of one's own is kept where no block of cells turns -/
theorem own_quiet {W W' : World} {base e size n : Nat} {v : Value} {xs : List Value} {row : Option Nat} (h : W.ownsRow base e size v n xs) (hg : W.grownBy W' row) (hr : ∀ r, row = some r → ∃ o : Obj, W.heap[r]? = some o ∧ o.isCells = false) : W'.ownsRow base e size v n xs := by
  refine World.ownsRow.kept h hg ?_
  cases hv : v.ownBlock with
  | none => exact .inl rfl
  | some g =>
    refine .inr fun e' => ?_
    obtain ⟨o, h1, h2⟩ := hr g e'.symm
    obtain ⟨c, hc⟩ := own_heap h hv
    rw [h1] at hc
    injection hc with hc
    rw [hc] at h2
    cases h2
theorem SlOwn.quiet {W W' : World} {base : Nat} {v : Value} {L : List SV} {row : Option Nat} (h : SlOwn W base v L) (hg : W.grownBy W' row) (hr : ∀ r, row = some r → ∃ o : Obj, W.heap[r]? = some o ∧ o.isCells = false) : SlOwn W' base v L := ⟨own_quiet h.own hg hr, fun p hp => own_quiet (h.has p hp) hg hr⟩
theorem isInts_quiet {W W' : World} {row : Option Nat} {v : Value} {xs : List Int} (h : IsInts W W.heap.size v xs) (hg : W.grownBy W' row) (hr : ∀ r, row = some r → ∃ o : Obj, W.heap[r]? = some o ∧ o.isCells = false) : IsInts W' W'.heap.size v xs := by
  obtain ⟨h1, A, cap, hv, h2, h3, h4⟩ := h
  refine ⟨h1, A, cap, hv, h2, h3, fun hn => ?_⟩
  obtain ⟨g, o, hA, hgs, hc⟩ := h4 hn
  exact ⟨g, o, hA, Nat.lt_of_lt_of_le hgs hg.size, fun i x hx => cell_kept (hc i x hx) hg hr⟩
/-- a cell below the base is written -/
theorem ownsRow_far {w : World} {base e size n g i : Nat} {v u : Value} {xs : List Value} (h : w.ownsRow base e size v n xs) (hg : g < base) : (w.setCell ⟨g, i, none⟩ u).ownsRow base e size v n xs := by
  refine ⟨h.1, ?_⟩
  rcases h.2 with h0 | ⟨k, cap, cur, e1, e2, e3, e4⟩
  · exact .inl h0
  · exact .inr ⟨k, cap, cur, e1, e2, (Below.heap_setCell w ⟨g, i, none⟩ u k (by show k ≠ g; omega)).trans e3, e4⟩
theorem SlOwn.far {w : World} {base g i : Nat} {v u : Value} {L : List SV} (h : SlOwn w base v L) (hg : g < base) : SlOwn (w.setCell ⟨g, i, none⟩ u) base v L := ⟨ownsRow_far h.own hg, fun p hp => ownsRow_far (h.has p hp) hg⟩
theorem sl_info : (Try.prog.info? 22).map (fun i => (i.zero, i.size, i.bytes)) = some (some (.slice none 0 0), 1, 24) := by kernel_rfl
theorem sl_int : (22 : TypeId) ≠ 3 := by decide
theorem own_one' {w : World} {base : Nat} {v : Value} {xs : List Int} (h : OwnInts w base v xs) : v.oneCell' = true := by
  obtain ⟨q, c, rfl⟩ := h.shape
  rfl
/-- an append of one slice -/
theorem run_append_sl (w : World) (base : Nat) (ty : TypeId) (v : Value) (L : List SV) (ho : SlOwn w base v L) (k : Nat) (p : SV) (hk : w.heap[k]? = some (.cells #[p.1] 22 (0, 0))) (hp : OwnInts w base p.1 p.2)
    (hlen : L.length ≤ 1000000) (hbase : base ≤ w.heap.size) :
    ∃ q c w', (Builtin.append_ #[26, 26] ty #[v, .slice (some ⟨k, 0, none⟩) 1 1]).run Try.prog w = .ok (.slice q (L.length + 1) c) w' ∧ SlOwn w' base (.slice q (L.length + 1) c) (L ++ [p]) ∧ w.grownBy w' v.ownBlock := by
  obtain ⟨i0, hi, hz0, hz1, hz2⟩ := info_parts sl_info
  have hr : Rd w (k + 1) 1 (.slice (some ⟨k, 0, none⟩) 1 1) 1 [p.1] := ⟨rfl, _, 1, rfl, Nat.le_refl _, by simp [maxLen], fun _ => ⟨k, 0, rfl, Nat.lt_succ_self _, fun i u hu => by
    rw [Nat.zero_add, cell_of_heap hk, ← hu]
    simp⟩⟩
  obtain ⟨v', w', hrun, h2, h3, h4⟩ := run_append_rd (P := Try.prog) w base 26 ty 22 i0 (.slice none 0 0) 1 24 Try.underlying26 hi hz0 hz1 hz2 rfl (by decide) v L.length (L.map (·.1)) ho.own (k + 1) 1 _ [p.1] hr (fun u hu => by simp at hu; subst hu; exact own_one' hp) (by unfold maxLen; omega) (by omega) hbase
  have h5 : w'.ownsRow base 22 1 v' (L ++ [p]).length ((L ++ [p]).map (·.1)) := by
    rw [List.length_append, List.map_append]
    exact h2
  have keep : ∀ (x : Value) (xs : List Int), OwnInts w base x xs → OwnInts w' base x xs := fun x xs hx => by
    refine World.ownsRow.kept hx h3 ?_
    cases hx0 : x.ownBlock with
    | none => exact .inl rfl
    | some g =>
      refine .inr fun e => ?_
      obtain ⟨c1, hc1⟩ := own_heap hx hx0
      obtain ⟨c2, hc2⟩ := own_heap ho.own e.symm
      rw [hc1] at hc2
      injection hc2 with hc2
      injection hc2 with _ hc2
      exact sl_int hc2.symm
  have h6 : SlOwn w' base v' (L ++ [p]) := ⟨h5, fun t ht => by
    rcases List.mem_append.1 ht with ht | ht
    · exact keep _ _ (ho.has t ht)
    · simp at ht
      subst ht
      exact keep _ _ hp⟩
  obtain ⟨q, c, rfl⟩ := h6.shape
  rw [List.length_append] at hrun h6
  exact ⟨q, c, w', hrun, h6, h3⟩
theorem oper_append_sl {w : World} {o : Oper} {a : Act} {K : Act → World → Prop} {Q : Exit → Act → World → Prop} (s x : Operand)
    (ho : o.op = .call { callee := .builtin .append, args := #[s, x], argTypes := #[26, 26] })
    (base : Nat) (v : Value) (L : List SV) (hs : a.eval s = v) (hown : SlOwn w base v L) (k : Nat) (p : SV) (hx : a.eval x = .slice (some ⟨k, 0, none⟩) 1 1) (hk : w.heap[k]? = some (.cells #[p.1] 22 (0, 0))) (hp : OwnInts w base p.1 p.2)
    (hlen : L.length ≤ 1000000) (hbase : base ≤ w.heap.size)
    (h : ∀ q c w', SlOwn w' base (.slice q (L.length + 1) c) (L ++ [p]) → w.grownBy w' v.ownBlock → K (a.put o.dst (.slice q (L.length + 1) c)) w') : Oper.wp Try.prog o a w K Q := by
  obtain ⟨q, c, w', hrun, h2, h3⟩ := run_append_sl w base o.type v L hown k p hk hp hlen hbase
  unfold Oper.wp execOp
  simp only [ho, resolve, invoke, builtin, Sem.run_bind, Sem.run_pure, Result.andThen_ok, List.map_toArray, List.map_cons, List.map_nil, hs, hx, hrun]
  exact h q c w' h2 h3
theorem wpList_append_sl {w : World} {ops : Array Oper} {rest : List Oper} {o : Oper} {a : Act} {Q : Exit → Act → World → Prop} (hgd : o.guard = none) (s x : Operand)
    (ho : o.op = .call { callee := .builtin .append, args := #[s, x], argTypes := #[26, 26] })
    (base : Nat) (v : Value) (L : List SV) (hs : a.eval s = v) (hown : SlOwn w base v L) (k : Nat) (p : SV) (hx : a.eval x = .slice (some ⟨k, 0, none⟩) 1 1) (hk : w.heap[k]? = some (.cells #[p.1] 22 (0, 0))) (hp : OwnInts w base p.1 p.2)
    (hlen : L.length ≤ 1000000) (hbase : base ≤ w.heap.size)
    (h : ∀ q c w', SlOwn w' base (.slice q (L.length + 1) c) (L ++ [p]) → w.grownBy w' v.ownBlock → wpList Try.prog ops Q rest (a.put o.dst (.slice q (L.length + 1) c)) w') :
    wpList Try.prog ops Q (o :: rest) a w :=
  wpList_plain hgd fun K hK => oper_append_sl s x ho base v L hs hown k p hx hk hp hlen hbase fun q c w' h1 h2 => hK _ _ (h q c w' h1 h2)
theorem loadVar_sl (a : Addr) (w : World) (v : Value) (hc : w.cell? a = some v) : (loadVar 26 a).run Try.prog w = .ok v w := by
  simp [loadVar, isAgg, hc]
end Go.Proofs.Ytodniacnjdnffaa
