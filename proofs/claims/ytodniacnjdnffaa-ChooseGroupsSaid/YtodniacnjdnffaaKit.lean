/- Words for every walk: blocks, rows of one's own, appends. -/
import Derived.Test.YtodniacnjdnffaaMem
import Derived.Test.YtodniacnjdnffaaLift
import Derived.Laws.OwnMore
import Derived.Deep.AppendLies
import Derived.OwnWalk
import Derived.Shelf.Abstract
import Derived.Deep.QuietTactic
import Derived.BigQuiet
namespace Go.Proofs.Ytodniacnjdnffaa
open Go.RowKit
set_option linter.unusedVariables false

theorem ret_int {k : IntKind} {a b : Int} (h : a = b) : Ending.returned (.int k a) = .returned (.int k b) := by rw [h]
theorem ret_bool {a b : Bool} (h : a = b) : Ending.returned (.bool a) = .returned (.bool b) := by rw [h]
theorem bcell {W w1 : World} (hb : Below W.heap.size W w1) : (∀ b o, b < W.heap.size → w1.cell? ⟨b, o, none⟩ = W.cell? ⟨b, o, none⟩) ∧ (∀ b o, b < W.heap.size → w1.frozen? ⟨b, o, none⟩ = W.frozen? ⟨b, o, none⟩) :=
  ⟨fun b o h => hb.cell (p := ⟨b, o, none⟩) h, fun b o h => hb.frozen (p := ⟨b, o, none⟩) h⟩
theorem cell_of_heap {w : World} {b : Nat} {cs : Array Value} {t : TypeId} (h : w.heap[b]? = some (.cells cs t (0, 0))) (i : Nat) : w.cell? ⟨b, i, none⟩ = cs[i]? := by
  simp [World.cell?, h]
theorem frozen_of_heap {w : World} {b : Nat} {cs : Array Value} {t : TypeId} (h : w.heap[b]? = some (.cells cs t (0, 0))) (i : Nat) : w.frozen? ⟨b, i, none⟩ = false := by
  simp [World.frozen?, h]
theorem lt_of_heap {w : World} {b : Nat} {o : Obj} (h : w.heap[b]? = some o) : b < w.heap.size := by
  rcases Nat.lt_or_ge b w.heap.size with hlt | hge
  · exact hlt
  · rw [Array.getElem?_eq_none hge] at h; cases h
theorem heap_set_ {w : World} {b : Nat} {cs : Array Value} {t : TypeId} (h : w.heap[b]? = some (.cells cs t (0, 0))) (i : Nat) (u : Value) :
    (w.setCell ⟨b, i, none⟩ u).heap[b]? = some (.cells (cs.setIfInBounds i u) t (0, 0)) := by
  simp [World.setCell, Array.getElem?_modify, h]
theorem own_heap {w : World} {base : Nat} {e : TypeId} {size n : Nat} {v : Value} {xs : List Value} {g : Nat} (h : w.ownsRow base e size v n xs) (hg : v.ownBlock = some g) : ∃ c, w.heap[g]? = some (.cells c e (0, 0)) := by
  rcases h.2 with ⟨rfl, _⟩ | ⟨g', cap, cur, rfl, _, hh, _⟩
  · simp [Value.ownBlock] at hg
  · have : g' = g := by simpa [Value.ownBlock] using hg
    subst this
    exact ⟨_, hh⟩
theorem heap_up {w : World} {k : Nat} {o : Obj} (o' : Obj) (h : w.heap[k]? = some o) : (w.alloc o').heap[k]? = some o := (Below.heap_alloc w o' k (lt_of_heap h)).trans h
theorem heap_new (w : World) (o : Obj) (k : Nat) (h : k = w.heap.size) : (w.alloc o).heap[k]? = some o := by subst h; exact heap_alloc_new w o
theorem hmf : ∀ (fn : Fn) (first cap : Array Value) (w : World), (Instr.makeFunc fn first cap).run Try.prog w = .ok (.func fn first cap) w := fun _ _ _ _ => rfl
theorem int_info2 : (Try.prog.info? 3).map (fun i => (i.zero, i.size, i.bytes)) = some (some (.int .i64 0), 1, 8) := by kernel_rfl
theorem slice_of_row {W : World} {base : Nat} {e : TypeId} {size : Nat} {v : Value} {k : Nat} {xs : List Value} (h : W.ownsRow base e size v k xs) : ∃ q l c, v = .slice q l c := by
  rcases h.2 with ⟨rfl, _⟩ | ⟨g, cap, cur, rfl, _⟩
  · exact ⟨_, _, _, rfl⟩
  · exact ⟨_, _, _, rfl⟩
theorem ownsRow_mono {W : World} {base b2 : Nat} {e : TypeId} {size : Nat} {v : Value} {k : Nat} {xs : List Value} (h : W.ownsRow base e size v k xs) (hb : b2 ≤ base) : W.ownsRow b2 e size v k xs := by
  refine ⟨h.1, ?_⟩
  rcases h.2 with h0 | ⟨g, cap, cur, e1, e2, e3⟩
  · exact .inl h0
  · exact .inr ⟨g, cap, cur, e1, by omega, e3⟩
theorem boxed_new (w : World) (t : TypeId) (v : Value) (k : Nat) (h : k = w.heap.size) : Boxed (w.alloc (.cells #[v] t)) k t v := by subst h; exact Boxed.new w t v
/-- behind 'out = append(out, ..)' where the box lies below the row's base -/
theorem boxed_appended {W w1 : World} {base B : Nat} {t e : TypeId} {size : Nat} {v v' : Value} {k m : Nat} {xs ys : List Value} {tmp : Obj}
    (hv : Boxed W B t v) (hte : t ≠ e) (hrow : W.ownsRow base e size v k xs) (hbase : base ≤ W.heap.size)
    (hown' : w1.ownsRow base e size v' m ys) (hgrow : (W.alloc tmp).grownBy w1 v.ownBlock) :
    Boxed w1 B t v ∧ Boxed (w1.setCell ⟨B, 0, none⟩ v') B t v' ∧ (w1.setCell ⟨B, 0, none⟩ v').ownsRow base e size v' m ys ∧ KeepsOthers W (w1.setCell ⟨B, 0, none⟩ v') ∧ (∀ b, b < base → b ≠ B → (w1.setCell ⟨B, 0, none⟩ v').heap[b]? = W.heap[b]?) ∧ (∀ n₀, n₀ ≤ base → n₀ ≤ B → Below n₀ W (w1.setCell ⟨B, 0, none⟩ v')) := by
  have hrow' := hrow.2
  have hblk : ∀ j, v.ownBlock = some j → base ≤ j := fun j ej => by
    rcases hrow' with ⟨rfl, _⟩ | ⟨g, cap, cur, rfl, hb, _, _⟩
    · simp [Value.ownBlock] at ej
    · obtain rfl : g = j := by simpa [Value.ownBlock] using ej
      exact hb
  have hv1 : Boxed w1 B t v := (hv.alloc tmp).kept hgrow (hv.not_row hte hrow)
  refine ⟨hv1, hv1.set v', hown'.kept (grownBy_setCell' w1 B v') (.inr (hv1.not_row hte hown').symm), ?_, ?_, ?_⟩
  · refine ((KeepsOthers.alloc W tmp).trans (KeepsOthers.of_grownBy hgrow fun j o ej hj => ?_)).trans (KeepsOthers.setCell _ _ _)
    rcases (hrow.alloc tmp).2 with ⟨rfl, _⟩ | ⟨g, cap, cur, rfl, _, hgb, _⟩
    · simp [Value.ownBlock] at ej
    · obtain rfl : g = j := by simpa [Value.ownBlock] using ej
      rw [hgb] at hj; cases hj; rfl
  · intro b hb hne
    rw [Below.heap_setCell _ _ _ _ hne]
    rw [hgrow.block b (by simp; omega) (fun e => by have := hblk b e.symm; omega)]
    exact Below.heap_alloc _ _ _ (by omega)
  · intro n₀ h1 h2
    exact (((Below.refl n₀ W).alloc (by omega) tmp).grown hgrow (by simp; omega) fun j ej => by have := hblk j ej; omega).setCell (p := ⟨B, 0, none⟩) h2 v'
theorem results_cell1 {fn : Func} {p : Tmp} {ty : TypeId} (h : fn.results = #[.cell p ty]) (tmps : Array Value) (P : Program) (w : World) (a : Addr) (v : Value) (hp : tmps.getD p undef = .pointer (some a)) (hl : (loadVar ty a).run P w = .ok v w) : (results fn tmps).run P w = .ok v w := by
  have hp' : tmps[p]?.getD undef = .pointer (some a) := by simpa using hp
  simp [results, h, hp', asAddr, hl]
theorem beq_cast (a b : Nat) : ((a : Int) == (b : Int)) = (a == b) := by
  rw [Bool.eq_iff_iff]; simp [Int.ofNat_inj]
theorem loadVar_ints (a : Addr) (w : World) (v : Value) (hc : w.cell? a = some v) : (loadVar 22 a).run Try.prog w = .ok v w := by
  simp [loadVar, isAgg, hc]
theorem ownsRow_below {W W' : World} {base e size k : Nat} {v : Value} {xs : List Value} (h : W.ownsRow base e size v k xs) (hB : Below W.heap.size W W') : W'.ownsRow base e size v k xs := by
  refine ⟨h.1, ?_⟩
  rcases h.2 with h0 | ⟨g, cap, cur, e1, e2, e3, e4⟩
  · exact .inl h0
  · exact .inr ⟨g, cap, cur, e1, e2, (hB.block g (lt_of_heap e3)).trans e3, e4⟩
theorem slice_len {W : World} {base e : Nat} {v : Value} {k : Nat} {xs : List Value} (h : W.ownsRow base e 1 v k xs) : ∃ q c, v = .slice q k c := by
  rcases h.2 with ⟨rfl, rfl⟩ | ⟨g, cap, cur, rfl, _⟩
  · exact ⟨_, _, rfl⟩
  · exact ⟨_, _, rfl⟩
theorem own_ge {W : World} {base e size k j : Nat} {v : Value} {xs : List Value} (h : W.ownsRow base e size v k xs) (ej : v.ownBlock = some j) : base ≤ j := by
  rcases h.2 with ⟨rfl, _⟩ | ⟨g, cap, cur, rfl, hb, _⟩
  · simp [Value.ownBlock] at ej
  · obtain rfl : g = j := by simpa [Value.ownBlock] using ej
    exact hb
def pickF (c n : Int) : Int := (if c < 0 then -(c + 1) else c) % n
theorem pickF_lt (c n : Int) (h : 0 < n) : 0 ≤ pickF c n ∧ pickF c n < n := ⟨Int.emod_nonneg _ (by omega), Int.emod_lt_of_pos _ h⟩
/-- the first bytes of a text -/
def front (s : ByteArray) (n : Nat) : ByteArray := s.extract 0 n
theorem front_size (s : ByteArray) (n : Nat) (h : n ≤ s.size) : (front s n).size = n := by simp [front]; omega
/-- ints of naturals -/
def ints (l : List Nat) : List Int := l.map fun a : Nat => (a : Int)
theorem length_ints (l : List Nat) : (ints l).length = l.length := by simp [ints]

/-- a row of ints of one's own -/
def OwnInts (w : World) (base : Nat) (v : Value) (xs : List Int) : Prop := w.ownsRow base 3 1 v xs.length (intCells xs)
theorem OwnInts.nil (w : World) (base : Nat) : OwnInts w base (.slice none 0 0) [] := World.ownsRow_nil _ _ _ _
theorem OwnInts.is {w : World} {base : Nat} {v : Value} {xs : List Int} (h : OwnInts w base v xs) : IsInts w w.heap.size v xs := Rd.own h
theorem OwnInts.below {w w' : World} {base : Nat} {v : Value} {xs : List Int} (h : OwnInts w base v xs) (hB : Below w.heap.size w w') : OwnInts w' base v xs := ownsRow_below h hB
theorem OwnInts.mono {w : World} {base b2 : Nat} {v : Value} {xs : List Int} (h : OwnInts w base v xs) (hb : b2 ≤ base) : OwnInts w b2 v xs := ownsRow_mono h hb
theorem OwnInts.shape {w : World} {base : Nat} {v : Value} {xs : List Int} (h : OwnInts w base v xs) : ∃ q c, v = .slice q xs.length c := slice_len h
theorem OwnInts.alloc {w : World} {base : Nat} {v : Value} {xs : List Int} (h : OwnInts w base v xs) (o : Obj) : OwnInts (w.alloc o) base v xs := World.ownsRow.alloc h o
theorem IsInts.nil (w : World) (B : Nat) : IsInts w B (.slice none 0 0) [] := Rd.nil w B 1
theorem IsInts.keep {w w' : World} {B : Nat} {v : Value} {xs : List Int} (h : IsInts w B v xs) (hk : ∀ j o, j < B → w'.cell? ⟨j, o, none⟩ = w.cell? ⟨j, o, none⟩) : IsInts w' B v xs := Rd.keep h hk
/-- what a literal has just made -/
theorem IsInts.new (w : World) (xs : List Int) (cs : Array Value) (k n : Nat) (hk : k = w.heap.size) (hn : n = xs.length) (h : cs.toList = intCells xs) (hl : xs.length ≤ maxLen) :
    IsInts (w.alloc (.cells cs 3)) (w.heap.size + 1) (.slice (some ⟨k, 0, none⟩) n n) xs := by
  subst hk hn
  have hs : cs.size = xs.length * 1 := by rw [← Array.length_toList, h, length_intCells]; omega
  have := Rd.new w cs 3 1 xs.length hs hl
  rw [h] at this
  exact this

theorem run_append_rd {P : Program} (w : World) (base : Nat) (t ty e : TypeId) (i : TypeInfo) (z : Value) (size bytes : Nat) (ht : P.underlying t = some (.slice e)) (hi : P.info? e = some i) (hz : i.zero = some z)
    (hsize : i.size = size) (hby : i.bytes = bytes) (hzs : z.cells.size = size) (hsz : 0 < size)
    (v : Value) (n : Nat) (xs : List Value) (hown : w.ownsRow base e size v n xs)
    (B m : Nat) (u : Value) (news : List Value) (hr : Rd w B size u m news) (h1 : ∀ c ∈ news, c.oneCell' = true)
    (h63 : n + m ≤ maxLen) (hbytes : (n + m) * bytes ≤ 140737488355328) (hbase : base ≤ w.heap.size) :
    ∃ v' w', (Builtin.append_ #[t, t] ty #[v, u]).run P w = .ok v' w' ∧ w'.ownsRow base e size v' (n + m) (xs ++ news) ∧ w.grownBy w' v.ownBlock ∧ (v'.ownBlock = v.ownBlock ∨ v'.ownBlock = some w.heap.size) := by
  obtain ⟨hl, A, cap, rfl, hc1, hc2, hc3⟩ := hr
  cases A with
  | none =>
    have hm : m = 0 := by
      rcases Nat.eq_zero_or_pos m with h0 | h0
      · exact h0
      · obtain ⟨g, o, hq, _⟩ := hc3 h0; cases hq
    subst hm
    have hn : news = [] := List.eq_nil_of_length_eq_zero (by simpa using hl)
    subst hn
    refine ⟨v, w, ?_, by simpa using hown, World.grownBy.refl w _, .inl rfl⟩
    rcases hown.2 with ⟨rfl, rfl⟩ | ⟨g, cp, cur, rfl, _, _, hnc, _⟩
    · simp [Builtin.append_, run_underlying ht, sizeOf, typeInfo, hi, Builtin.lenOf, Builtin.firstCells]
    · simp [Builtin.append_, run_underlying ht, sizeOf, typeInfo, hi, Builtin.lenOf, Builtin.firstCells, hnc, storeCells]
  | some ad =>
    have hcells : ∀ j c, news[j]? = some c → w.cell? (ad.add j) = some c := by
      intro j c hj
      rcases Nat.eq_zero_or_pos m with h0 | h0
      · subst h0
        have hn : news = [] := List.eq_nil_of_length_eq_zero (by simpa using hl)
        subst hn
        simp at hj
      · obtain ⟨g, o, hq, _, hc⟩ := hc3 h0
        injection hq with hq
        subst hq
        rw [show (⟨g, o, none⟩ : Addr).add j = ⟨g, o + j, none⟩ by unfold Addr.add; split <;> simp_all]
        exact hc j c hj
    obtain ⟨v', w', hrun, h2, h3, _, h5⟩ := run_append_own_at (P := P) w base t ty e i z size bytes ht hi hz hsize hby hzs hsz v n xs hown ad m cap news hl hcells h1 h63 hbytes hbase
    exact ⟨v', w', hrun, h2, h3, h5⟩
theorem wpList_append_rd {P : Program} {w : World} {ops : Array Oper} {rest : List Oper} {o : Oper} {a : Act} {Q : Exit → Act → World → Prop} (hgd : o.guard = none) (s x : Operand) (t : TypeId)
    (ho : o.op = .call { callee := .builtin .append, args := #[s, x], argTypes := #[t, t] })
    (base : Nat) (e : TypeId) (i : TypeInfo) (z : Value) (size bytes : Nat) (ht : P.underlying t = some (.slice e)) (hi : P.info? e = some i) (hz : i.zero = some z)
    (hsize : i.size = size) (hby : i.bytes = bytes) (hzs : z.cells.size = size) (hsz : 0 < size)
    (v : Value) (n : Nat) (xs : List Value) (hs : a.eval s = v) (hown : w.ownsRow base e size v n xs)
    (B m : Nat) (u : Value) (news : List Value) (hx : a.eval x = u) (hr : Rd w B size u m news) (h1 : ∀ c ∈ news, c.oneCell' = true)
    (h63 : n + m ≤ maxLen) (hbytes : (n + m) * bytes ≤ 140737488355328) (hbase : base ≤ w.heap.size)
    (h : ∀ v' w', w'.ownsRow base e size v' (n + m) (xs ++ news) → w.grownBy w' v.ownBlock → (v'.ownBlock = v.ownBlock ∨ v'.ownBlock = some w.heap.size) → wpList P ops Q rest (a.put o.dst v') w') :
    wpList P ops Q (o :: rest) a w := by
  refine wpList_plain hgd fun K hK => ?_
  obtain ⟨v', w', hrun, h2, h3, h4⟩ := run_append_rd (P := P) w base t o.type e i z size bytes ht hi hz hsize hby hzs hsz v n xs hown B m u news hr h1 h63 hbytes hbase
  unfold Oper.wp execOp
  simp only [ho, resolve, invoke, builtin, Sem.run_bind, Sem.run_pure, Result.andThen_ok, List.map_toArray, List.map_cons, List.map_nil, hs, hx, hrun]
  exact hK _ _ (h v' w' h2 h3 h4)
/-- an append of ints -/
theorem wpList_append_ints {w : World} {ops : Array Oper} {rest : List Oper} {o : Oper} {a : Act} {Q : Exit → Act → World → Prop} (hgd : o.guard = none) (s x : Operand)
    (ho : o.op = .call { callee := .builtin .append, args := #[s, x], argTypes := #[22, 22] })
    (base : Nat) (v : Value) (xs : List Int) (hs : a.eval s = v) (hown : OwnInts w base v xs)
    (B : Nat) (u : Value) (ys : List Int) (hx : a.eval x = u) (hr : IsInts w B u ys)
    (hlen : xs.length + ys.length ≤ 17592186044416) (hbase : base ≤ w.heap.size)
    (h : ∀ q c w', OwnInts w' base (.slice q (xs.length + ys.length) c) (xs ++ ys) → w.grownBy w' v.ownBlock → ((Value.slice q (xs.length + ys.length) c).ownBlock = v.ownBlock ∨ (Value.slice q (xs.length + ys.length) c).ownBlock = some w.heap.size) → wpList Try.prog ops Q rest (a.put o.dst (.slice q (xs.length + ys.length) c)) w') :
    wpList Try.prog ops Q (o :: rest) a w := by
  obtain ⟨i0, hi, hz0, hz1, hz2⟩ := info_parts int_info2
  refine wpList_append_rd hgd s x 22 ho base 3 i0 (.int .i64 0) 1 8 Try.underlying22 hi hz0 hz1 hz2 rfl (by decide) v xs.length (intCells xs) hs hown B ys.length u (intCells ys) hx hr (one_intCells ys) (by unfold maxLen; omega) (by omega) hbase ?_
  intro v' w' h2 h3 h4
  have h5 : OwnInts w' base v' (xs ++ ys) := by
    unfold OwnInts
    rw [List.length_append, intCells_append]
    exact h2
  obtain ⟨q, c, rfl⟩ := h5.shape
  rw [List.length_append] at *
  exact h q c w' h5 h3 h4

theorem addr_add (g o k : Nat) : (⟨g, o, none⟩ : Addr).add k = ⟨g, o + k, none⟩ := by unfold Addr.add; split <;> simp_all
/-- a part of a slice -/
theorem Rd.cut {w : World} {B k n l h cap : Nat} {A : Option Addr} {xs : List Value} (hr : Rd w B k (.slice A n cap) n xs) (h1 : l ≤ h) (h2 : h ≤ n) :
    Rd w B k (sliced A l h cap k) (h - l) ((xs.take (h * k)).drop (l * k)) := by
  obtain ⟨e1, A', cap', hv, e2, e3, e4⟩ := hr
  injection hv with a1 a2 a3
  subst a1 a3
  have hle : l * k ≤ h * k := Nat.mul_le_mul_right k h1
  have hle2 : h * k ≤ n * k := Nat.mul_le_mul_right k h2
  refine ⟨by rw [List.length_drop, List.length_take, e1, Nat.sub_mul]; omega, _, _, rfl, by omega, by omega, fun hn => ?_⟩
  obtain ⟨g, o, rfl, hg, hc⟩ := e4 (by omega)
  refine ⟨g, o + l * k, ?_, hg, fun i x hx => ?_⟩
  · rw [if_neg (by omega), Option.map_some, addr_add]
  · rw [List.getElem?_drop, List.getElem?_take] at hx
    split at hx
    · rw [show o + l * k + i = o + (l * k + i) by omega]; exact hc _ x hx
    · simp at hx
theorem elem_ints : Try.prog.elem 22 = 3 := by kernel_rfl
theorem sizeOf_int (w : World) : (sizeOf 3).run Try.prog w = .ok 1 w := by
  obtain ⟨i0, hi, _, hz1, _⟩ := info_parts int_info2
  simp [sizeOf, typeInfo, hi, hz1]
theorem under_ints : Try.prog.underlying 22 = some (.slice (Try.prog.elem 22)) := by rw [elem_ints]; exact Try.underlying22
/-- a part of ints: what the walk is told of it -/
theorem IsInts.cut {w : World} {B n cap : Nat} {A : Option Addr} {xs : List Int} (hv : IsInts w B (.slice A n cap) xs) (l h : Nat) (h1 : l ≤ h) (h2 : h ≤ n) :
    ∃ v, IsInts w B v ((xs.take h).drop l) ∧ (∃ q c, v = .slice q (h - l) c) ∧ (∀ W, (Instr.slice 22 (.slice A n cap) (some (.int .i64 (l : Int))) (some (.int .i64 (h : Int))) none).run Try.prog W = .ok v W) ∧
      (h = n → ∀ W, (Instr.slice 22 (.slice A n cap) (some (.int .i64 (l : Int))) none none).run Try.prog W = .ok v W) ∧ (l = 0 → ∀ W, (Instr.slice 22 (.slice A n cap) none (some (.int .i64 (h : Int))) none).run Try.prog W = .ok v W) := by
  obtain ⟨q, c, e, hc1, hc2⟩ := hv.shape
  injection e with e1 e2 e3
  subst e1 e2 e3
  refine ⟨sliced A l h cap 1, ?_, ⟨_, _, rfl⟩, fun W => ?_, fun e W => ?_, fun e W => ?_⟩
  · have hr := Rd.cut (l := l) (h := h) (show Rd w B 1 (.slice A xs.length cap) xs.length (intCells xs) from hv) h1 h2
    unfold IsInts
    have e5 : ((intCells xs).take (h * 1)).drop (l * 1) = intCells ((xs.take h).drop l) := by simp [intCells]
    have e6 : ((xs.take h).drop l).length = h - l := by rw [List.length_drop, List.length_take]; omega
    rw [e5] at hr
    rw [e6]; exact hr
  · rw [run_slice_lh W _ _ _ _ under_ints _ _ _ _ (by omega) (by omega) (by omega), elem_ints, sizeOf_int]; rfl
  · subst e
    rw [run_slice_l W _ _ _ _ under_ints _ _ (by omega) (by omega), elem_ints, sizeOf_int]; rfl
  · subst e
    rw [run_slice_h W _ _ _ _ under_ints _ _ (by omega) (by omega), elem_ints, sizeOf_int]; rfl

/-- what a literal, or a make, has just made, as one's own -/
theorem OwnInts.new (w : World) (base : Nat) (xs : List Int) (cs : Array Value) (k n : Nat) (hk : k = w.heap.size) (hn : n = xs.length) (h : cs.toList = intCells xs) (hl : xs.length ≤ maxLen) (hb : base ≤ w.heap.size) :
    OwnInts (w.alloc (.cells cs 3)) base (.slice (some ⟨k, 0, none⟩) n n) xs := by
  subst hk hn
  have hs : cs.size = xs.length := by rw [← Array.length_toList, h, length_intCells]
  refine ⟨by rw [length_intCells]; omega, .inr ⟨w.heap.size, xs.length, cs, rfl, hb, heap_alloc_new w _, Nat.le_refl _, hl, by omega, ?_⟩⟩
  rw [h, List.take_of_length_le (by rw [length_intCells]; omega)]
/-- make of ints -/
theorem run_make_ints (n : Nat) (hn : n ≤ 17592186044416) : ∃ cs : Array Value, cs.toList = intCells (List.replicate n 0) ∧ ∀ W, (Instr.makeSlice 22 (.int .i64 (n : Int)) (.int .i64 (n : Int))).run Try.prog W = .ok (.slice (some ⟨W.heap.size, 0, none⟩) n n) (W.alloc (.cells cs 3)) := by
  obtain ⟨i0, hi, hz0, hz1, hz2⟩ := info_parts int_info2
  refine ⟨madeCells #[.int .i64 0] (n * 1), ?_, fun W => ?_⟩
  · rw [toList_madeCells_one, Nat.mul_one]; simp [intCells]
  · have := run_make (P := Try.prog) W 22 3 i0 (.int .i64 0) Try.underlying22 hi hz0 .i64 .i64 n n (by omega) (by omega) (by rw [hz2]; omega) (by omega)
    rw [hz1, Int.toNat_natCast] at this
    exact this

/-- since w0 nothing of w0 has changed, and these slices read so -/
def Live (w0 W : World) (l : List (Value × List Int)) : Prop := Below w0.heap.size w0 W ∧ ∀ p ∈ l, IsInts W W.heap.size p.1 p.2
theorem Live.nil (w : World) : Live w w [] := ⟨Below.refl _ _, fun p hp => by simp at hp⟩
theorem Live.bel {w0 W : World} {l : List (Value × List Int)} (h : Live w0 W l) : Below w0.heap.size w0 W := h.1
theorem Live.step {w0 W W' : World} {l : List (Value × List Int)} (h : Live w0 W l) (hB : Below W.heap.size W W') : Live w0 W' l :=
  ⟨h.1.trans (hB.mono h.1.size), fun p hp => ((h.2 p hp).below hB (Nat.le_refl _)).mono hB.size⟩
theorem Live.add {w0 W : World} {l : List (Value × List Int)} {v : Value} {xs : List Int} (h : Live w0 W l) (hv : IsInts W W.heap.size v xs) : Live w0 W ((v, xs) :: l) :=
  ⟨h.1, fun p hp => by
    rcases List.mem_cons.1 hp with rfl | hp
    · exact hv
    · exact h.2 p hp⟩
theorem Live.get {w0 W : World} {l : List (Value × List Int)} {v : Value} {xs : List Int} (h : Live w0 W l) (i : Nat) (hi : l[i]? = some (v, xs)) : IsInts W W.heap.size v xs := h.2 (v, xs) (List.mem_of_getElem? hi)
theorem Live.drew {w0 W : World} {l : List (Value × List Int)} (h : Live w0 W l) : Live w0 W.drew l := h.step (Below.refl _ W).drew
theorem Live.drewN {w0 W : World} {l : List (Value × List Int)} (h : Live w0 W l) (n : Nat) : Live w0 (W.drewN n) l := h.step (below_drewN (Below.refl _ W) n)
theorem Live.alloc {w0 W : World} {l : List (Value × List Int)} (h : Live w0 W l) (o : Obj) : Live w0 (W.alloc o) l := h.step ((Below.refl _ W).alloc (Nat.le_refl _) o)
theorem Live.drop {w0 W : World} {l m : List (Value × List Int)} (h : Live w0 W l) (hm : ∀ p ∈ m, p ∈ l) : Live w0 W m := ⟨h.1, fun p hp => h.2 p (hm p hp)⟩
theorem Live.lit {w0 W : World} {l : List (Value × List Int)} (h : Live w0 W l) (xs : List Int) (cs : Array Value) (k : Nat) (hk : k = W.heap.size) (hcs : cs.toList = intCells xs) (hl : xs.length ≤ maxLen) :
    Live w0 (W.alloc (.cells cs 3)) ((.slice (some ⟨k, 0, none⟩) xs.length xs.length, xs) :: l) :=
  (h.alloc _).add (by have := IsInts.new W xs cs k xs.length hk rfl hcs hl; exact this.mono (by simp))
/-- a slice of the first world -/
theorem Live.old {w0 W : World} {l : List (Value × List Int)} {v : Value} {xs : List Int} (h : Live w0 W l) (hv : IsInts w0 w0.heap.size v xs) : IsInts W W.heap.size v xs := (hv.below h.1 (Nat.le_refl _)).mono h.1.size
theorem Live.size {w0 W : World} {l : List (Value × List Int)} (h : Live w0 W l) : w0.heap.size ≤ W.heap.size := h.1.size
/-- what a call hands back -/
theorem Live.ret {w0 W W' : World} {l : List (Value × List Int)} {v : Value} {xs : List Int} {b : Nat} (h : Live w0 W l) (hv : OwnInts W' b v xs) (hB : Below W.heap.size W W') : Live w0 W' ((v, xs) :: l) := (h.step hB).add hv.is
end Go.Proofs.Ytodniacnjdnffaa
