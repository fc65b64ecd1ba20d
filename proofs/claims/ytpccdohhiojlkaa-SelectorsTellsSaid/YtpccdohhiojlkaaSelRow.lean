/- selectors: the row of tables: its walks. -/
import Derived.Test.YtpccdohhiojlkaaSelPlain
import Derived.Test.YtpccdohhiojlkaaEnv2
import Derived.Test.YtpccdohhiojlkaaKit3
import Derived.Test.YtpccdohhiojlkaaFuncs
import Derived.Laws.CopyRow
import Derived.StillTailTactics
namespace Go.Proofs.Ytpccdohhiojlkaa
open Go.RowKit
set_option linter.unusedVariables false

/-- the cells of a row -/
def rowC (p : List Nat) (t : Nat) : Array Value := ((p.map fun n : Nat => Value.int .i64 (n : Int)) ++ [Value.int .i64 (t : Int)]).toArray
def RowAt (w : World) (b : Nat) (p : List Nat) (t : Nat) : Prop := w.heap[b]? = some (.cells (rowC p t) 56 (0, 0))

/-- nothing but block k has turned of what was there -/
structure Only (k : Nat) (w w' : World) : Prop where
  os : w'.os = w.os
  tape : w'.tape = w.tape
  output : w'.output = w.output
  size : w.heap.size ≤ w'.heap.size
  block : ∀ j, j < w.heap.size → j ≠ k → w'.heap[j]? = w.heap[j]?
theorem Only.refl (k : Nat) (w : World) : Only k w w := ⟨rfl, rfl, rfl, Nat.le_refl _, fun _ _ _ => rfl⟩
theorem Only.of {k : Nat} {w w' : World} (h : Below w.heap.size w w') : Only k w w' := ⟨h.os, h.tape, h.output, h.size, fun j hj _ => h.block j hj⟩
theorem Only.trans {k : Nat} {a b c : World} (h : Only k a b) (g : Only k b c) : Only k a c :=
  ⟨g.os.trans h.os, g.tape.trans h.tape, g.output.trans h.output, Nat.le_trans h.size g.size, fun j hj hk => (g.block j (Nat.lt_of_lt_of_le hj h.size) hk).trans (h.block j hj hk)⟩
theorem Only.set {k : Nat} {a w : World} (h : Only k a w) (i : Nat) (u : Value) : Only k a (w.setCell ⟨k, i, none⟩ u) :=
  h.trans ⟨rfl, rfl, rfl, by simp [World.setCell], fun j hj hk => Below.heap_setCell _ _ _ _ hk⟩
theorem Only.below {k B : Nat} {w w' : World} (h : Only k w w') (hk : B ≤ k) (hB : B ≤ w.heap.size) : Below B w w' := ⟨h.os, h.tape, h.output, h.size, fun j hj => h.block j (by omega) (by omega)⟩
theorem only_setRow {w : World} {b : Nat} {cs : Array Value} : Only b w (w.setRow b cs) := ⟨rfl, rfl, rfl, by simp [World.setRow], fun j hj hk => by simp [World.setRow, Array.getElem?_modify, Ne.symm hk]⟩
theorem rowC_cell (p : List Nat) (t j : Nat) (hp : p.length = 6) (hj : j < 6) : (rowC p t)[j]? = some (.int .i64 ((p.getD j 0 : Nat))) := by
  have h : j < p.length := by omega
  simp [rowC, List.getElem?_append_left, List.getD_eq_getElem?_getD, h]
theorem rowC_size (p : List Nat) (t : Nat) : (rowC p t).size = p.length + 1 := by simp [rowC]
/-- 'copy(p[1:], p[:k])' -/
theorem wpList_copy_row {w : World} {ops : Array Oper} {rest : List Oper} {o : Oper} {a : Act} {Q : Exit → Act → World → Prop} (hgd : o.guard = none) (d s : Operand)
    (ho : o.op = .call { callee := .builtin .copy, args := #[d, s], argTypes := #[22, 22] }) (b k : Nat) (p : List Nat) (t : Nat)
    (hd : a.eval d = .slice (some ⟨b, 1, none⟩) 5 5) (hs : a.eval s = .slice (some ⟨b, 0, none⟩) k 6) (hp : p.length = 6) (hk : k < 6) (hE : RowAt w b p t)
    (h : ∀ w2, RowAt w2 b (p.take 1 ++ p.take k ++ p.drop (1 + k)) t → Only b w w2 → wpList Try.prog ops Q rest (a.put o.dst (.int .i64 (k : Nat))) w2) :
    wpList Try.prog ops Q (o :: rest) a w := by
  obtain ⟨i0, hi, hz0, hz1, hz2⟩ := info_parts int_info2
  refine wpList_plain hgd fun K hK => ?_
  have hl : ((p.take k).map fun n : Nat => Value.int .i64 (n : Int)).length = k := by simp; omega
  have hrun := run_copy_row (P := Try.prog) w 22 22 o.type 3 b 1 5 5 ⟨b, 0, none⟩ k 6 (rowC p t) 56 ((p.take k).map fun n : Nat => Value.int .i64 (n : Int)) Try.underlying22 (by rw [hi]; simp [hz1]) hE
    (by rw [hl]; exact (Nat.min_eq_left (by omega)).symm) (fun j v hj => by
      rw [List.getElem?_map, List.getElem?_take] at hj
      split at hj
      · rename_i hjk
        rw [addr_add, cell_of_heap hE, Nat.zero_add, rowC_cell p t j hp (by omega), ← hj, List.getD_eq_getElem?_getD, List.getElem?_eq_getElem (show j < p.length by omega)]
        rfl
      · simp at hj) (by rw [hl, rowC_size, hp]; omega) (fun v hv => by
      simp only [List.mem_map] at hv
      obtain ⟨n, _, rfl⟩ := hv
      rfl)
  rw [hl] at hrun
  unfold Oper.wp execOp
  simp only [ho, resolve, invoke, builtin, Sem.run_bind, Sem.run_pure, Result.andThen_ok, List.map_toArray, List.map_cons, List.map_nil, hd, hs, hrun]
  refine hK _ _ (h _ ?_ only_setRow)
  have hrow : ((rowC p t).toList.take 1 ++ (p.take k).map (fun n : Nat => Value.int .i64 (n : Int)) ++ (rowC p t).toList.drop (1 + k)).toArray = rowC (p.take 1 ++ p.take k ++ p.drop (1 + k)) t := by
    unfold rowC
    rw [List.take_append_of_le_length (by simp; omega), List.drop_append_of_le_length (by simp; omega)]
    simp
  rw [hrow]
  unfold RowAt
  simp [World.setRow, Array.getElem?_modify, show w.heap[b]? = _ from hE]

/-- the places that have been laid -/
def ofC (i t : Nat) : Array Value := rowC ((List.range 6).map fun j => if j < i then j else 0) t
set_option maxRecDepth 100000 in
set_option maxHeartbeats 1600000 in
theorem of_any' (w : World) (t : Nat) (ht : t ≤ 6) : Calls Try.prog 24 #[.int .i64 (t : Nat)] w fun e w' => e = .returned (.pointer (some ⟨w.heap.size, 0, none⟩)) ∧ w' = w.alloc (.cells (rowC (List.range 6) t) 56) := by
  go_enter Try.func24, Try.ntmps24
  go_wp2_with fail
  go_loopw [8] (fun iv wr => ∃ i : Nat, i ≤ 6 ∧ iv = .int .i64 i ∧ wr = w.alloc (.cells (ofC i t) 56)) (fun iv _ => 7 - (intOf iv).toNat)
  case atStart => exact ⟨0, by omega, rfl, by simp [ofC, rowC, List.range, List.range.loop]⟩
  case round =>
    obtain ⟨i, hi, rfl, rfl⟩ := hrel
    have h6 : i = 0 ∨ i = 1 ∨ i = 2 ∨ i = 3 ∨ i = 4 ∨ i = 5 ∨ i = 6 := by omega
    have hB : Below w.heap.size w (w.alloc (.cells (rowC (List.range 6) t) 56)) := (Below.refl _ _).alloc (Nat.le_refl _) _
    have e0 : ofC 0 t = #[.int .i64 0, .int .i64 0, .int .i64 0, .int .i64 0, .int .i64 0, .int .i64 0, .int .i64 (t : Nat)] := rfl
    have e1 : ofC 1 t = #[.int .i64 0, .int .i64 0, .int .i64 0, .int .i64 0, .int .i64 0, .int .i64 0, .int .i64 (t : Nat)] := rfl
    have e2 : ofC 2 t = #[.int .i64 0, .int .i64 1, .int .i64 0, .int .i64 0, .int .i64 0, .int .i64 0, .int .i64 (t : Nat)] := rfl
    have e3 : ofC 3 t = #[.int .i64 0, .int .i64 1, .int .i64 2, .int .i64 0, .int .i64 0, .int .i64 0, .int .i64 (t : Nat)] := rfl
    have e4 : ofC 4 t = #[.int .i64 0, .int .i64 1, .int .i64 2, .int .i64 3, .int .i64 0, .int .i64 0, .int .i64 (t : Nat)] := rfl
    have e5 : ofC 5 t = #[.int .i64 0, .int .i64 1, .int .i64 2, .int .i64 3, .int .i64 4, .int .i64 0, .int .i64 (t : Nat)] := rfl
    have e6 : ofC 6 t = #[.int .i64 0, .int .i64 1, .int .i64 2, .int .i64 3, .int .i64 4, .int .i64 5, .int .i64 (t : Nat)] := rfl
    rcases h6 with rfl | rfl | rfl | rfl | rfl | rfl | rfl
    · have E := Lib.hid e1
      rw [e0]
      clear e0 e1 e2 e3 e4 e5 e6
      go_wp2
      go_roundw
      case rel => exact ⟨1, by omega, rfl, by rw [E.out]⟩
      case measure => simp [intOf]
    · have E := Lib.hid e2
      rw [e1]
      clear e0 e1 e2 e3 e4 e5 e6
      go_wp2
      go_roundw
      case rel => exact ⟨2, by omega, rfl, by rw [E.out]⟩
      case measure => simp [intOf]
    · have E := Lib.hid e3
      rw [e2]
      clear e0 e1 e2 e3 e4 e5 e6
      go_wp2
      go_roundw
      case rel => exact ⟨3, by omega, rfl, by rw [E.out]⟩
      case measure => simp [intOf]
    · have E := Lib.hid e4
      rw [e3]
      clear e0 e1 e2 e3 e4 e5 e6
      go_wp2
      go_roundw
      case rel => exact ⟨4, by omega, rfl, by rw [E.out]⟩
      case measure => simp [intOf]
    · have E := Lib.hid e5
      rw [e4]
      clear e0 e1 e2 e3 e4 e5 e6
      go_wp2
      go_roundw
      case rel => exact ⟨5, by omega, rfl, by rw [E.out]⟩
      case measure => simp [intOf]
    · have E := Lib.hid e6
      rw [e5]
      clear e0 e1 e2 e3 e4 e5 e6
      go_wp2
      go_roundw
      case rel => exact ⟨6, by omega, rfl, by rw [E.out]⟩
      case measure => simp [intOf]
    · rw [e6]
      clear e0 e1 e2 e3 e4 e5 e6
      go_wp2
      go_ret
      exact ⟨rfl, rfl⟩
theorem fits_any (t : Int) (W : World) : Calls Try.prog 21 #[.int .i64 t] W fun e w' => e = .returned (.bool (decide (2 ≤ t) && decide (t ≤ 6))) ∧ W = w' := by
  rcases h1 : decide (2 ≤ t) with _ | _ <;> rcases h2 : decide (t ≤ 6) with _ | _ <;>
  · go_enter Try.func21, Try.ntmps21
    go_wp2
    go_ret
    exact ⟨rfl, rfl⟩
set_option maxRecDepth 100000 in
set_option maxHeartbeats 1600000 in
theorem front_any (w : World) (b : Nat) (p : List Nat) (t k : Nat) (hp : p.length = 6) (hk : k < 6) (hE : RowAt w b p t) :
    Calls Try.prog 26 #[.pointer (some ⟨b, 0, none⟩), .int .i64 (k : Nat)] w fun e w' => e = .returned (.int .i64 ((p.getD k 0 : Nat))) ∧ Only b w w' ∧ RowAt w' b (mtf p k) t := by
  have hcell : ∀ j, j < 6 → w.cell? ⟨b, j, none⟩ = some (.int .i64 ((p.getD j 0 : Nat))) := fun j hj => by rw [cell_of_heap hE j, rowC_cell p t j hp hj]
  have hck := hcell k hk
  obtain ⟨x, hx⟩ : ∃ x, p.getD k 0 = x := ⟨_, rfl⟩
  rw [hx] at hck ⊢
  have hk0 : (0 : Int) ≤ (k : Int) := by omega
  have hk6 : (k : Int) < 6 := by omega
  have hk6' : (k : Int) ≤ 6 := by omega
  have HE := Lib.hid hE
  have Hx := Lib.hid hx
  clear hcell hE hx
  go_enter Try.func26, Try.ntmps26
  go_wp2_with fail
  go_still_tail 7, (by kernel_rfl)
  refine wpList_copy_row rfl (.tmp 13) (.tmp 17) rfl b k p t rfl rfl hp hk HE.out ?_
  intro w2 hR hO
  have hR2 := Lib.hid hR
  have hO2 : Only b w w2 := (Only.of (Below.refl _ w).drew).trans hO
  have hc0 : w2.cell? ⟨b, 0, none⟩ = some (.int .i64 (p.getD 0 0 : Nat)) := by
    rw [cell_of_heap hR 0, rowC_cell _ _ _ (by simp; omega) (by omega)]
    cases p with
    | nil => simp at hp
    | cons a p => rfl
  have hf0 := frozen_of_heap hR 0
  clear hR hO
  go_wp2_with fail
  go_ret
  refine ⟨rfl, hO2.set _ _, ?_⟩
  have h1 := heap_set_ hR2.out 0 (.int .i64 (x : Nat))
  unfold RowAt
  rw [h1]
  congr 2
  unfold rowC mtf
  rw [Hx.out]
  cases p with
  | nil => simp at hp
  | cons a p => simp [Nat.add_comm]
end Go.Proofs.Ytpccdohhiojlkaa
