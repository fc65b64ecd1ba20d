/- Merged: BitOp, BitsWriter, BitsLays, BitsLaid. -/
import Derived.Test.YtodniacnjdnffaaProg
import Derived.Test.YtodniacnjdnffaaBitsPlain
import Derived.Test.YtodniacnjdnffaaMem
import Derived.Test.YtodniacnjdnffaaKit
import Derived.WalkKit
import Derived.WalkSpells
import Derived.WalkLawsBesides
import Derived.Lib.Hide
import Derived.StillTailTactics
import Derived.Maps.AppendAt
import Derived.RangeFuncBox
import Derived.Recover
import Derived.Shelf.Abstract
namespace Go.Proofs.Ytodniacnjdnffaa
open Go.RowKit
/-- a bit as the byte that the program has -/
def bitv (b : Bool) : Int := if b then 128 else 0
theorem bitv_and (x : UInt8) (r : Nat) (hr : r < 8) : bits BinOp.and IntKind.u8 ((x.toNat : Int) * 2 ^ r % 256) 128 = bitv (x.toNat.testBit (7 - r)) := by
  have h : ∀ (x : Fin 256) (r : Fin 8), bits BinOp.and IntKind.u8 ((x.val : Int) * 2 ^ r.val % 256) 128 = bitv (x.val.testBit (7 - r.val)) := by decide +kernel
  exact h ⟨x.toNat, x.toNat_lt⟩ ⟨r, hr⟩
theorem bitAt_get (s : ByteArray) (i : Nat) (h : i / 8 < s.size) : (s[i / 8]).toNat.testBit (7 - i % 8) = B.bitAt s.data.toList i := by
  unfold B.bitAt
  rw [List.getD_eq_getElem?_getD, List.getElem?_eq_getElem (by simpa using h)]; rfl
set_option maxHeartbeats 400000 in
theorem bit_any (s : ByteArray) (i : Int) (w : World) (h0 : 0 ≤ i) (h : i < 8 * s.size) (hs : s.size ≤ 281474976710656) :
    Calls Try.prog 51 #[.string s, .int .i64 i] w fun e w' => e = .returned (.int .u8 (bitv (B.bitAt s.data.toList i.toNat))) ∧ w = w' := by
  obtain ⟨i, rfl⟩ := Int.eq_ofNat_of_zero_le h0
  rw [Int.toNat_natCast]
  go_enter Try.func51, Try.ntmps51
  go_wp2
  go_ret
  exact ⟨ret_int (by rw [bitv_and _ _ (Nat.mod_lt _ (by omega)), bitAt_get s i (by omega)]), rfl⟩

theorem or_bit (x : Nat) (b : Bool) (hx : x < 9223372036854775808) :
    bits BinOp.or IntKind.u64 (IntKind.u64.wrap ((x : Int) * 2)) (IntKind.u64.wrap (bitv b / 128)) = ((2 * x + b.toNat : Nat) : Int) := by
  have h1 : IntKind.u64.wrap ((x : Int) * 2) = ((2 * x : Nat) : Int) := by rw [IntKind.wrap_u64]; omega
  have h2 : IntKind.u64.wrap (bitv b / 128) = ((b.toNat : Nat) : Int) := by cases b <;> rfl
  have h3 : 2 * x ||| b.toNat = 2 * x + b.toNat := by
    cases b
    · simp
    · have := Nat.two_pow_add_eq_or_of_lt (i := 1) (b := 1) (by omega) x
      simp only [Bool.toNat_true] at this ⊢
      rw [Nat.pow_one] at this
      exact this.symm
  rw [h1, h2, u64_or_nat _ _ (by omega) (by cases b <;> simp), h3]

def getV (s : List UInt8) (a n : Int) : Int := if n < 0 ∨ 64 < n ∨ a < 0 then 0 else if 8 * (s.length : Int) - n < a then 0 else (B.num (B.slice s a.toNat n.toNat) : Nat)
def getE (s : List UInt8) (a n : Int) : Int := if n < 0 ∨ 64 < n ∨ a < 0 then 1 else if 8 * (s.length : Int) - n < a then 2 else 0
/-- may bits be, as a bool -/
def rightB (s : List UInt8) (n : Int) : Bool := decide (0 ≤ n ∧ s.length = (n.toNat + 7) / 8) && decide (∀ i, i < 8 * s.length → n ≤ i → B.bitAt s i = false)
theorem bitv_ne (b : Bool) : (bitv b != 0) = b := by cases b <;> rfl
attribute [go_sem] bitv_ne
set_option maxHeartbeats 400000 in
theorem right_any (s : ByteArray) (n : Int) (w : World) (hs : s.size ≤ 281474976710656) (hn : -9223372036854775808 ≤ n) (hn' : n ≤ 9223372036854775807) :
    Calls Try.prog 49 #[.agg #[.string s, .int .i64 n]] w fun e w' => e = .returned (.bool (rightB s.data.toList n)) ∧ Below w.heap.size w w' := by
  by_cases h1 : 0 ≤ n ∧ s.data.toList.length = (n.toNat + 7) / 8
  · obtain ⟨h0, h1⟩ := h1
    obtain ⟨n, rfl⟩ := Int.eq_ofNat_of_zero_le h0
    rw [Int.toNat_natCast] at h1
    have hr : rightB s.data.toList n = decide (∀ i, i < 8 * s.data.toList.length → (n : Int) ≤ (i : Nat) → B.bitAt s.data.toList i = false) := by
      unfold rightB
      rw [decide_eq_true ⟨h0, by rw [Int.toNat_natCast]; exact h1⟩]; rfl
    rw [hr]; clear hr
    have hl : s.data.toList.length = s.size := by simp
    rw [hl] at h1 ⊢; clear hl
    obtain ⟨c, hm, hc⟩ : ∃ c : Nat, (if 1 < (n : Int) % 8 then 1 else (n : Int) % 8) = (c : Int) ∧ c = if 1 < n % 8 then 1 else n % 8 := ⟨_, by split <;> split <;> omega, rfl⟩
    have hc1 : c ≤ 1 := by rw [hc]; split <;> omega
    have hb : ((s.size : Int) != (n : Int) / 8 + c) = false := by
      rw [bne_eq_false_iff_eq, hc, h1]; split <;> omega
    clear hc
    have H1 := Lib.hid h1
    have hle : n ≤ 8 * s.size := by omega
    clear h1
    go_enter Try.func49, Try.ntmps49
    go_wp2
    go_loopw [3] (fun i wr => ∃ k : Nat, n ≤ k ∧ k ≤ 8 * s.size ∧ i = .int .i64 k ∧ (∀ j, j < k → n ≤ j → B.bitAt s.data.toList j = false) ∧ wr = w.alloc (.cells #[.string s, .int .i64 n] 41)) (fun i _ => 8 * s.size - (intOf i).toNat)
    case atStart => exact ⟨n, Nat.le_refl _, hle, rfl, fun j h h' => by omega, rfl⟩
    case round =>
      obtain ⟨k, hk, hk2, rfl, hall, rfl⟩ := hrel
      have Hall := Lib.hid hall
      clear hall
      by_cases hlt : k < 8 * s.size
      · go_wp2_with (go_at_call 51; refine (bit_any _ _ _ (by omega) (by omega) hs).mono ?_; rintro e w' ⟨rfl, rfl⟩)
        · have ht : B.bitAt s.data.toList k = true := by assumption
          go_ret
          refine ⟨ret_bool (decide_eq_false fun h => ?_).symm, (Below.refl _ _).alloc (Nat.le_refl _) _⟩
          rw [h k hlt (by omega)] at ht; cases ht
        · have ht : B.bitAt s.data.toList k = false := by assumption
          go_roundw
          case rel => exact ⟨k + 1, by omega, by omega, by go_num, fun j h h' => (by
            by_cases e : j = k
            · rw [e]; exact ht
            · exact Hall.out j (by omega) h'), trivial⟩
          case measure => simp [intOf]; omega
      · go_wp2
        go_ret
        refine ⟨ret_bool (decide_eq_true fun j h h' => ?_).symm, (Below.refl _ _).alloc (Nat.le_refl _) _⟩
        exact Hall.out j (by omega) (by omega)
  · have hr : rightB s.data.toList n = false := by unfold rightB; rw [decide_eq_false h1]; rfl
    rw [hr]; clear hr
    have hl : s.data.toList.length = s.size := by simp
    rw [hl] at h1; clear hl
    by_cases h0 : n < 0
    · clear h1
      go_enter Try.func49, Try.ntmps49
      go_wp2
      go_ret
      exact ⟨rfl, (Below.refl _ _).alloc (Nat.le_refl _) _⟩
    · have h2 : (s.size : Int) ≠ n / 8 + min (n % 8) 1 := by omega
      clear h1
      obtain ⟨n, rfl⟩ := Int.eq_ofNat_of_zero_le (show 0 ≤ n by omega)
      have hb : ((s.size : Int) != (n : Int) / 8 + if 1 < (n : Int) % 8 then 1 else (n : Int) % 8) = true := by
        rw [bne_iff_ne]; split <;> omega
      clear h2
      go_enter Try.func49, Try.ntmps49
      go_wp2
      all_goals (go_ret; exact ⟨rfl, (Below.refl _ _).alloc (Nat.le_refl _) _⟩)
end Go.Proofs.Ytodniacnjdnffaa
/- The program's writer of bits: what its methods do to memory. -/
namespace Go.Proofs.Ytodniacnjdnffaa
open Go.RowKit
set_option linter.unusedVariables false

/-- a text's bytes as cells -/
def byteCells (s : List UInt8) : List Value := s.map fun x => .int .u8 (x.toNat : Int)
theorem length_byteCells (s : List UInt8) : (byteCells s).length = s.length := by simp [byteCells]
theorem one_byteCells (s : List UInt8) : ∀ u ∈ byteCells s, u.oneCell' = true := by
  intro u hu
  simp only [byteCells, List.mem_map] at hu
  obtain ⟨x, _, rfl⟩ := hu
  rfl

theorem fold_push (s : List UInt8) : ∀ r : ByteArray, ((s.map fun x => (x.toNat : Int)).foldl (fun r n => r.push (UInt8.ofNat n.toNat)) r) = ⟨r.data ++ s.toArray⟩ := by
  induction s with
  | nil => intro r; simp
  | cons x s ih =>
    intro r
    rw [List.map_cons, List.foldl_cons, ih]
    simp [ByteArray.push]
/-- bytes of the call's own, as a string -/
theorem convert_own {w : World} {base n : Nat} {v : Value} (s : List UInt8) (h : w.ownsRow base 5 1 v n (byteCells s)) :
    (convert 89 9 v).run Try.prog w = .ok (.string ⟨s.toArray⟩) w := by
  rcases h.2 with ⟨rfl, hn⟩ | ⟨g, cap, cur, rfl, _⟩
  · rw [run_convert_bytes_string w 89 9 5 none 0 0 Try.underlying89 Try.underlying5 Try.underlying9]
    have hs : s = [] := by
      have := h.1
      rw [length_byteCells, hn] at this
      exact List.eq_nil_of_length_eq_zero (by omega)
    subst hs
    rfl
  · rw [run_convert_bytes_string w 89 9 5 (some ⟨g, 0, none⟩) n cap Try.underlying89 Try.underlying5 Try.underlying9]
    have hc := h.cells (g := g) rfl
    have hl : (byteCells s).length = n := by have := h.1; omega
    have := run_loadCells_list (P := Try.prog) (w := w) ⟨g, 0, none⟩ (byteCells s) hc
    rw [hl] at this
    rw [run_bytesToString w ⟨g, 0, none⟩ n cap (s.map fun x => (x.toNat : Int)) (by rw [this, byteCells, List.map_map]; rfl), fold_push]
    simp

/-- block b is a writer that has laid the bits l -/
def Wr (w : World) (b : Nat) (l : List Bool) : Prop :=
  ∃ v, w.heap[b]? = some (.cells #[v, .int .i64 (l.length : Nat)] 91 (0, 0)) ∧ w.ownsRow (b + 1) 5 1 v (B.pack l).length (byteCells (B.pack l))

theorem byte_info : (Try.prog.info? 5).map (fun i => (i.zero, i.size, i.bytes)) = some (some (.int .u8 0), 1, 1) := by kernel_rfl

set_option maxHeartbeats 400000 in
/-- one bit, 0, where the last byte has room -/
theorem bit_room0 (w : World) (b : Nat) (v : Value) (n : Nat) (hb : w.heap[b]? = some (.cells #[v, .int .i64 n] 91 (0, 0))) (hn : n % 8 ≠ 0) (hn2 : n < 1152921504606846976) :
    Calls Try.prog 50 #[.pointer (some ⟨b, 0, none⟩), .bool false] w fun e w' => e = .returned (.tuple #[]) ∧ w' = w.setCell ⟨b, 1, none⟩ (.int .i64 ((n : Int) + 1)) := by
  have hc0 : w.cell? ⟨b, 0, none⟩ = some v := cell_of_heap hb 0
  have hc1 : w.cell? ⟨b, 1, none⟩ = some (.int .i64 n) := cell_of_heap hb 1
  have hf1 := frozen_of_heap hb 1
  have ht : (((n : Int) % 8) == 0) = false := by rw [beq_eq_false_iff_ne]; omega
  clear hb hn
  go_enter Try.func50, Try.ntmps50
  go_wp2
  go_end0
  exact ⟨rfl, rfl⟩


set_option maxHeartbeats 400000 in
/-- one bit, 1, where the last byte has room -/
theorem bit_room1 (w : World) (b g cap : Nat) (n m : Nat) (x : UInt8) (hb : w.heap[b]? = some (.cells #[.slice (some ⟨g, 0, none⟩) (m + 1) cap, .int .i64 n] 91 (0, 0)))
    (hx : w.cell? ⟨g, m, none⟩ = some (.int .u8 (x.toNat : Int))) (hf : w.frozen? ⟨g, m, none⟩ = false) (hgb : g ≠ b) (hm : m < 1152921504606846976) (hn : n % 8 ≠ 0) (hn2 : n < 1152921504606846976) :
    Calls Try.prog 50 #[.pointer (some ⟨b, 0, none⟩), .bool true] w fun e w' => e = .returned (.tuple #[]) ∧ w' = ((w.setCell ⟨g, m, none⟩ (.int .u8 (bits BinOp.or IntKind.u8 (x.toNat : Int) (128 / 2 ^ (n % 8))))).setCell ⟨b, 1, none⟩ (.int .i64 ((n : Int) + 1))).drew := by
  have hc0 : w.cell? ⟨b, 0, none⟩ = some (.slice (some ⟨g, 0, none⟩) (m + 1) cap) := cell_of_heap hb 0
  have hc1 : w.cell? ⟨b, 1, none⟩ = some (.int .i64 n) := cell_of_heap hb 1
  have hf1 := frozen_of_heap hb 1
  have ht : (((n : Int) % 8) == 0) = false := by rw [beq_eq_false_iff_ne]; omega
  clear hb hn
  go_enter Try.func50, Try.ntmps50
  go_wp2
  have hw1 : IntKind.i64.wrap (m : Int) = m := IntWalk.i64_in _ (by omega)
  have hw2 : (n : Int).tmod 8 = (n : Int) % 8 := Int.tmod_eq_emod_of_nonneg (by omega)
  have hl1 : (m : Int) < (m : Int) + 1 := by omega
  have hl2 : 0 ≤ (n : Int) % 8 := by omega
  have hl3 : ((n : Int) % 8).toNat = n % 8 := by omega
  go_still_tail 20, (by kernel_rfl)
  go_wp2
  go_end0
  exact ⟨rfl, rfl⟩

/-- what one bit behind a last byte that is full comes to -/
def Grew (w : World) (b : Nat) (v : Value) (n m : Nat) (c : Bool) (xs : List Value) (e : Ending) (w' : World) : Prop :=
  e = .returned (.tuple #[]) ∧
      ∃ g cap w1, (w.alloc (.cells #[.int .u8 0] 5)).grownBy w1 v.ownBlock ∧ w1.ownsRow (b + 1) 5 1 (.slice (some ⟨g, 0, none⟩) (m + 1) cap) (m + 1) (xs ++ [.int .u8 0]) ∧
        w' = (if c then (((w1.setCell ⟨b, 0, none⟩ (.slice (some ⟨g, 0, none⟩) (m + 1) cap)).setCell ⟨g, m, none⟩ (.int .u8 128)).setCell ⟨b, 1, none⟩ (.int .i64 ((n : Int) + 1))).drew
          else (w1.setCell ⟨b, 0, none⟩ (.slice (some ⟨g, 0, none⟩) (m + 1) cap)).setCell ⟨b, 1, none⟩ (.int .i64 ((n : Int) + 1)))

set_option maxHeartbeats 400000 in
/-- one bit behind a last byte that is full: the append, and what comes behind it -/
theorem bit_grow (w : World) (b : Nat) (v : Value) (n m : Nat) (c : Bool) (xs : List Value) (hb : w.heap[b]? = some (.cells #[v, .int .i64 n] 91 (0, 0)))
    (hown : w.ownsRow (b + 1) 5 1 v m xs) (hm : m < 140737488355328) (hn : n % 8 = 0) (hn2 : n < 1152921504606846976) :
    Calls Try.prog 50 #[.pointer (some ⟨b, 0, none⟩), .bool c] w (Grew w b v n m c xs) := by
  obtain ⟨i0, hi, hz0, hz1, hz2⟩ := info_parts byte_info
  have hbs := lt_of_heap hb
  have hc0 : w.cell? ⟨b, 0, none⟩ = some v := cell_of_heap hb 0
  have hc1 : w.cell? ⟨b, 1, none⟩ = some (.int .i64 n) := cell_of_heap hb 1
  have hf1 := frozen_of_heap hb 1
  have ht : (((n : Int) % 8) == 0) = true := by rw [beq_iff_eq]; omega
  have Hn := Lib.hid hn
  have Hb := Lib.hid hb
  clear hb hn
  go_enter Try.func50, Try.ntmps50
  have hvb : ∀ k, v.ownBlock = some k → b < k := fun k hk => (hown.lt k hk).1
  go_wp2_with
    (at_builtin
     refine wpList_append_own _ rfl _ _ 89 rfl (b + 1) 5 i0 (.int .u8 0) 1 1 Try.underlying89 hi hz0 hz1 hz2 rfl (by decide) v m xs rfl (hown.alloc _) ⟨w.heap.size, 0, none⟩ 1 1 [.int .u8 0] rfl rfl (cell_one_new _ _ _) (by simp [Value.oneCell']) (by simp only [maxLen]; omega) (by omega) (by simp; omega) ?_
     intro v' w1 hown1 hgrow1 _
     obtain ⟨g, cap, rfl⟩ := ownsRow_succ hown1
     have hblk : w1.heap[b]? = some (.cells #[v, .int .i64 n] 91 (0, 0)) := (hgrow1.block b (by simp; omega) (fun e => Nat.lt_irrefl b (hvb b e.symm))).trans ((Below.heap_alloc w _ b hbs).trans Hb.out)
     have hgb : ¬ g = b := by have := (hown1.lt g rfl).1; omega
     have gc0 : w1.cell? ⟨b, 0, none⟩ = some v := cell_of_heap hblk 0
     have gc1 : w1.cell? ⟨b, 1, none⟩ = some (.int .i64 n) := cell_of_heap hblk 1
     have gf : ∀ i, w1.frozen? ⟨b, i, none⟩ = false := frozen_of_heap hblk
     have hl : xs.length = m := by have := hown.1; omega
     have gg : w1.cell? ⟨g, m, none⟩ = some (.int .u8 0) := by rw [hown1.cellAt m (by omega), ← hl]; simp
     have ggf : w1.frozen? ⟨g, m, none⟩ = false := hown1.frozenAt m
     have Hblk := Lib.hid hblk
     have Hl := Lib.hid hl
     clear hblk hl)
  · have hw1 : IntKind.i64.wrap (m : Int) = m := IntWalk.i64_in _ (by omega)
    have hw2 : (n : Int).tmod 8 = (n : Int) % 8 := Int.tmod_eq_emod_of_nonneg (by omega)
    have hl1 : (m : Int) < (m : Int) + 1 := by omega
    have hl2 : (n : Int) % 8 = 0 := by have := Hn.out; omega
    have d0 : (w1.setCell ⟨b, 0, none⟩ (.slice (some ⟨g, 0, none⟩) (m + 1) cap)).cell? ⟨b, 0, none⟩ = some (.slice (some ⟨g, 0, none⟩) (m + 1) cap) := World.cell?_setCell_same _ _ _ gc0
    have d1 : (w1.setCell ⟨b, 0, none⟩ (.slice (some ⟨g, 0, none⟩) (m + 1) cap)).cell? ⟨b, 1, none⟩ = some (.int .i64 n) := (World.cell?_setCell_other _ _ _ _ (fun e => by injection e with _ e _; cases e)).trans gc1
    have d2 : (w1.setCell ⟨b, 0, none⟩ (.slice (some ⟨g, 0, none⟩) (m + 1) cap)).cell? ⟨g, m, none⟩ = some (.int .u8 0) := (World.cell?_setCell_other _ _ _ _ (fun e => by injection e with e _ _; exact hgb e.symm)).trans gg
    have d3 : ∀ i, (w1.setCell ⟨b, 0, none⟩ (.slice (some ⟨g, 0, none⟩) (m + 1) cap)).frozen? ⟨b, i, none⟩ = false := by simp [gf]
    have d4 : (w1.setCell ⟨b, 0, none⟩ (.slice (some ⟨g, 0, none⟩) (m + 1) cap)).frozen? ⟨g, m, none⟩ = false := by simp [ggf]
    clear gc0 gc1 gg gf ggf
    generalize hW : w1.setCell ⟨b, 0, none⟩ (.slice (some ⟨g, 0, none⟩) (m + 1) cap) = W2 at *
    have HW := Lib.hid hW
    clear hW
    go_still_tail 20, (by kernel_rfl)
    go_wp2
    go_end0
    have hc : c = true := by assumption
    subst hc
    refine ⟨rfl, g, cap, w1, hgrow1, hown1, ?_⟩
    rw [HW.out, if_pos rfl, show bits BinOp.or IntKind.u8 0 128 = 128 by decide]
  · go_end0
    have hc : c = false := by assumption
    subst hc
    exact ⟨rfl, g, cap, w1, hgrow1, hown1, rfl⟩
theorem or_mask (x : UInt8) (r : Nat) (hr : r < 8) : bits BinOp.or IntKind.u8 (x.toNat : Int) (128 / 2 ^ r) = ((x ||| UInt8.ofNat (128 >>> r)).toNat : Int) := by
  have h : ∀ (x : Fin 256) (r : Fin 8), bits BinOp.or IntKind.u8 (x.val : Int) (128 / 2 ^ r.val) = ((UInt8.ofNat x.val ||| UInt8.ofNat (128 >>> r.val)).toNat : Int) := by decide +kernel
  have := h ⟨x.toNat, x.toNat_lt⟩ ⟨r, hr⟩
  simpa using this
theorem byteCells_setLast (s : List UInt8) (k : Nat) (x : UInt8) (hk : s.length = k + 1) (m : UInt8) (hx : s[k]? = some x) :
    byteCells (B.setLast s m) = (byteCells s).set k (.int .u8 ((x ||| m).toNat : Int)) := by
  unfold byteCells B.setLast
  apply List.ext_getElem?
  intro i
  simp only [List.getElem?_map, List.getElem?_modify, hk, Nat.add_sub_cancel, List.getElem?_set, List.length_map]
  by_cases h : k = i
  · subst h; rw [hx]; simp
  · cases hs : s[i]? <;> simp [h]
theorem byteCells_append (s t : List UInt8) : byteCells (s ++ t) = byteCells s ++ byteCells t := by simp [byteCells]
theorem getElem?_byteCells (s : List UInt8) (i : Nat) (x : UInt8) (h : s[i]? = some x) : (byteCells s)[i]? = some (.int .u8 (x.toNat : Int)) := by
  simp [byteCells, h]

theorem Wr.lt {w : World} {b : Nat} {l : List Bool} (h : Wr w b l) : b < w.heap.size := by
  obtain ⟨v, hb, _⟩ := h
  exact lt_of_heap hb

/-- all blocks but b that hold no bytes are as they were -/
def KeepT (b : Nat) (w w' : World) : Prop := ∀ k cs t fz, k ≠ b → t ≠ 5 → w.heap[k]? = some (.cells cs t fz) → w'.heap[k]? = some (.cells cs t fz)
theorem KeepT.refl (b : Nat) (w : World) : KeepT b w w := fun _ _ _ _ _ _ h => h
theorem KeepT.trans {b : Nat} {a w w' : World} (h : KeepT b a w) (k : KeepT b w w') : KeepT b a w' := fun i cs t fz h1 h2 h3 => k i cs t fz h1 h2 (h i cs t fz h1 h2 h3)
theorem KeepT.alloc {b : Nat} {a w : World} (h : KeepT b a w) (o : Obj) : KeepT b a (w.alloc o) := fun i cs t fz h1 h2 h3 => by
  have := h i cs t fz h1 h2 h3
  exact (Below.heap_alloc w o i (lt_of_heap this)).trans this
theorem KeepT.drew {b : Nat} {a w : World} (h : KeepT b a w) : KeepT b a w.drew := h
theorem KeepT.own {b : Nat} {a w : World} (h : KeepT b a w) (i : Nat) (u : Value) : KeepT b a (w.setCell ⟨b, i, none⟩ u) := fun k cs t fz h1 h2 h3 => by
  exact (Below.heap_setCell w ⟨b, i, none⟩ u k h1).trans (h k cs t fz h1 h2 h3)
theorem KeepT.far {b : Nat} {a w : World} (h : KeepT b a w) {g : Nat} {c : Array Value} {f : Nat × Nat} (hg : w.heap[g]? = some (.cells c 5 f)) (i : Nat) (u : Value) : KeepT b a (w.setCell ⟨g, i, none⟩ u) := fun k cs t fz h1 h2 h3 => by
  have hk := h k cs t fz h1 h2 h3
  refine (Below.heap_setCell w ⟨g, i, none⟩ u k (fun e => ?_)).trans hk
  subst e
  rw [hg] at hk
  injection hk with hk
  injection hk with _ ht
  exact h2 ht.symm
theorem KeepT.grown {b : Nat} {a w w' : World} (h : KeepT b a w) {v : Value} {base n : Nat} {xs : List Value} (ho : w.ownsRow base 5 1 v n xs) (hg : w.grownBy w' v.ownBlock) : KeepT b a w' := fun k cs t fz h1 h2 h3 => by
  have hk := h k cs t fz h1 h2 h3
  refine (hg.block k (lt_of_heap hk) (fun e => ?_)).trans hk
  obtain ⟨c, hc⟩ := own_heap ho e.symm
  rw [hc] at hk
  injection hk with hk
  injection hk with _ ht
  exact h2 ht.symm

set_option maxHeartbeats 400000 in
theorem wbit_any (w : World) (b : Nat) (l : List Bool) (c : Bool) (h : Wr w b l) (hl : l.length < 562949953421312) :
    Calls Try.prog 50 #[.pointer (some ⟨b, 0, none⟩), .bool c] w fun e w' => e = .returned (.tuple #[]) ∧ Wr w' b (l ++ [c]) ∧ Below b w w' ∧ KeepT b w w' := by
  obtain ⟨v, hb, hown⟩ := h
  have hp := B.length_pack l
  have hlt := lt_of_heap hb
  by_cases hn : l.length % 8 = 0
  · refine (bit_grow w b v l.length _ c _ hb hown (by omega) hn (by omega)).mono fun e w' h => ?_
    obtain ⟨rfl, g, cap, w1, hg, ho, rfl⟩ := h
    have hvb : ∀ k, v.ownBlock = some k → b < k := fun k hk => (hown.lt k hk).1
    have hb1 : w1.heap[b]? = some (.cells #[v, .int .i64 l.length] 91 (0, 0)) := (hg.block b (by simp; omega) (fun e => Nat.lt_irrefl b (hvb b e.symm))).trans ((Below.heap_alloc w _ b hlt).trans hb)
    have hgb := (ho.lt g rfl).1
    have B1 : Below b w w1 := ((Below.refl b w).alloc (by omega) _).grown hg (by simp; omega) (fun k hk => by have := hvb k hk; omega)
    have K1 : KeepT b w w1 := ((KeepT.refl b w).alloc _).grown (hown.alloc _) hg
    have hb2 := heap_set_ hb1 0 (.slice (some ⟨g, 0, none⟩) ((B.pack l).length + 1) cap)
    have hl1 : (B.pack l ++ [0]).length = (B.pack l).length + 1 := by simp
    have hgl : B.grow (B.pack l) l.length = B.pack l ++ [0] := by unfold B.grow; rw [if_pos hn]
    have ho' : w1.ownsRow (b + 1) 5 1 (.slice (some ⟨g, 0, none⟩) ((B.pack l).length + 1) cap) (B.pack l ++ [0]).length (byteCells (B.pack l ++ [0])) := by rw [hl1, byteCells_append]; exact ho
    cases c with
    | false =>
      rw [if_neg (by simp)]
      have hpk : B.pack (l ++ [false]) = B.pack l ++ [0] := by rw [B.pack_snoc]; unfold B.step; rw [if_neg (by simp), hgl]
      refine ⟨rfl, ⟨.slice (some ⟨g, 0, none⟩) ((B.pack l).length + 1) cap, ?_, ?_⟩, (B1.setCell (p := ⟨b, 0, none⟩) (Nat.le_refl _) _).setCell (p := ⟨b, 1, none⟩) (Nat.le_refl _) _, (K1.own 0 _).own 1 _⟩
      · have := heap_set_ hb2 1 (.int .i64 ((l.length : Int) + 1))
        simpa using this
      · rw [hpk]
        exact ownsRow_setCell_below (ownsRow_setCell_below ho' (by simp) _) (by simp) _
    | true =>
      rw [if_pos rfl]
      have hpk : B.pack (l ++ [true]) = B.setLast (B.pack l ++ [0]) 128 := by
        rw [B.pack_snoc]; unfold B.step; rw [if_pos rfl, hgl, hn]; rfl
      have hbc := byteCells_setLast (B.pack l ++ [0]) (B.pack l).length 0 hl1 128 (by simp)
      have ho2 := ho'
      rw [hl1] at ho2
      have hst := ((ownsRow_setCell_below (a := ⟨b, 0, none⟩) ho2 (by simp) (.slice (some ⟨g, 0, none⟩) ((B.pack l).length + 1) cap)).stored (B.pack l).length (.int .u8 128)).1
      have hb3 := (Below.heap_setCell (w1.setCell ⟨b, 0, none⟩ (.slice (some ⟨g, 0, none⟩) ((B.pack l).length + 1) cap)) ⟨g, (B.pack l).length, none⟩ (.int .u8 128) b (by simp; omega)).trans hb2
      obtain ⟨cg, hcg⟩ := own_heap (ownsRow_setCell_below (a := ⟨b, 0, none⟩) ho2 (by simp) (.slice (some ⟨g, 0, none⟩) ((B.pack l).length + 1) cap)) (g := g) rfl
      refine ⟨rfl, ⟨.slice (some ⟨g, 0, none⟩) ((B.pack l).length + 1) cap, ?_, ?_⟩, (((B1.setCell (p := ⟨b, 0, none⟩) (Nat.le_refl _) _).setCell (p := ⟨g, _, none⟩) (by simp; omega) _).setCell (p := ⟨b, 1, none⟩) (Nat.le_refl _) _).drew, (((K1.own 0 _).far hcg _ _).own 1 _).drew⟩
      · have := heap_set_ hb3 1 (.int .i64 ((l.length : Int) + 1))
        simpa [World.drew] using this
      · rw [hpk, B.length_setLast, hbc, hl1]
        exact (ownsRow_setCell_below hst (a := ⟨b, 1, none⟩) (by simp) _).drew
  · cases c with
    | false =>
      refine (bit_room0 w b v l.length hb hn (by omega)).mono fun e w' h => ?_
      obtain ⟨rfl, rfl⟩ := h
      have hpk : B.pack (l ++ [false]) = B.pack l := by rw [B.pack_snoc]; unfold B.step B.grow; rw [if_neg (by simp), if_neg hn]
      refine ⟨rfl, ⟨v, ?_, ?_⟩, (Below.refl b w).setCell (p := ⟨b, 1, none⟩) (Nat.le_refl _) _, (KeepT.refl b w).own 1 _⟩
      · have := heap_set_ hb 1 (.int .i64 ((l.length : Int) + 1))
        simpa using this
      · rw [hpk]
        exact ownsRow_setCell_below hown (by simp) _
    | true =>
      obtain ⟨k, hk⟩ : ∃ k, (B.pack l).length = k + 1 := ⟨(B.pack l).length - 1, by omega⟩
      rw [hk] at hown
      obtain ⟨g, cap, rfl⟩ := ownsRow_succ hown
      obtain ⟨x, hx⟩ : ∃ x, (B.pack l)[k]? = some x := ⟨_, List.getElem?_eq_getElem (by omega)⟩
      have hgb := (hown.lt g rfl).1
      have hcx : w.cell? ⟨g, k, none⟩ = some (.int .u8 (x.toNat : Int)) := by rw [hown.cellAt k (by omega)]; exact getElem?_byteCells _ _ _ hx
      refine (bit_room1 w b g cap l.length k x hb hcx (hown.frozenAt k) (by omega) (by omega) hn (by omega)).mono fun e w' h => ?_
      obtain ⟨rfl, rfl⟩ := h
      have hpk : B.pack (l ++ [true]) = B.setLast (B.pack l) (UInt8.ofNat (128 >>> (l.length % 8))) := by
        rw [B.pack_snoc]; unfold B.step B.grow; rw [if_pos rfl, if_neg hn]
      have hbc := byteCells_setLast (B.pack l) k x hk (UInt8.ofNat (128 >>> (l.length % 8))) hx
      have hor := or_mask x (l.length % 8) (Nat.mod_lt _ (by omega))
      rw [hor]
      have hst := (hown.stored k (.int .u8 ((x ||| UInt8.ofNat (128 >>> (l.length % 8))).toNat : Int))).1
      have hb3 := (Below.heap_setCell w ⟨g, k, none⟩ (.int .u8 ((x ||| UInt8.ofNat (128 >>> (l.length % 8))).toNat : Int)) b (by simp; omega)).trans hb
      obtain ⟨cg, hcg⟩ := own_heap hown (g := g) rfl
      refine ⟨rfl, ⟨.slice (some ⟨g, 0, none⟩) (k + 1) cap, ?_, ?_⟩, (((Below.refl b w).setCell (p := ⟨g, k, none⟩) (by simp; omega) _).setCell (p := ⟨b, 1, none⟩) (Nat.le_refl _) _).drew, (((KeepT.refl b w).far hcg _ _).own 1 _).drew⟩
      · have := heap_set_ hb3 1 (.int .i64 ((l.length : Int) + 1))
        simpa [World.drew] using this
      · rw [hpk, B.length_setLast, hbc, hk]
        exact (ownsRow_setCell_below hst (a := ⟨b, 1, none⟩) (by simp) _).drew
end Go.Proofs.Ytodniacnjdnffaa
/- The writer's rows of bits: numbers and bits that are right; what may not be panics. -/
namespace Go.Proofs.Ytodniacnjdnffaa
open Go.RowKit
set_option linter.unusedVariables false

/-- what a call that lays bits comes to: more bits, or the panic -/
def Laid (w : World) (b : Nat) (l : Option (List Bool)) (e : Ending) (w' : World) : Prop :=
  Below b w w' ∧ match l with
    | some l => e = .returned (.tuple #[]) ∧ Wr w' b l
    | none => e = .panicked [{ v := .iface 88 (.agg #[]), recovered := false }]

theorem u64_bit (v k : Nat) (hv : v < 18446744073709551616) : (bits BinOp.and IntKind.u64 ((v : Int) / 2 ^ k) 1 == 1) = v.testBit k := by
  have h1 : ((v : Int) / 2 ^ k) = ((v / 2 ^ k : Nat) : Int) := by push_cast; rfl
  have h2 : v / 2 ^ k < 18446744073709551616 := Nat.lt_of_le_of_lt (Nat.div_le_self _ _) hv
  rw [h1, show (1 : Int) = ((1 : Nat) : Int) from rfl, u64_and_nat _ _ h2 (by decide), Nat.and_one_is_mod, Nat.testBit_eq_decide_div_mod_eq]
  rw [Bool.eq_iff_iff]
  simp only [beq_iff_eq, decide_eq_true_eq]
  omega

set_option maxHeartbeats 400000 in
theorem number_any (w : World) (b : Nat) (l : List Bool) (v : Nat) (n : Int) (h : Wr w b l) (hv : v < 18446744073709551616) (hl : l.length < 562949953421248) :
    Calls Try.prog 44 #[.pointer (some ⟨b, 0, none⟩), .int .u64 v, .int .i64 n] w (Laid w b (if 0 ≤ n ∧ n ≤ 64 then some (l ++ B.low v n.toNat) else none)) := by
  by_cases hn : 0 ≤ n ∧ n ≤ 64
  · rw [if_pos hn]
    obtain ⟨h0, h1⟩ := hn
    obtain ⟨n, rfl⟩ := Int.eq_ofNat_of_zero_le h0
    rw [Int.toNat_natCast]
    go_enter Try.func44, Try.ntmps44
    go_wp2
    go_loopw [6] (fun i wr => ∃ k : Nat, k ≤ n ∧ i = .int .i64 ((k : Int) - 1) ∧ Below b w wr ∧ ∃ m, m.length + k = l.length + n ∧ Wr wr b m ∧ m ++ B.low v k = l ++ B.low v n) (fun i _ => (intOf i + 1).toNat)
    case atStart => exact ⟨n, Nat.le_refl _, rfl, Below.refl _ _, l, rfl, h, rfl⟩
    case round =>
      obtain ⟨k, hk, rfl, hB, m, hm, hw, hlow⟩ := hrel
      rcases Nat.eq_zero_or_pos k with hk0 | hk0
      · subst hk0
        go_wp2
        go_end0
        refine ⟨hB, rfl, ?_⟩
        rw [B.low_zero, List.append_nil] at hlow
        rw [← hlow]; exact hw
      · obtain ⟨k, rfl⟩ : ∃ j, k = j + 1 := ⟨k - 1, by omega⟩
        have hbit := u64_bit v k hv
        go_wp2_with (go_at_call 50; refine (wbit_any _ b m (v.testBit k) hw (by omega)).mono ?_; rintro e w' ⟨rfl, hw', hB', _⟩)
        go_roundw
        case rel => exact ⟨k, by omega, rfl, hB.trans hB', m ++ [v.testBit k], by simp; omega, hw', by rw [← hlow, B.low_succ, List.append_assoc]; rfl⟩
        case measure => simp [intOf]
  · rw [if_neg hn]
    go_enter Try.func44, Try.ntmps44
    go_wp2
    all_goals exact ⟨rfl, Below.refl _ _, rfl⟩
theorem Wr.above {w w1 w2 : World} {b : Nat} {l : List Bool} (h : Wr w b l) (h1 : Below w.heap.size w w1) (h2 : Below w.heap.size w1 w2) : Wr w2 b l := by
  obtain ⟨v, hb, ho⟩ := h
  have hk : ∀ k, k < w.heap.size → w2.heap[k]? = w.heap[k]? := fun k hk => (h2.block k hk).trans (h1.block k hk)
  exact ⟨v, (hk b (lt_of_heap hb)).trans hb, ho.1, by
    rcases ho.2 with h0 | ⟨g, cap, cur, hv, hg, hh, r⟩
    · exact .inl h0
    · exact .inr ⟨g, cap, cur, hv, hg, (hk g (lt_of_heap hh)).trans hh, r⟩⟩

set_option maxHeartbeats 400000 in
theorem bits_any (w : World) (b : Nat) (l : List Bool) (s : ByteArray) (n : Int) (h : Wr w b l) (hl : l.length + 8 * s.size < 562949953421312) (hn : -9223372036854775808 ≤ n) (hn' : n ≤ 9223372036854775807) :
    Calls Try.prog 43 #[.pointer (some ⟨b, 0, none⟩), .agg #[.string s, .int .i64 n]] w (Laid w b (if rightB s.data.toList n then some (l ++ B.slice s.data.toList 0 n.toNat) else none)) := by
  have hs : s.size ≤ 281474976710656 := by omega
  have hbl := h.lt
  cases hr : rightB s.data.toList n with
  | false =>
    rw [if_neg (by simp)]
    have hc := fun W => right_any s n W hs hn hn'
    rw [hr] at hc
    clear hr
    have Hc := Lib.hid hc
    clear hc
    go_enter Try.func43, Try.ntmps43
    go_wp2_with (go_at_call 49; refine (Hc.out _).mono ?_; rintro e w' ⟨rfl, hB⟩)
    exact ⟨rfl, ((Below.refl b w).alloc (by omega) _).trans (hB.mono (by simp; omega)), rfl⟩
  | true =>
    rw [if_pos rfl]
    have hc := fun W => right_any s n W hs hn hn'
    rw [hr] at hc
    have Hc := Lib.hid hc
    clear hc
    obtain ⟨n, rfl, hn8⟩ : ∃ m : Nat, n = m ∧ m ≤ 8 * s.size := by
      unfold rightB at hr
      simp only [Bool.and_eq_true, decide_eq_true_eq] at hr
      obtain ⟨⟨h0, h1⟩, _⟩ := hr
      have : s.data.toList.length = s.size := by simp
      exact ⟨n.toNat, by omega, by omega⟩
    rw [Int.toNat_natCast]
    clear hr
    go_enter Try.func43, Try.ntmps43
    go_wp2_with
      (go_at_call 49
       refine (Hc.out _).mono ?_
       rintro e w1 ⟨rfl, hB1⟩
       obtain ⟨hc1, hf1⟩ := bcell hB1
       have hz1 : w.heap.size + 1 ≤ w1.heap.size := by have := hB1.size; simpa using this)
    have hbox : w1.heap[w.heap.size]? = some (.cells #[.string s, .int .i64 n] 41 (0, 0)) := (hB1.block _ (by simp)).trans (heap_alloc_new w _)
    have hW1 : Wr w1 b l := h.above ((Below.refl w.heap.size w).alloc (Nat.le_refl _) _) (hB1.mono (by simp))
    have hB0 : Below b w w1 := ((Below.refl b w).alloc (by omega) _).trans (hB1.mono (by simp; omega))
    clear hc1 hf1
    have Hbox := Lib.hid hbox
    have HW1 := Lib.hid hW1
    clear hbox hW1 hB1
    go_loopw [12] (fun i wr => ∃ k : Nat, k ≤ n ∧ i = .int .i64 k ∧ Below b w wr ∧ wr.heap[w.heap.size]? = some (.cells #[.string s, .int .i64 n] 41 (0, 0)) ∧ Wr wr b (l ++ B.slice s.data.toList 0 k)) (fun i _ => n - (intOf i).toNat)
    case atStart => exact ⟨0, Nat.zero_le _, rfl, hB0, Hbox.out, by simpa [B.slice] using HW1.out⟩
    case round =>
      obtain ⟨k, hk, rfl, hB, hbx, hw⟩ := hrel
      have q0 : wr.cell? ⟨w.heap.size, 0, none⟩ = some (.string s) := cell_of_heap hbx 0
      have Hbx := Lib.hid hbx
      clear hbx
      by_cases hlt : k < n
      · go_wp2_with (first
          | (go_at_call 51; refine (bit_any _ _ _ (by omega) (by omega) hs).mono ?_; rintro e w' ⟨rfl, rfl⟩)
          | (go_at_call 50; refine (wbit_any _ b _ (B.bitAt s.data.toList k) hw (by rw [List.length_append, B.length_slice]; omega)).mono ?_; rintro e w' ⟨rfl, hw', hB', hK'⟩))
        go_roundw
        case rel => exact ⟨k + 1, by omega, by go_num, hB.trans hB', hK' _ _ _ _ (by omega) (by decide) Hbx.out, by rw [B.slice_succ, ← List.append_assoc, Nat.zero_add]; exact hw'⟩
        case measure => simp [intOf]; omega
      · go_wp2
        obtain rfl : k = n := by omega
        go_end0
        exact ⟨hB, rfl, hw⟩
end Go.Proofs.Ytodniacnjdnffaa
/- What something lays, as bits or as an error: the deferred recover. -/
namespace Go.Proofs.Ytodniacnjdnffaa
open Go.RowKit
set_option linter.unusedVariables false

set_option maxHeartbeats 400000 in
theorem catch_idle (p q : Addr) (w : World) :
    CallsD Try.prog 48 #[.pointer (some p), .pointer (some q)] .returning w fun e u' w' => e = .returned (.tuple #[]) ∧ u' = .returning ∧ w' = w := by
  refine callsD_of_wpS Try.func48 rfl fun c₀ cs hu => ?_
  apply wpS_seq
  apply wpS_region
  simp [wpOpsS, go_sem, recoverD, hu, Try.ntmps48, Exit.thenS]
  refine wpS_of_wp ?_
  go_wp2
  obtain ⟨fn0, tm0, td0, df0, md0, kd0⟩ := c₀
  obtain rfl : md0 = _ := hu
  simp [bodyPostS, results, Try.results48]

theorem hta : ∀ w, (Instr.typeAssert (.iface 88 (.agg #[])) 20 88 true).run Try.prog w = .ok (.tuple #[.agg #[], .bool true]) w := fun _ => by kernel_rfl

set_option maxHeartbeats 400000 in
theorem catch_wrong (b g : Nat) (s : ByteArray) (n z : Int) (w : World) (hbg : ¬ b = g) (hgb : ¬ g = b) (hb : w.heap[b]? = some (.cells #[.string s, .int .i64 n] 41 (0, 0))) (hg : w.heap[g]? = some (.cells #[.int .i64 z] 27 (0, 0))) :
    CallsD Try.prog 48 #[.pointer (some ⟨b, 0, none⟩), .pointer (some ⟨g, 0, none⟩)] (.panicking [{ v := .iface 88 (.agg #[]), recovered := false }]) w fun e u' w' => e = .returned (.tuple #[]) ∧ u' = .panicking [{ v := .iface 88 (.agg #[]), recovered := true }] ∧ w' = (((w.setCell ⟨b, 0, none⟩ (.string ⟨#[]⟩)).setCell ⟨b, 1, none⟩ (.int .i64 0)).setCell ⟨g, 0, none⟩ (.int .i64 1)).alloc (.cells #[] 88) := by
  have hta := hta
  have c0 : w.cell? ⟨b, 0, none⟩ = some (.string s) := cell_of_heap hb 0
  have c1 : w.cell? ⟨b, 1, none⟩ = some (.int .i64 n) := cell_of_heap hb 1
  have c2 : w.cell? ⟨g, 0, none⟩ = some (.int .i64 z) := cell_of_heap hg 0
  have f0 := frozen_of_heap hb
  have f1 := frozen_of_heap hg
  have hbl := lt_of_heap hb
  have hgl := lt_of_heap hg
  refine callsD_of_wpS Try.func48 rfl fun c₀ cs hu => ?_
  apply wpS_seq
  apply wpS_region
  simp [wpOpsS, go_sem, recoverD, hu, Try.ntmps48, Exit.thenS]
  refine wpS_of_wp ?_
  go_wp2
  obtain ⟨fn0, tm0, td0, df0, md0, kd0⟩ := c₀
  obtain rfl : md0 = _ := hu
  simp [bodyPostS, results, Try.results48]

/-- bits as the program's value -/
def bitsVal (l : List Bool) : Value := .agg #[.string ⟨(B.pack l).toArray⟩, .int .i64 (l.length : Nat)]
/-- what laying comes to, as a pair -/
def laidVal : Option (List Bool) → Value
  | some l => .tuple #[bitsVal l, .int .i64 0]
  | none => .tuple #[.agg #[.string ⟨#[]⟩, .int .i64 0], .int .i64 1]

set_option maxHeartbeats 400000 in
theorem laid_any (w : World) (k : Nat) (cap : Array Value) (ls : Option (List Bool)) (hk : Enters Try.prog k)
    (hcl : ∀ (W : World) (b : Nat), Below w.heap.size w W → w.heap.size ≤ b → Wr W b [] → Calls Try.prog k (#[.pointer (some ⟨b, 0, none⟩)] ++ cap) W (Laid W b ls)) :
    Calls Try.prog 41 #[.func (.func k) #[] cap] w fun e w' => e = .returned (laidVal ls) ∧ Below w.heap.size w w' := by
  have hmf := hmf
  have Hcl := Lib.hid hcl
  clear hcl
  go_enter_defers Try.func41, Try.ntmps41
  have hW : ∀ (W : World), Wr ((W.alloc (.cells #[.slice none 0 0, .int .i64 0] 91))) W.heap.size [] := fun W =>
    ⟨.slice none 0 0, heap_alloc_new W _, World.ownsRow_nil _ _ _ _⟩
  obtain ⟨w3, hw3⟩ : ∃ w3, w3 = ((w.alloc (.cells #[.string ⟨#[]⟩, .int .i64 0] 41)).alloc (.cells #[.int .i64 0] 27)).alloc (.cells #[.slice none 0 0, .int .i64 0] 91) := ⟨_, rfl⟩
  have hsz : w.heap.size + 3 = w3.heap.size := by rw [hw3]; simp
  have hB3 : Below w.heap.size w w3 := by rw [hw3]; exact (((Below.refl _ _).alloc (Nat.le_refl _) _).alloc (by simp) _).alloc (by simp; omega) _
  have hW3 : Wr w3 (w.heap.size + 1 + 1) [] := by rw [hw3]; have := hW ((w.alloc (.cells #[.string ⟨#[]⟩, .int .i64 0] 41)).alloc (.cells #[.int .i64 0] 27)); simpa using this
  have hb0 : w3.heap[w.heap.size]? = some (.cells #[.string ⟨#[]⟩, .int .i64 0] 41 (0, 0)) := by
    rw [hw3, Below.heap_alloc _ _ _ (by simp; omega), Below.heap_alloc _ _ _ (by simp)]
    exact heap_alloc_new w _
  have hb1 : w3.heap[w.heap.size + 1]? = some (.cells #[.int .i64 0] 27 (0, 0)) := by
    rw [hw3, Below.heap_alloc _ _ _ (by simp)]
    have := heap_alloc_new (w.alloc (.cells #[.string ⟨#[]⟩, .int .i64 0] 41)) (.cells #[.int .i64 0] 27)
    simpa using this
  have Hw3 := Lib.hid hw3
  clear hw3 hW
  have C := Lib.hid (Hcl.out w3 _ hB3 (by omega) hW3)
  have hen := hk
  unfold Enters at hen
  go_wp2_with fail
  rw [← Hw3.out]
  refine C.out.mono ?_
  rintro e w4 ⟨hB4, hL⟩
  have h40 := (hB4.block w.heap.size (by omega)).trans hb0
  have h41 := (hB4.block (w.heap.size + 1) (by omega)).trans hb1
  have hz4 : w.heap.size + 3 ≤ w4.heap.size := by have := hB4.size; omega
  have hB := hB3.trans (hB4.mono (by omega))
  clear hb0 hb1 hW3 hB3 hsz Hw3 C hen
  cases ls with
  | none =>
    obtain rfl := hL
    go_wp2
    refine leaves_cons (f := 48) (args := #[.pointer (some ⟨w.heap.size, 0, none⟩), .pointer (some ⟨w.heap.size + 1, 0, none⟩)]) (by simp) (by simp [go_sem]) ?_
    refine (catch_wrong w.heap.size (w.heap.size + 1) _ _ _ w4 (by omega) (by omega) h40 h41).mono ?_
    rintro e u' w'' ⟨rfl, rfl, rfl⟩
    have s1 := heap_set_ (heap_set_ h40 0 (.string ⟨#[]⟩)) 1 (.int .i64 0)
    have s2 := ((Below.heap_setCell _ ⟨w.heap.size, 1, none⟩ (.int .i64 0) (w.heap.size + 1) (by simp)).trans (Below.heap_setCell w4 ⟨w.heap.size, 0, none⟩ (.string ⟨#[]⟩) (w.heap.size + 1) (by simp))).trans h41
    have s3 := heap_set_ s2 0 (.int .i64 1)
    have s4 := (Below.heap_setCell _ ⟨w.heap.size + 1, 0, none⟩ (.int .i64 1) w.heap.size (by simp)).trans s1
    have s5 := (Below.heap_alloc _ (.cells #[] 88) _ (lt_of_heap s4)).trans s4
    have s6 := (Below.heap_alloc _ (.cells #[] 88) _ (lt_of_heap s3)).trans s3
    have hB' : Below w.heap.size w ((((w4.setCell ⟨w.heap.size, 0, none⟩ (.string ⟨#[]⟩)).setCell ⟨w.heap.size, 1, none⟩ (.int .i64 0)).setCell ⟨w.heap.size + 1, 0, none⟩ (.int .i64 1)).alloc (.cells #[] 88)) :=
      (((hB.setCell (p := ⟨w.heap.size, 0, none⟩) (Nat.le_refl _) _).setCell (p := ⟨w.heap.size, 1, none⟩) (Nat.le_refl _) _).setCell (p := ⟨w.heap.size + 1, 0, none⟩) (by simp) _).alloc (by simp; omega) _
    generalize ((((w4.setCell ⟨w.heap.size, 0, none⟩ (.string ⟨#[]⟩)).setCell ⟨w.heap.size, 1, none⟩ (.int .i64 0)).setCell ⟨w.heap.size + 1, 0, none⟩ (.int .i64 1)).alloc (.cells #[] 88)) = W at *
    have c0 : W.cell? ⟨w.heap.size, 0, none⟩ = some (.string ⟨#[]⟩) := cell_of_heap s5 0
    have c1 : W.cell? ⟨w.heap.size, 1, none⟩ = some (.int .i64 0) := cell_of_heap s5 1
    have c2 : W.cell? ⟨w.heap.size + 1, 0, none⟩ = some (.int .i64 1) := cell_of_heap s6 0
    simp [Leaves, settle, results, Try.results41, go_sem, c0, c1, c2, laidVal]
    exact hB'
  | some l =>
    obtain ⟨rfl, v, hv, hown⟩ := hL
    have hcv := convert_own _ hown
    have c0 : w4.cell? ⟨w.heap.size, 0, none⟩ = some (.string ⟨#[]⟩) := cell_of_heap h40 0
    have c1 : w4.cell? ⟨w.heap.size, 1, none⟩ = some (.int .i64 0) := cell_of_heap h40 1
    have c2 : w4.cell? ⟨w.heap.size + 1, 0, none⟩ = some (.int .i64 0) := cell_of_heap h41 0
    have c3 : w4.cell? ⟨w.heap.size + 1 + 1, 0, none⟩ = some v := cell_of_heap hv 0
    have c4 : w4.cell? ⟨w.heap.size + 1 + 1, 1, none⟩ = some (.int .i64 l.length) := cell_of_heap hv 1
    have f0 := frozen_of_heap h40
    have f1 := frozen_of_heap h41
    have f2 := frozen_of_heap hv
    have Hown := Lib.hid hown
    have H40 := Lib.hid h40
    have H41 := Lib.hid h41
    have Hv := Lib.hid hv
    clear hown h40 h41 hv
    go_wp2
    refine leaves_cons (f := 48) (args := #[.pointer (some ⟨w.heap.size, 0, none⟩), .pointer (some ⟨w.heap.size + 1, 0, none⟩)]) (by simp) (by simp [go_sem]) ?_
    refine (catch_idle _ _ _).mono ?_
    rintro e u' w'' ⟨rfl, rfl, rfl⟩
    simp [Leaves, settle, results, Try.results41, go_sem, c0, c1, c2, laidVal]
    exact ⟨rfl, ((hB.setCell (p := ⟨w.heap.size, 0, none⟩) (Nat.le_refl _) _).setCell (p := ⟨w.heap.size, 1, none⟩) (Nat.le_refl _) _).setCell (p := ⟨w.heap.size + 1, 0, none⟩) (by simp) _⟩
end Go.Proofs.Ytodniacnjdnffaa
