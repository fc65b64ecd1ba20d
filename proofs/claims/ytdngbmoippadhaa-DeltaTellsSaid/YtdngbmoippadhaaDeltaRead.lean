/- layer 9: the reader's methods, which may panic: walks. -/
import Derived.Test.YtdngbmoippadhaaDeltaPut
import Derived.Test.YtdngbmoippadhaaBitsSame
import Derived.WalkLawsBesides
namespace Go.Proofs.Ytdngbmoippadhaa
open Go.RowKit
set_option linter.unusedVariables false

/-- the chain that the reader throws -/
def oddPanic (why : Int) : List PanicEntry := [{ v := .iface 52 (.agg #[.int .i64 why]), recovered := false }]
theorem fits_ok (r : Value) (n : Int) (W : World) (h : mayF n = true) : Calls Try.prog 28 #[r, .int .i64 n] W fun e w' => e = .returned (.int .i64 n) ∧ W = w' := by
  have C := Lib.hid (may_any n)
  rw [h] at C
  clear h
  go_enter Try.func28, Try.ntmps28
  go_wp2_with fail
  refine (C.out _).mono ?_
  rintro e w1 ⟨rfl, rfl⟩
  go_wp2_with fail
  go_ret
  exact ⟨rfl, rfl⟩
theorem fits_no (r : Value) (n : Int) (W : World) (h : mayF n = false) : Calls Try.prog 28 #[r, .int .i64 n] W fun e w' => e = .panicked (oddPanic 3) ∧ W = w' := by
  have C := Lib.hid (may_any n)
  rw [h] at C
  clear h
  go_enter Try.func28, Try.ntmps28
  go_wp2_with fail
  refine (C.out _).mono ?_
  rintro e w1 ⟨rfl, rfl⟩
  go_wp2_with fail
  exact ⟨rfl, rfl, rfl⟩
set_option maxHeartbeats 400000 in
/-- so many bits where they are -/
theorem number_ok (w : World) (k : Nat) (s : ByteArray) (at0 n : Nat) (hE : w.heap[k]? = some (.cells #[.string s, .int .i64 at0] 55 (0, 0))) (hs : s.size ≤ 1099511627776) (hn : n ≤ 5) (h : at0 + n ≤ 8 * s.size) :
    Calls Try.prog 29 #[.pointer (some ⟨k, 0, none⟩), .int .i64 n] w fun e w' => e = .returned (.int .i64 (B.num (B.slice s.data.toList at0 n) : Nat)) ∧ ∃ W, Below w.heap.size w W ∧ w' = W.setCell ⟨k, 1, none⟩ (.int .i64 ((at0 + n : Nat) : Int)) := by
  have hl : s.data.toList.length = s.size := by simp
  have G : Hid (∀ W, Calls Try.prog 42 #[.string s, .int .i64 at0, .int .i64 n] W fun e w' => e = .returned (.tuple #[.int .u64 (B.num (B.slice s.data.toList at0 n) : Nat), .int .i64 0]) ∧ W = w') := fun W => by
    have := get_any s at0 n W (by omega)
    rw [getE_ok _ at0 n (by omega) (by omega), getV_ok _ at0 n (by omega) (by omega)] at this
    exact this
  have hb : B.num (B.slice s.data.toList at0 n) < 32 := by
    have h1 := B.num_lt (B.slice s.data.toList at0 n)
    rw [B.length_slice] at h1
    exact Nat.lt_of_lt_of_le h1 (Nat.pow_le_pow_right (by omega) hn)
  generalize B.num (B.slice s.data.toList at0 n) = v at *
  have k0 : w.cell? ⟨k, 0, none⟩ = some (.string s) := cell_of_heap hE 0
  have k1 : w.cell? ⟨k, 1, none⟩ = some (.int .i64 at0) := cell_of_heap hE 1
  have f1 : w.frozen? ⟨k, 1, none⟩ = false := frozen_of_heap hE 1
  have x0 : k < w.heap.size := lt_of_heap hE
  have hwr : IntKind.i64.wrap (v : Int) = (v : Int) := IntWalk.i64_in _ (by omega)
  clear hE hl
  go_enter Try.func29, Try.ntmps29
  go_wp2_with fail
  go_quiet ((go_at_call 42; exact quiet_l (G.out _)))
  go_wp2_with fail
  go_ret
  exact ⟨rfl, w.drewN nq, below_drewN (Below.refl _ _) nq, by rw [Int.natCast_add]⟩
theorem number_no (w : World) (k : Nat) (s : ByteArray) (at0 n : Nat) (hE : w.heap[k]? = some (.cells #[.string s, .int .i64 at0] 55 (0, 0))) (hs : s.size ≤ 1099511627776) (hat : at0 ≤ 9223372036854775807) (hn : n ≤ 5) (h : 8 * s.size < at0 + n) :
    Calls Try.prog 29 #[.pointer (some ⟨k, 0, none⟩), .int .i64 n] w fun e w' => e = .panicked (oddPanic 2) ∧ Below w.heap.size w w' := by
  have hl : s.data.toList.length = s.size := by simp
  have G : Hid (∀ W, Calls Try.prog 42 #[.string s, .int .i64 at0, .int .i64 n] W fun e w' => e = .returned (.tuple #[.int .u64 0, .int .i64 2]) ∧ W = w') := fun W => by
    have := get_any s at0 n W (by omega)
    rw [show getE s.data.toList at0 n = 2 by unfold getE; rw [if_neg (by omega), if_pos (by rw [hl]; omega)], show getV s.data.toList at0 n = 0 by unfold getV; rw [if_neg (by omega), if_pos (by rw [hl]; omega)]] at this
    exact this
  have k0 : w.cell? ⟨k, 0, none⟩ = some (.string s) := cell_of_heap hE 0
  have k1 : w.cell? ⟨k, 1, none⟩ = some (.int .i64 at0) := cell_of_heap hE 1
  have x0 : k < w.heap.size := lt_of_heap hE
  clear hE hl
  go_enter Try.func29, Try.ntmps29
  go_wp2_with fail
  go_quiet ((go_at_call 42; exact quiet_l (G.out _)))
  go_wp2_with fail
  exact ⟨rfl, rfl, below_drewN (Below.refl _ _) nq⟩
end Go.Proofs.Ytdngbmoippadhaa
