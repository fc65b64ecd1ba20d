/- awake of the law's package: its first calls answer as they must. -/
import Derived.Test.YtbanageccecmnaaMagicFind
import Derived.Test.YtbanageccecmnaaMagicMatch
import Derived.Test.YtbanageccecmnaaRefInts
namespace Go.Proofs.Ytbanageccecmnaa
open Go.RowKit
set_option linter.unusedVariables false

theorem aw_all (W : World) : Calls Try.prog 9 #[.string ⟨#[5, 80]⟩, .int .u64 5, .int .i64 3] W fun e W' => ∃ v, e = .returned v ∧ IsInts W' W'.heap.size v [5, 7, 9] ∧ Below W.heap.size W W' := by
  have he : allL [5, 80] 5 3 = [5, 7, 9] := by kernel_rfl
  refine (all_any ⟨#[5, 80]⟩ 5 3 W (by decide) (by decide) (by decide) (by decide)).mono ?_
  rintro e W' ⟨v, rfl, hr, hB⟩
  rw [show (ByteArray.mk #[5, 80]).data.toList = [5, 80] from rfl, he] at hr
  exact ⟨v, rfl, Rd.own hr, hB⟩
theorem aw_find1 (W : World) : Calls Try.prog 10 #[.string ⟨#[5, 80]⟩, .int .i64 6, .int .u64 5, .int .i64 3] W fun e W' => e = .returned (.int .i64 7) ∧ Below W.heap.size W W' :=
  (find_any ⟨#[5, 80]⟩ 6 5 3 W (by decide) (by decide) (by decide) (by decide) (by decide) (by decide)).mono fun _ _ h => ⟨h.1.trans (congrArg (fun b => Ending.returned (.int .i64 b)) (by kernel_rfl)), h.2⟩
theorem aw_find2 (W : World) : Calls Try.prog 10 #[.string ⟨#[5, 80]⟩, .int .i64 10, .int .u64 5, .int .i64 3] W fun e W' => e = .returned (.int .i64 (-1)) ∧ Below W.heap.size W W' :=
  (find_any ⟨#[5, 80]⟩ 10 5 3 W (by decide) (by decide) (by decide) (by decide) (by decide) (by decide)).mono fun _ _ h => ⟨h.1.trans (congrArg (fun b => Ending.returned (.int .i64 b)) (by kernel_rfl)), h.2⟩
theorem aw_match1 (W : World) : Calls Try.prog 11 #[.string ⟨#[5, 80]⟩, .int .i64 5, .int .u64 5, .int .i64 3] W fun e W' => e = .returned (.bool true) ∧ Below W.heap.size W W' :=
  (match_any ⟨#[5, 80]⟩ 5 5 3 W (by decide) (by decide) (by decide) (by decide) (by decide) (by decide)).mono fun _ _ h => ⟨h.1.trans (congrArg (fun b => Ending.returned (.bool b)) (by kernel_rfl)), h.2⟩
theorem aw_match2 (W : World) : Calls Try.prog 11 #[.string ⟨#[5, 80]⟩, .int .i64 6, .int .u64 5, .int .i64 3] W fun e W' => e = .returned (.bool false) ∧ Below W.heap.size W W' :=
  (match_any ⟨#[5, 80]⟩ 6 5 3 W (by decide) (by decide) (by decide) (by decide) (by decide) (by decide)).mono fun _ _ h => ⟨h.1.trans (congrArg (fun b => Ending.returned (.bool b)) (by kernel_rfl)), h.2⟩
theorem aw_match3 (W : World) : Calls Try.prog 11 #[.string ⟨#[97]⟩, .int .i64 0, .int .u64 0, .int .i64 0] W fun e W' => e = .returned (.bool false) ∧ Below W.heap.size W W' :=
  (match_any ⟨#[97]⟩ 0 0 0 W (by decide) (by decide) (by decide) (by decide) (by decide) (by decide)).mono fun _ _ h => ⟨h.1.trans (congrArg (fun b => Ending.returned (.bool b)) (by kernel_rfl)), h.2⟩
theorem aw_ints (W : World) (va vb : Value) (ha : IsInts W W.heap.size va [5, 7, 9]) (hb : IsInts W W.heap.size vb [5, 7, 9]) : Calls Try.prog 12 #[va, vb] W fun e w' => e = .returned (.bool true) ∧ Below W.heap.size W w' :=
  (refInts_any W va vb _ _ ha hb (by decide) (by decide)).mono fun _ _ h => ⟨h.1.trans (congrArg (fun b => Ending.returned (.bool b)) (by decide)), h.2⟩

set_option maxRecDepth 100000 in
set_option maxHeartbeats 1600000 in
theorem awake2_any (w : World) : Calls Try.prog 7 #[] w fun e w' => e = .returned (.bool true) ∧ Below w.heap.size w w' := by
  go_enter Try.func7, Try.ntmps7
  go_wp2_with fail
  refine (aw_all _).mono ?_
  rintro e w1 ⟨v, rfl, hv, hB1⟩
  have hv' : IsInts (w1.alloc (.cells #[.int .i64 5, .int .i64 7, .int .i64 9] 3)) (w1.alloc (.cells #[.int .i64 5, .int .i64 7, .int .i64 9] 3)).heap.size v [5, 7, 9] := (hv.below ((Below.refl w1.heap.size w1).alloc (Nat.le_refl _) _) (Nat.le_refl _)).mono (by simp)
  have hn : IsInts (w1.alloc (.cells #[.int .i64 5, .int .i64 7, .int .i64 9] 3)) (w1.alloc (.cells #[.int .i64 5, .int .i64 7, .int .i64 9] 3)).heap.size (.slice (some ⟨w1.heap.size, 0, none⟩) 3 3) [5, 7, 9] := Rd.mono (Rd.new w1 #[.int .i64 5, .int .i64 7, .int .i64 9] _ 1 3 rfl (by decide)) (by simp)
  have z1 := hB1.size
  clear hv
  go_wp2_with fail
  refine (aw_ints _ _ _ hv' hn).mono ?_
  rintro e w2 ⟨rfl, hB2⟩
  have hBw2 : Below w.heap.size w w2 := (hB1.alloc (by omega) _).trans (hB2.mono (by simp; omega))
  have z2 := hBw2.size
  clear hv' hn hB1 hB2 z1
  go_wp2_with fail
  refine (aw_find1 _).mono ?_
  rintro e w3 ⟨rfl, hB3⟩
  have hBw3 : Below w.heap.size w w3 := hBw2.trans (hB3.mono (by omega))
  have z3 := hBw3.size
  clear hBw2 hB3
  go_wp2_with fail
  refine (aw_find2 _).mono ?_
  rintro e w4 ⟨rfl, hB4⟩
  have hBw4 : Below w.heap.size w w4 := hBw3.trans (hB4.mono (by omega))
  have z4 := hBw4.size
  clear hBw3 hB4
  go_wp2_with fail
  refine (aw_match1 _).mono ?_
  rintro e w5 ⟨rfl, hB5⟩
  have hBw5 : Below w.heap.size w w5 := hBw4.trans (hB5.mono (by omega))
  have z5 := hBw5.size
  clear hBw4 hB5
  go_wp2_with fail
  refine (aw_match2 _).mono ?_
  rintro e w6 ⟨rfl, hB6⟩
  have hBw6 : Below w.heap.size w w6 := hBw5.trans (hB6.mono (by omega))
  have z6 := hBw6.size
  clear hBw5 hB6
  go_wp2_with fail
  refine (aw_match3 _).mono ?_
  rintro e w7 ⟨rfl, hB7⟩
  have hBw7 : Below w.heap.size w w7 := hBw6.trans (hB7.mono (by omega))
  clear hBw6 hB7
  go_wp2
  go_ret
  exact ⟨rfl, hBw7⟩
end Go.Proofs.Ytbanageccecmnaa
