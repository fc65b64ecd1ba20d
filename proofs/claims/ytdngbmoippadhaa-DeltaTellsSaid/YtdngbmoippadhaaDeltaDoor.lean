/- layer 9: the closure that Take defers: its two contracts. -/
import Derived.Test.YtdngbmoippadhaaDeltaLen
import Derived.Defers
import Derived.Recover
import Derived.RegionTactic
import Derived.Laws.Pointers
namespace Go.Proofs.Ytdngbmoippadhaa
open Go.RowKit
set_option linter.unusedVariables false

theorem door_idle (p q r : Addr) (w : World) :
    CallsD Try.prog 27 #[.pointer (some p), .pointer (some q), .pointer (some r)] .returning w fun e u' w' => e = .returned (.tuple #[]) ∧ u' = .returning ∧ w' = w := by
  refine callsD_of_wpS Try.func27 rfl fun c₀ cs hu => ?_
  apply wpS_seq
  apply wpS_region
  simp [wpOpsS, go_sem, recoverD, hu, Try.ntmps27, Exit.thenS]
  refine wpS_of_wp ?_
  go_wp2
  cases c₀
  simp_all [bodyPostS, results, Try.results27]
theorem odd_is (v : Value) (w : World) : (Instr.typeAssert (.iface 52 v) 20 52 true).run Try.prog w = .ok (.tuple #[v, .bool true]) w := by kernel_rfl
set_option maxRecDepth 100000 in
set_option maxHeartbeats 1600000 in
theorem door_odd (a b c : Nat) (va vb vc : Value) (why : Int) (w : World) (ha : w.cell? ⟨a, 0, none⟩ = some va) (hb : w.cell? ⟨b, 0, none⟩ = some vb) (hc : w.cell? ⟨c, 0, none⟩ = some vc)
    (fa : w.frozen? ⟨a, 0, none⟩ = false) (fb : w.frozen? ⟨b, 0, none⟩ = false) (fc : w.frozen? ⟨c, 0, none⟩ = false) (xa : a < w.heap.size) (xb : b < w.heap.size) (xc : c < w.heap.size) (hab : a ≠ b) (hac : a ≠ c) (hbc : b ≠ c) :
    CallsD Try.prog 27 #[.pointer (some ⟨a, 0, none⟩), .pointer (some ⟨b, 0, none⟩), .pointer (some ⟨c, 0, none⟩)] (.panicking (oddPanic why)) w fun e u' w' => e = .returned (.tuple #[]) ∧ u' = .panicking [{ v := .iface 52 (.agg #[.int .i64 why]), recovered := true }] ∧ w' = ((((w.setCell ⟨a, 0, none⟩ (.slice none 0 0)).setCell ⟨b, 0, none⟩ (.int .i64 0)).setCell ⟨c, 0, none⟩ (.int .i64 why)).alloc (.cells #[.int .i64 why] 52)).drew := by
  unfold oddPanic
  refine callsD_of_wpS Try.func27 rfl fun c₀ cs hu => ?_
  apply wpS_seq
  apply wpS_region
  simp [wpOpsS, go_sem, recoverD, hu, Try.ntmps27, Exit.thenS]
  refine wpS_of_wp ?_
  show Code.wp Try.prog _ _ { tmps := #[.pointer (some ⟨a, 0, none⟩), .pointer (some ⟨b, 0, none⟩), .pointer (some ⟨c, 0, none⟩), undef, undef, undef, .iface 52 (.agg #[.int .i64 why]), undef, undef, undef, undef, undef, undef, undef], defers := [] } _
  go_wp2_with fail
  rw [odd_is]
  go_wp2_with fail
  go_region
  go_wp2
  obtain ⟨fn0, tm0, td0, df0, md0, kd0⟩ := c₀
  obtain rfl : md0 = _ := hu
  simp [bodyPostS, results, Try.results27]
end Go.Proofs.Ytdngbmoippadhaa
