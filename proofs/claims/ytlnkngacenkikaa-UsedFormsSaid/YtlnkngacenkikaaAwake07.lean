/- awake of the law's package; pick. -/
import Derived.Test.YtlnkngacenkikaaUsedUnmap
namespace Go.Proofs.Ytlnkngacenkikaa
open Go.RowKit
set_option linter.unusedVariables false

set_option maxHeartbeats 400000 in
theorem pick07_any (c n : Int) (w : World) (hc : -9223372036854775808 ≤ c) (hc' : c ≤ 9223372036854775807) (hn : 0 < n) (hn' : n ≤ 9223372036854775807) :
    Calls Try.prog 13 #[.int .i64 c, .int .i64 n] w fun e w' => e = .returned (.int .i64 (pickF c n)) ∧ w = w' := by
  by_cases h : c < 0
  · have e : pickF c n = (-(c + 1)) % n := by unfold pickF; rw [if_pos h]
    rw [e]; clear e
    go_enter Try.func13, Try.ntmps13
    go_wp2
    go_ret
    exact ⟨ret_int (by rw [← Int.neg_tmod]; exact Int.tmod_eq_emod_of_nonneg (by omega)), rfl⟩
  · have e : pickF c n = c % n := by unfold pickF; rw [if_neg h]
    rw [e]; clear e
    go_enter Try.func13, Try.ntmps13
    go_wp2
    go_ret
    exact ⟨rfl, rfl⟩
set_option maxRecDepth 100000 in
set_option maxHeartbeats 800000 in
theorem unmap_neg (w : World) (s : ByteArray) (a : Int) (hs : s.size ≤ 1000000) (ha : a < 0) (ha' : -1000000000 ≤ a) :
    Calls Try.prog 12 #[.string s, .int .i64 a] w fun e w' => e = .returned (.tuple #[.string ⟨#[]⟩, .int .i64 0, .int .i64 1]) ∧ Below w.heap.size w w' := by
  have C : Hid (∀ W, Calls Try.prog 25 #[.string s, .int .i64 a, .int .i64 16] W fun e w' => e = .returned (.tuple #[.int .u64 0, .int .i64 1]) ∧ W = w') := fun W => by
    have := get_any s a 16 W (by omega)
    rw [show getV s.data.toList a 16 = 0 by unfold getV; rw [if_pos (by omega)], show getE s.data.toList a 16 = 1 by unfold getE; rw [if_pos (by omega)]] at this
    exact this
  go_enter Try.func12, Try.ntmps12
  go_wp2_with fail
  refine (C.out _).mono ?_
  rintro e w_ ⟨rfl, rfl⟩
  go_wp2_with fail
  go_loopw [6, 10] (fun ev kv wr => ev = .int .i64 1 ∧ kv = .int .i64 0 ∧ Below w.heap.size w wr) (fun _ _ _ => 1)
  case atStart => exact ⟨rfl, rfl, Below.refl _ _⟩
  case round =>
    obtain ⟨rfl, rfl, hB⟩ := hrel
    go_wp2_with fail
    go_ret3
    exact ⟨rfl, hB⟩
theorem unmap_is (w : World) (s : ByteArray) (a : Nat) (l : List UInt8) (x : Nat) (hs : s.size ≤ 1000000) (ha : a ≤ 1000000000) (h : unmapR s.data.toList a = .ok (l, x)) :
    Calls Try.prog 12 #[.string s, .int .i64 (a : Nat)] w fun e w' => e = .returned (.tuple #[.string ⟨l.toArray⟩, .int .i64 (x : Nat), .int .i64 0]) ∧ Below w.heap.size w w' := by
  have := unmap_any w s a hs ha
  rw [h] at this
  exact this
theorem unmap_er (w : World) (s : ByteArray) (a : Nat) (c : Int) (hs : s.size ≤ 1000000) (ha : a ≤ 1000000000) (h : unmapR s.data.toList a = .error c) :
    Calls Try.prog 12 #[.string s, .int .i64 (a : Nat)] w fun e w' => e = .returned (.tuple #[.string ⟨#[]⟩, .int .i64 0, .int .i64 c]) ∧ Below w.heap.size w w' := by
  have := unmap_any w s a hs ha
  rw [h] at this
  exact this
theorem aw_map (w : World) : Calls Try.prog 7 #[.string ⟨#[98, 97]⟩] w fun e w' => e = .returned (.agg #[.string ⟨#[2, 0, 96, 0]⟩, .int .i64 32]) ∧ Below w.heap.size w w' :=
  (map_any w ⟨#[98, 97]⟩ (by decide)).mono fun _ _ h => ⟨h.1.trans (congrArg (fun b => Ending.returned (.agg b)) (show #[Value.string (txt (mapL [98, 97])), .int .i64 ((mapL [98, 97]).length : Nat)] = #[.string ⟨#[2, 0, 96, 0]⟩, .int .i64 32] by kernel_rfl)), h.2⟩
theorem aw_alpha (w : World) : Calls Try.prog 9 #[.string ⟨#[98, 97, 98]⟩] w fun e w' => e = .returned (.string ⟨#[97, 98]⟩) ∧ Below w.heap.size w w' :=
  (alphabet_any w ⟨#[98, 97, 98]⟩ (by decide)).mono fun _ _ h => ⟨h.1.trans (congrArg (fun b => Ending.returned (.string ⟨b⟩)) (show (alphaL [98, 97, 98]).toArray = #[97, 98] by kernel_rfl)), h.2⟩

set_option maxRecDepth 100000 in
set_option maxHeartbeats 1600000 in
theorem awake07_any (w : World) : Calls Try.prog 6 #[] w fun e w' => e = .returned (.bool true) ∧ Below w.heap.size w w' := by
  go_enter Try.func6, Try.ntmps6
  go_wp2_with fail
  refine (unmap_is _ ⟨#[2, 0, 96, 0]⟩ 0 [97, 98] 32 (by decide) (by decide) (by kernel_rfl)).mono ?_
  rintro e w1 ⟨rfl, hB1⟩
  go_wp2_with fail
  refine (unmap_er _ ⟨#[2, 0]⟩ 0 2 (by decide) (by decide) (by kernel_rfl)).mono ?_
  rintro e w2 ⟨rfl, hB2⟩
  have hW2 := hB1.trans (hB2.mono hB1.size)
  clear hB1 hB2
  go_wp2_with fail
  refine (unmap_er _ ⟨#[0, 0]⟩ 0 3 (by decide) (by decide) (by kernel_rfl)).mono ?_
  rintro e w3 ⟨rfl, hB3⟩
  have hW3 := hW2.trans (hB3.mono hW2.size)
  clear hW2 hB3
  go_wp2_with fail
  refine (unmap_neg _ ⟨#[]⟩ (-1) (by decide) (by decide) (by decide)).mono ?_
  rintro e w4 ⟨rfl, hB4⟩
  have hW4 := hW3.trans (hB4.mono hW3.size)
  clear hW3 hB4
  go_wp2_with fail
  refine (aw_alpha _).mono ?_
  rintro e w5 ⟨rfl, hB5⟩
  have hW5 := hW4.trans (hB5.mono hW4.size)
  clear hW4 hB5
  go_wp2_with fail
  refine (aw_map _).mono ?_
  rintro e w6 ⟨rfl, hB6⟩
  have hW6 := hW5.trans (hB6.mono hW5.size)
  clear hW5 hB6
  go_wp2_with fail
  go_ret
  exact ⟨rfl, hW6⟩
end Go.Proofs.Ytlnkngacenkikaa
