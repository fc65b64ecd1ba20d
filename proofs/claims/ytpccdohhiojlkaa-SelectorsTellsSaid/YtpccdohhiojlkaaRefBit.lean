/- The document's bit and Get (RefGet without Number: for seats that do not reach it). -/
import Derived.Test.YtpccdohhiojlkaaOf
import Derived.Test.YtpccdohhiojlkaaBitsFacts
import Derived.Test.YtpccdohhiojlkaaKit
namespace Go.Proofs.Ytpccdohhiojlkaa
open Go.RowKit
set_option linter.unusedVariables false

theorem shr_testBit (x : UInt8) (r : Nat) (hr : r < 8) : ((((x.toNat : Int) / 2 ^ (7 - r)).tmod 2)) = ((x.toNat.testBit (7 - r)).toNat : Int) := by
  have h : ∀ (x : Fin 256) (r : Fin 8), (((x.val : Int) / 2 ^ (7 - r.val)).tmod 2) = ((x.val.testBit (7 - r.val)).toNat : Int) := by decide +kernel
  exact h ⟨x.toNat, x.toNat_lt⟩ ⟨r, hr⟩
set_option maxHeartbeats 400000 in
theorem rbit_any (s : ByteArray) (i : Nat) (w : World) (h : i < 8 * s.size) (hs : s.size ≤ 281474976710656) :
    Calls Try.prog 49 #[.string s, .int .i64 (i : Nat)] w fun e w' => e = .returned (.int .i64 ((B.bitAt s.data.toList i).toNat : Nat)) ∧ w = w' := by
  go_enter Try.func49, Try.ntmps49
  go_wp2
  go_ret
  refine ⟨ret_int ?_, rfl⟩
  have hlt := (s[i / 8]'(by omega)).toNat_lt
  rw [← bitAt_get s i (by omega), ← shr_testBit _ _ (Nat.mod_lt _ (by omega)), show wrap64 ((s[i / 8]).toNat : Int) = ((s[i / 8]).toNat : Int) by unfold wrap64; omega]

set_option maxHeartbeats 800000 in
theorem refGet_any (s : ByteArray) (a n : Int) (w : World) (hs : s.size ≤ 281474976710656) :
    Calls Try.prog 43 #[.string s, .int .i64 a, .int .i64 n] w fun e w' => e = .returned (.tuple #[.int .u64 (getV s.data.toList a n), .int .i64 (getE s.data.toList a n)]) ∧ w = w' := by
  by_cases h1 : n < 0 ∨ 64 < n ∨ a < 0
  · have hv : getV s.data.toList a n = 0 := by unfold getV; rw [if_pos h1]
    have he : getE s.data.toList a n = 1 := by unfold getE; rw [if_pos h1]
    rw [hv, he]; clear hv he
    go_enter Try.func43, Try.ntmps43
    go_wp2
    all_goals (go_ret2; exact ⟨rfl, rfl⟩)
  · by_cases h2 : 8 * (s.data.toList.length : Int) - n < a
    · have hv : getV s.data.toList a n = 0 := by unfold getV; rw [if_neg h1, if_pos h2]
      have he : getE s.data.toList a n = 2 := by unfold getE; rw [if_neg h1, if_pos h2]
      rw [hv, he]; clear hv he
      have hl : s.data.toList.length = s.size := by simp
      rw [hl] at h2
      have g1 : 0 ≤ n := by omega
      have g2 : n ≤ 64 := by omega
      have g3 : 0 ≤ a := by omega
      clear h1 hl
      go_enter Try.func43, Try.ntmps43
      go_wp2
      go_ret2; exact ⟨rfl, rfl⟩
    · have hv : getV s.data.toList a n = (B.num (B.slice s.data.toList a.toNat n.toNat) : Nat) := by unfold getV; rw [if_neg h1, if_neg h2]
      have he : getE s.data.toList a n = 0 := by unfold getE; rw [if_neg h1, if_neg h2]
      rw [hv, he]; clear hv he
      have hl : s.data.toList.length = s.size := by simp
      rw [hl] at h2
      obtain ⟨n, rfl⟩ := Int.eq_ofNat_of_zero_le (show 0 ≤ n by omega)
      obtain ⟨a, rfl⟩ := Int.eq_ofNat_of_zero_le (show 0 ≤ a by omega)
      have g2 : n ≤ 64 := by omega
      clear h1 hl
      rw [Int.toNat_natCast, Int.toNat_natCast]
      go_enter Try.func43, Try.ntmps43
      go_wp2
      go_loop [8, 9] (fun v i => ∃ k : Nat, k ≤ n ∧ i = .int .i64 k ∧ v = .int .u64 (B.num (B.slice s.data.toList a k) : Nat)) (fun _ i => n - (intOf i).toNat)
      case atStart => exact ⟨0, Nat.zero_le _, rfl, rfl⟩
      case round =>
        obtain ⟨k, hk, rfl, rfl⟩ := hrel
        by_cases hlt : k < n
        · have e : B.num (B.slice s.data.toList a (k + 1)) = 2 * B.num (B.slice s.data.toList a k) + (B.bitAt s.data.toList (a + k)).toNat := by rw [B.slice_succ, B.num_snoc]
          have hb : B.num (B.slice s.data.toList a k) < 9223372036854775808 := by
            have := B.num_lt (B.slice s.data.toList a k)
            rw [B.length_slice] at this
            exact Nat.lt_of_lt_of_le this (Nat.pow_le_pow_right (by omega) (show k ≤ 63 by omega))
          have E := Lib.hid e
          have hbt : (B.bitAt s.data.toList (a + k)).toNat ≤ 1 := by cases B.bitAt s.data.toList (a + k) <;> simp
          have Hc : Hid (∀ W, Calls Try.prog 49 #[.string s, .int .i64 ((a : Int) + (k : Int))] W fun e w' => e = .returned (.int .i64 ((B.bitAt s.data.toList (a + k)).toNat : Nat)) ∧ W = w') := fun W => by
            have := rbit_any s (a + k) W (by omega) hs
            rw [show ((a + k : Nat) : Int) = (a : Int) + (k : Int) by omega] at this
            exact this
          generalize (B.bitAt s.data.toList (a + k)).toNat = t at *
          generalize B.num (B.slice s.data.toList a k) = x at *
          clear e
          go_wp2_with (go_at_call 49; refine (Hc.out _).mono ?_; rintro e w' ⟨rfl, rfl⟩)
          go_round
          case rel => exact ⟨k + 1, by omega, by go_num, by rw [E.out]; go_num⟩
          case measure => simp [intOf]; omega
        · go_wp2
          obtain rfl : k = n := by omega
          go_ret2
          exact ⟨rfl, rfl⟩
/-- bits as numbers -/
def bins (l : List Bool) : List Int := l.map fun b => (b.toNat : Int)
theorem length_bins (l : List Bool) : (bins l).length = l.length := by simp [bins]
theorem bins_append (l m : List Bool) : bins (l ++ m) = bins l ++ bins m := by simp [bins]
theorem asBits_bins (l : List Bool) : asBits (bins l) = l := by
  unfold asBits bins
  rw [List.map_map]
  conv => rhs; rw [← List.map_id l]
  apply List.map_congr_left
  intro b _
  cases b <;> rfl
theorem bin_bins (l : List Bool) : Bin (bins l) := by
  intro x hx
  simp only [bins, List.mem_map] at hx
  obtain ⟨b, _, rfl⟩ := hx
  cases b <;> simp
end Go.Proofs.Ytpccdohhiojlkaa
