import Derived.Test.YtpccdohhiojlkaaProg
import Derived.Test.YtpccdohhiojlkaaBitsPlain
import Derived.Test.YtpccdohhiojlkaaMem
import Derived.Test.YtpccdohhiojlkaaKit
import Derived.WalkKit
import Derived.WalkSpells
import Derived.WalkLawsBesides
import Derived.Lib.Hide
namespace Go.Proofs.Ytpccdohhiojlkaa
open Go.RowKit
/-- a bit as the byte that the program has -/
def bitv (b : Bool) : Int := if b then 128 else 0
theorem bitv_and (x : UInt8) (r : Nat) (hr : r < 8) : bits BinOp.and IntKind.u8 ((x.toNat : Int) * 2 ^ r % 256) 128 = bitv (x.toNat.testBit (7 - r)) := by
  have h : ∀ (x : Fin 256) (r : Fin 8), bits BinOp.and IntKind.u8 ((x.val : Int) * 2 ^ r.val % 256) 128 = bitv (x.val.testBit (7 - r.val)) := by decide +kernel
  exact h ⟨x.toNat, x.toNat_lt⟩ ⟨r, hr⟩
theorem bitAt_get (s : ByteArray) (i : Nat) (h : i / 8 < s.size) : (s[i / 8]).toNat.testBit (7 - i % 8) = B.bitAt s.data.toList i := by
  unfold B.bitAt
  rw [List.getD_eq_getElem?_getD, List.getElem?_eq_getElem (by simpa using h)]; rfl
set_option maxHeartbeats 400000 in
theorem bit_any (s : ByteArray) (i : Int) (w : World) (h0 : 0 ≤ i) (h : i < 8 * s.size) (hs : s.size ≤ 281474976710656) :
    Calls Try.prog 40 #[.string s, .int .i64 i] w fun e w' => e = .returned (.int .u8 (bitv (B.bitAt s.data.toList i.toNat))) ∧ w = w' := by
  obtain ⟨i, rfl⟩ := Int.eq_ofNat_of_zero_le h0
  rw [Int.toNat_natCast]
  go_enter Try.func40, Try.ntmps40
  go_wp2
  go_ret
  exact ⟨ret_int (by rw [bitv_and _ _ (Nat.mod_lt _ (by omega)), bitAt_get s i (by omega)]), rfl⟩

theorem or_bit (x : Nat) (b : Bool) (hx : x < 9223372036854775808) :
    bits BinOp.or IntKind.u64 (IntKind.u64.wrap ((x : Int) * 2)) (IntKind.u64.wrap (bitv b / 128)) = ((2 * x + b.toNat : Nat) : Int) := by
  have h1 : IntKind.u64.wrap ((x : Int) * 2) = ((2 * x : Nat) : Int) := by rw [IntKind.wrap_u64]; omega
  have h2 : IntKind.u64.wrap (bitv b / 128) = ((b.toNat : Nat) : Int) := by cases b <;> rfl
  have h3 : 2 * x ||| b.toNat = 2 * x + b.toNat := by
    cases b
    · simp
    · have := Nat.two_pow_add_eq_or_of_lt (i := 1) (b := 1) (by omega) x
      simp only [Bool.toNat_true] at this ⊢
      rw [Nat.pow_one] at this
      exact this.symm
  rw [h1, h2, u64_or_nat _ _ (by omega) (by cases b <;> simp), h3]

def getV (s : List UInt8) (a n : Int) : Int := if n < 0 ∨ 64 < n ∨ a < 0 then 0 else if 8 * (s.length : Int) - n < a then 0 else (B.num (B.slice s a.toNat n.toNat) : Nat)
def getE (s : List UInt8) (a n : Int) : Int := if n < 0 ∨ 64 < n ∨ a < 0 then 1 else if 8 * (s.length : Int) - n < a then 2 else 0
set_option maxHeartbeats 400000 in
theorem get_any (s : ByteArray) (a n : Int) (w : World) (hs : s.size ≤ 281474976710656) :
    Calls Try.prog 30 #[.string s, .int .i64 a, .int .i64 n] w fun e w' => e = .returned (.tuple #[.int .u64 (getV s.data.toList a n), .int .i64 (getE s.data.toList a n)]) ∧ w = w' := by
  by_cases h1 : n < 0 ∨ 64 < n ∨ a < 0
  · have hv : getV s.data.toList a n = 0 := by unfold getV; rw [if_pos h1]
    have he : getE s.data.toList a n = 1 := by unfold getE; rw [if_pos h1]
    rw [hv, he]; clear hv he
    go_enter Try.func30, Try.ntmps30
    go_wp2
    all_goals (go_ret2; exact ⟨rfl, rfl⟩)
  · by_cases h2 : 8 * (s.data.toList.length : Int) - n < a
    · have hv : getV s.data.toList a n = 0 := by unfold getV; rw [if_neg h1, if_pos h2]
      have he : getE s.data.toList a n = 2 := by unfold getE; rw [if_neg h1, if_pos h2]
      rw [hv, he]; clear hv he
      have hl : s.data.toList.length = s.size := by simp
      rw [hl] at h2
      have g1 : 0 ≤ n := by omega
      have g2 : n ≤ 64 := by omega
      have g3 : 0 ≤ a := by omega
      clear h1 hl
      go_enter Try.func30, Try.ntmps30
      go_wp2
      go_ret2; exact ⟨rfl, rfl⟩
    · have hv : getV s.data.toList a n = (B.num (B.slice s.data.toList a.toNat n.toNat) : Nat) := by unfold getV; rw [if_neg h1, if_neg h2]
      have he : getE s.data.toList a n = 0 := by unfold getE; rw [if_neg h1, if_neg h2]
      rw [hv, he]; clear hv he
      have hl : s.data.toList.length = s.size := by simp
      rw [hl] at h2
      obtain ⟨n, rfl⟩ := Int.eq_ofNat_of_zero_le (show 0 ≤ n by omega)
      obtain ⟨a, rfl⟩ := Int.eq_ofNat_of_zero_le (show 0 ≤ a by omega)
      have g2 : n ≤ 64 := by omega
      clear h1 hl
      rw [Int.toNat_natCast, Int.toNat_natCast]
      go_enter Try.func30, Try.ntmps30
      go_wp2
      go_loop [6, 29] (fun v i => ∃ k : Nat, k ≤ n ∧ i = .int .i64 k ∧ v = .int .u64 (B.num (B.slice s.data.toList a k) : Nat)) (fun _ i => n - (intOf i).toNat)
      case atStart => exact ⟨0, Nat.zero_le _, rfl, rfl⟩
      case round =>
        obtain ⟨k, hk, rfl, rfl⟩ := hrel
        by_cases hlt : k < n
        · go_wp2_with (go_at_call 40; refine (bit_any _ _ _ (by omega) (by omega) hs).mono ?_; rintro e w' ⟨rfl, rfl⟩)
          have e : B.num (B.slice s.data.toList a (k + 1)) = 2 * B.num (B.slice s.data.toList a k) + (B.bitAt s.data.toList (a + k)).toNat := by rw [B.slice_succ, B.num_snoc]
          have hb : B.num (B.slice s.data.toList a k) < 9223372036854775808 := by
            have := B.num_lt (B.slice s.data.toList a k)
            rw [B.length_slice] at this
            exact Nat.lt_of_lt_of_le this (Nat.pow_le_pow_right (by omega) (show k ≤ 63 by omega))
          go_round
          case rel => exact ⟨k + 1, by omega, by go_num, by rw [or_bit _ _ hb, e]⟩
          case measure => simp [intOf]; omega
        · go_wp2
          obtain rfl : k = n := by omega
          go_ret2
          exact ⟨rfl, rfl⟩

/-- may bits be, as a bool -/
def rightB (s : List UInt8) (n : Int) : Bool := decide (0 ≤ n ∧ s.length = (n.toNat + 7) / 8) && decide (∀ i, i < 8 * s.length → n ≤ i → B.bitAt s i = false)
theorem bitv_ne (b : Bool) : (bitv b != 0) = b := by cases b <;> rfl
attribute [go_sem] bitv_ne
set_option maxHeartbeats 400000 in
theorem right_any (s : ByteArray) (n : Int) (w : World) (hs : s.size ≤ 281474976710656) (hn : -9223372036854775808 ≤ n) (hn' : n ≤ 9223372036854775807) :
    Calls Try.prog 39 #[.agg #[.string s, .int .i64 n]] w fun e w' => e = .returned (.bool (rightB s.data.toList n)) ∧ Below w.heap.size w w' := by
  by_cases h1 : 0 ≤ n ∧ s.data.toList.length = (n.toNat + 7) / 8
  · obtain ⟨h0, h1⟩ := h1
    obtain ⟨n, rfl⟩ := Int.eq_ofNat_of_zero_le h0
    rw [Int.toNat_natCast] at h1
    have hr : rightB s.data.toList n = decide (∀ i, i < 8 * s.data.toList.length → (n : Int) ≤ (i : Nat) → B.bitAt s.data.toList i = false) := by
      unfold rightB
      rw [decide_eq_true ⟨h0, by rw [Int.toNat_natCast]; exact h1⟩]; rfl
    rw [hr]; clear hr
    have hl : s.data.toList.length = s.size := by simp
    rw [hl] at h1 ⊢; clear hl
    obtain ⟨c, hm, hc⟩ : ∃ c : Nat, (if 1 < (n : Int) % 8 then 1 else (n : Int) % 8) = (c : Int) ∧ c = if 1 < n % 8 then 1 else n % 8 := ⟨_, by split <;> split <;> omega, rfl⟩
    have hc1 : c ≤ 1 := by rw [hc]; split <;> omega
    have hb : ((s.size : Int) != (n : Int) / 8 + c) = false := by
      rw [bne_eq_false_iff_eq, hc, h1]; split <;> omega
    clear hc
    have H1 := Lib.hid h1
    have hle : n ≤ 8 * s.size := by omega
    clear h1
    go_enter Try.func39, Try.ntmps39
    go_wp2
    go_loopw [3] (fun i wr => ∃ k : Nat, n ≤ k ∧ k ≤ 8 * s.size ∧ i = .int .i64 k ∧ (∀ j, j < k → n ≤ j → B.bitAt s.data.toList j = false) ∧ wr = w.alloc (.cells #[.string s, .int .i64 n] 28)) (fun i _ => 8 * s.size - (intOf i).toNat)
    case atStart => exact ⟨n, Nat.le_refl _, hle, rfl, fun j h h' => by omega, rfl⟩
    case round =>
      obtain ⟨k, hk, hk2, rfl, hall, rfl⟩ := hrel
      have Hall := Lib.hid hall
      clear hall
      by_cases hlt : k < 8 * s.size
      · go_wp2_with (go_at_call 40; refine (bit_any _ _ _ (by omega) (by omega) hs).mono ?_; rintro e w' ⟨rfl, rfl⟩)
        · have ht : B.bitAt s.data.toList k = true := by assumption
          go_ret
          refine ⟨ret_bool (decide_eq_false fun h => ?_).symm, (Below.refl _ _).alloc (Nat.le_refl _) _⟩
          rw [h k hlt (by omega)] at ht; cases ht
        · have ht : B.bitAt s.data.toList k = false := by assumption
          go_roundw
          case rel => exact ⟨k + 1, by omega, by omega, by go_num, fun j h h' => (by
            by_cases e : j = k
            · rw [e]; exact ht
            · exact Hall.out j (by omega) h'), trivial⟩
          case measure => simp [intOf]; omega
      · go_wp2
        go_ret
        refine ⟨ret_bool (decide_eq_true fun j h h' => ?_).symm, (Below.refl _ _).alloc (Nat.le_refl _) _⟩
        exact Hall.out j (by omega) (by omega)
  · have hr : rightB s.data.toList n = false := by unfold rightB; rw [decide_eq_false h1]; rfl
    rw [hr]; clear hr
    have hl : s.data.toList.length = s.size := by simp
    rw [hl] at h1; clear hl
    by_cases h0 : n < 0
    · clear h1
      go_enter Try.func39, Try.ntmps39
      go_wp2
      go_ret
      exact ⟨rfl, (Below.refl _ _).alloc (Nat.le_refl _) _⟩
    · have h2 : (s.size : Int) ≠ n / 8 + min (n % 8) 1 := by omega
      clear h1
      obtain ⟨n, rfl⟩ := Int.eq_ofNat_of_zero_le (show 0 ≤ n by omega)
      have hb : ((s.size : Int) != (n : Int) / 8 + if 1 < (n : Int) % 8 then 1 else (n : Int) % 8) = true := by
        rw [bne_iff_ne]; split <;> omega
      clear h2
      go_enter Try.func39, Try.ntmps39
      go_wp2
      all_goals (go_ret; exact ⟨rfl, (Below.refl _ _).alloc (Nat.le_refl _) _⟩)
end Go.Proofs.Ytpccdohhiojlkaa
