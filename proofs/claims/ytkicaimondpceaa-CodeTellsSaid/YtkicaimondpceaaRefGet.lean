/- The document's bit, Get and Number. -/
import Derived.Test.YtkicaimondpceaaOf
import Derived.Test.YtkicaimondpceaaBitsFacts
import Derived.Test.YtkicaimondpceaaKit
namespace Go.Proofs.Ytkicaimondpceaa
open Go.RowKit
set_option linter.unusedVariables false

theorem shr_testBit (x : UInt8) (r : Nat) (hr : r < 8) : ((((x.toNat : Int) / 2 ^ (7 - r)).tmod 2)) = ((x.toNat.testBit (7 - r)).toNat : Int) := by
  have h : ∀ (x : Fin 256) (r : Fin 8), (((x.val : Int) / 2 ^ (7 - r.val)).tmod 2) = ((x.val.testBit (7 - r.val)).toNat : Int) := by decide +kernel
  exact h ⟨x.toNat, x.toNat_lt⟩ ⟨r, hr⟩
set_option maxHeartbeats 400000 in
theorem rbit_any (s : ByteArray) (i : Nat) (w : World) (h : i < 8 * s.size) (hs : s.size ≤ 281474976710656) :
    Calls Try.prog 44 #[.string s, .int .i64 (i : Nat)] w fun e w' => e = .returned (.int .i64 ((B.bitAt s.data.toList i).toNat : Nat)) ∧ w = w' := by
  go_enter Try.func44, Try.ntmps44
  go_wp2
  go_ret
  refine ⟨ret_int ?_, rfl⟩
  have hlt := (s[i / 8]'(by omega)).toNat_lt
  rw [← bitAt_get s i (by omega), ← shr_testBit _ _ (Nat.mod_lt _ (by omega)), show wrap64 ((s[i / 8]).toNat : Int) = ((s[i / 8]).toNat : Int) by unfold wrap64; omega]

set_option maxHeartbeats 800000 in
theorem refGet_any (s : ByteArray) (a n : Int) (w : World) (hs : s.size ≤ 281474976710656) :
    Calls Try.prog 33 #[.string s, .int .i64 a, .int .i64 n] w fun e w' => e = .returned (.tuple #[.int .u64 (getV s.data.toList a n), .int .i64 (getE s.data.toList a n)]) ∧ w = w' := by
  by_cases h1 : n < 0 ∨ 64 < n ∨ a < 0
  · have hv : getV s.data.toList a n = 0 := by unfold getV; rw [if_pos h1]
    have he : getE s.data.toList a n = 1 := by unfold getE; rw [if_pos h1]
    rw [hv, he]; clear hv he
    go_enter Try.func33, Try.ntmps33
    go_wp2
    all_goals (go_ret2; exact ⟨rfl, rfl⟩)
  · by_cases h2 : 8 * (s.data.toList.length : Int) - n < a
    · have hv : getV s.data.toList a n = 0 := by unfold getV; rw [if_neg h1, if_pos h2]
      have he : getE s.data.toList a n = 2 := by unfold getE; rw [if_neg h1, if_pos h2]
      rw [hv, he]; clear hv he
      have hl : s.data.toList.length = s.size := by simp
      rw [hl] at h2
      have g1 : 0 ≤ n := by omega
      have g2 : n ≤ 64 := by omega
      have g3 : 0 ≤ a := by omega
      clear h1 hl
      go_enter Try.func33, Try.ntmps33
      go_wp2
      go_ret2; exact ⟨rfl, rfl⟩
    · have hv : getV s.data.toList a n = (B.num (B.slice s.data.toList a.toNat n.toNat) : Nat) := by unfold getV; rw [if_neg h1, if_neg h2]
      have he : getE s.data.toList a n = 0 := by unfold getE; rw [if_neg h1, if_neg h2]
      rw [hv, he]; clear hv he
      have hl : s.data.toList.length = s.size := by simp
      rw [hl] at h2
      obtain ⟨n, rfl⟩ := Int.eq_ofNat_of_zero_le (show 0 ≤ n by omega)
      obtain ⟨a, rfl⟩ := Int.eq_ofNat_of_zero_le (show 0 ≤ a by omega)
      have g2 : n ≤ 64 := by omega
      clear h1 hl
      rw [Int.toNat_natCast, Int.toNat_natCast]
      go_enter Try.func33, Try.ntmps33
      go_wp2
      go_loop [8, 9] (fun v i => ∃ k : Nat, k ≤ n ∧ i = .int .i64 k ∧ v = .int .u64 (B.num (B.slice s.data.toList a k) : Nat)) (fun _ i => n - (intOf i).toNat)
      case atStart => exact ⟨0, Nat.zero_le _, rfl, rfl⟩
      case round =>
        obtain ⟨k, hk, rfl, rfl⟩ := hrel
        by_cases hlt : k < n
        · have e : B.num (B.slice s.data.toList a (k + 1)) = 2 * B.num (B.slice s.data.toList a k) + (B.bitAt s.data.toList (a + k)).toNat := by rw [B.slice_succ, B.num_snoc]
          have hb : B.num (B.slice s.data.toList a k) < 9223372036854775808 := by
            have := B.num_lt (B.slice s.data.toList a k)
            rw [B.length_slice] at this
            exact Nat.lt_of_lt_of_le this (Nat.pow_le_pow_right (by omega) (show k ≤ 63 by omega))
          have E := Lib.hid e
          have hbt : (B.bitAt s.data.toList (a + k)).toNat ≤ 1 := by cases B.bitAt s.data.toList (a + k) <;> simp
          have Hc : Hid (∀ W, Calls Try.prog 44 #[.string s, .int .i64 ((a : Int) + (k : Int))] W fun e w' => e = .returned (.int .i64 ((B.bitAt s.data.toList (a + k)).toNat : Nat)) ∧ W = w') := fun W => by
            have := rbit_any s (a + k) W (by omega) hs
            rw [show ((a + k : Nat) : Int) = (a : Int) + (k : Int) by omega] at this
            exact this
          generalize (B.bitAt s.data.toList (a + k)).toNat = t at *
          generalize B.num (B.slice s.data.toList a k) = x at *
          clear e
          go_wp2_with (go_at_call 44; refine (Hc.out _).mono ?_; rintro e w' ⟨rfl, rfl⟩)
          go_round
          case rel => exact ⟨k + 1, by omega, by go_num, by rw [E.out]; go_num⟩
          case measure => simp [intOf]; omega
        · go_wp2
          obtain rfl : k = n := by omega
          go_ret2
          exact ⟨rfl, rfl⟩
/-- bits as numbers -/
def bins (l : List Bool) : List Int := l.map fun b => (b.toNat : Int)
theorem length_bins (l : List Bool) : (bins l).length = l.length := by simp [bins]
theorem bins_append (l m : List Bool) : bins (l ++ m) = bins l ++ bins m := by simp [bins]
theorem asBits_bins (l : List Bool) : asBits (bins l) = l := by
  unfold asBits bins
  rw [List.map_map]
  conv => rhs; rw [← List.map_id l]
  apply List.map_congr_left
  intro b _
  cases b <;> rfl
theorem bin_bins (l : List Bool) : Bin (bins l) := by
  intro x hx
  simp only [bins, List.mem_map] at hx
  obtain ⟨b, _, rfl⟩ := hx
  cases b <;> simp
theorem low_take (v n k : Nat) (h : k < n) : (B.low v n).take (k + 1) = (B.low v n).take k ++ [v.testBit (n - 1 - k)] := by
  have hl : k < (B.low v n).length := by rw [B.length_low]; exact h
  rw [List.take_succ_eq_append_getElem hl]
  congr 2
  simp [B.low]
theorem testBit_int (v k : Nat) : ((v.testBit k).toNat : Int) = (v : Int) / 2 ^ k % 2 := by
  rw [Nat.testBit_eq_decide_div_mod_eq]
  have h : v / 2 ^ k % 2 < 2 := Nat.mod_lt _ (by omega)
  have e : ((v / 2 ^ k % 2 : Nat) : Int) = (v : Int) / 2 ^ k % 2 := by simp
  rw [← e]
  by_cases h1 : v / 2 ^ k % 2 = 1
  · rw [h1]; rfl
  · rw [show v / 2 ^ k % 2 = 0 by omega]; rfl
set_option maxHeartbeats 800000 in
theorem rnumber_any (w : World) (v n : Nat) (hv : v < 9223372036854775808) (hn : n ≤ 64) :
    Calls Try.prog 30 #[.int .u64 (v : Nat), .int .i64 (n : Nat)] w fun e w' => ∃ q c, e = .returned (.slice q n c) ∧ OwnInts w' w.heap.size (.slice q n c) (bins (B.low v n)) ∧ Below w.heap.size w w' := by
  have Hlen : Hid (∀ k, k ≤ n → (bins ((B.low v n).take k)).length = k) := fun k hk => by rw [length_bins, List.length_take, B.length_low]; omega
  have Hst := Lib.hid (low_take v n)
  have Hfull : Hid ((B.low v n).take n = B.low v n) := by show _ = _; rw [List.take_of_length_le (by rw [B.length_low]; omega)]
  have Htb := Lib.hid (testBit_int v)
  have h0 : (B.low v n).take 0 = [] := rfl
  have H0 := Lib.hid h0
  generalize B.low v n = D at *
  clear h0
  go_enter Try.func30, Try.ntmps30
  go_wp2
  go_loopw [5, 6] (fun fv iv wr => ∃ k : Nat, k ≤ n ∧ iv = .int .i64 ((n : Int) - 1 - (k : Int)) ∧ OwnInts wr w.heap.size fv (bins (D.take k)) ∧ Below w.heap.size w wr) (fun _ iv _ => (intOf iv + 1).toNat)
  case atStart => exact ⟨0, Nat.zero_le _, by go_num, by rw [H0.out]; exact OwnInts.nil _ _, Below.refl _ _⟩
  case round =>
    obtain ⟨k, hk, rfl, hown, hB⟩ := hrel
    have Hown := Lib.hid hown
    have HB := Lib.hid hB
    have hz := hB.size
    clear hown hB
    have hl := Hlen.out k hk
    by_cases hlt : k < n
    · have hst := Hst.out k hlt
      obtain ⟨i, hi⟩ : ∃ i, n - 1 - k = i := ⟨_, rfl⟩
      have hii : (n : Int) - 1 - (k : Int) = (i : Int) := by omega
      have htb := Htb.out i
      rw [hi] at hst
      have hwr : wrap64 (((v : Int) / 2 ^ i).tmod 2) = ((v.testBit i).toNat : Int) := by
        rw [Int.tmod_eq_emod_of_nonneg (Int.ediv_nonneg (by omega) (Int.pow_nonneg (by omega))), ← htb]; cases v.testBit i <;> simp [wrap64]
      have hwl : bins [v.testBit i] = [wrap64 (((v : Int) / 2 ^ i).tmod 2)] := by rw [hwr]; rfl
      have HWR := Lib.hid hwl
      have HS := Lib.hid hst
      rw [hii]
      have hi64 : i < 64 := by omega
      clear hst htb hwr hwl
      obtain ⟨z, hz2⟩ : ∃ z : Int, z = (i : Int) := ⟨_, rfl⟩
      go_wp2_with
        (at_builtin
         refine wpList_append_ints rfl _ _ rfl w.heap.size _ (bins (D.take k)) rfl (Hown.out.alloc _) (wr.heap.size + 1) _ [wrap64 (((v : Int) / 2 ^ i).tmod 2)] rfl (IsInts.new wr [wrap64 (((v : Int) / 2 ^ i).tmod 2)] _ _ _ rfl rfl rfl (by simp [maxLen])) (by rw [hl]; simp; omega) (by simp; omega) ?_
         intro q' c' w1 hown1 hg1 hat1
         have Hown1 := Lib.hid hown1
         have hB1 : Below w.heap.size w w1 := (HB.out.alloc (by omega) _).grown hg1 (by simp; omega) (fun k hk => by have := own_ge Hown.out hk; omega)
         have HB1 := Lib.hid hB1
         clear hg1 hat1 hown1 hB1)
      go_roundw
      case rel => exact ⟨k + 1, by omega, by go_num, by rw [HS.out, bins_append, HWR.out]; have h := Hown1.out; rw [hl] at h; exact h, HB1.out⟩
      case measure => simp [intOf]
    · obtain rfl : k = n := by omega
      have hown := Hown.out
      rw [Hfull.out] at hown hl
      obtain ⟨q, c, rfl⟩ := hown.shape
      rw [hl] at hown ⊢
      have Hown2 := Lib.hid hown
      clear hown Hown
      go_wp2
      go_ret
      exact ⟨q, c, rfl, Hown2.out, HB.out⟩
end Go.Proofs.Ytkicaimondpceaa
