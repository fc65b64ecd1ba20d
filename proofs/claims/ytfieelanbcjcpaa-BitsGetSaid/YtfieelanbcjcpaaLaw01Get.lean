/- BitsGet: a number of many bits is that of its first ones, and of the others: the walk. -/
import Derived.Test.YtfieelanbcjcpaaAwake01
namespace Go.Proofs.Ytfieelanbcjcpaa
open Go.RowKit
set_option linter.unusedVariables false

/-- what number and what error Get tells, of natural places -/
theorem getE_nat (s : List UInt8) (a n : Nat) (hn : n ≤ 64) : getE s a n = if a + n ≤ 8 * s.length then 0 else 2 := by
  unfold getE
  rw [if_neg (by omega)]
  split <;> split <;> first | rfl | omega
theorem getV_short (s : List UInt8) (a n : Nat) (hn : n ≤ 64) (h : ¬ a + n ≤ 8 * s.length) : getV s a n = 0 := by
  unfold getV
  rw [if_neg (by omega), if_pos (by omega)]
/-- the first bytes of a text -/
def front (s : ByteArray) (n : Nat) : ByteArray := s.extract 0 n
theorem front_size (s : ByteArray) (n : Nat) (h : n ≤ s.size) : (front s n).size = n := by simp [front]; omega

set_option maxRecDepth 100000 in
set_option maxHeartbeats 1600000 in
theorem get_walk (w : World) (s : ByteArray) (a n k : Int) (ha : -9223372036854775808 ≤ a) (ha' : a ≤ 9223372036854775807) (hn : -9223372036854775808 ≤ n) (hn' : n ≤ 9223372036854775807) (hk : -9223372036854775808 ≤ k) (hk' : k ≤ 9223372036854775807) (hs : s.size ≤ 9223372036854775807) :
    Calls Try.prog 5 #[.string s, .int .i64 a, .int .i64 n, .int .i64 k] w fun e w' => e = .returned (.bool true) ∧ Below w.heap.size w w' := by
  have hi := pickF_lt a 480 (by omega)
  have hm := pickF_lt n 65 (by omega)
  obtain ⟨i, hii⟩ : ∃ k : Nat, pickF a 480 = (k : Int) := ⟨(pickF a 480).toNat, by omega⟩
  obtain ⟨m, hmm⟩ : ∃ k : Nat, pickF n 65 = (k : Int) := ⟨(pickF n 65).toNat, by omega⟩
  have hp := pickF_lt k ((m : Int) + 1) (by omega)
  obtain ⟨p, hpp⟩ : ∃ j : Nat, pickF k ((m : Int) + 1) = (j : Int) := ⟨(pickF k ((m : Int) + 1)).toNat, by omega⟩
  have i1 : i < 480 := by omega
  have m1 : m ≤ 64 := by omega
  have p1 : p ≤ m := by omega
  obtain ⟨L, hL⟩ : ∃ L : Nat, L = min s.size 60 := ⟨_, rfl⟩
  have hL1 : (if (60 : Int) < s.size then 60 else (s.size : Int)) = L := by rw [hL]; split <;> omega
  have hL2 : L ≤ s.size := by omega
  have hL3 : L ≤ 60 := by omega
  have hfr := front_size s L hL2
  have Hii := Lib.hid hii
  have Hmm := Lib.hid hmm
  have Hpp := Lib.hid hpp
  have Hfr := Lib.hid hfr
  have Ha := Lib.hid awake_any
  clear hi hm hp hii hmm hpp hL hfr
  go_enter Try.func5, Try.ntmps5
  go_wp2_with fail
  refine (Ha.out _).mono ?_
  rintro e w1 ⟨rfl, hB1⟩
  go_wp2_with fail
  have hts : (s.extract 0 L).size = L := Hfr.out
  generalize s.extract 0 L = t at *
  have hsz : t.size ≤ 60 := by omega
  have Hts := Lib.hid hts
  clear hts Hfr hL1 hL2 hL3
  refine (pick_any a 480 _ ha ha' (by omega) (by omega)).mono ?_
  rintro e w2 ⟨rfl, rfl⟩
  rw [Hii.out]
  go_wp2_with fail
  refine (pick_any n 65 _ hn hn' (by omega) (by omega)).mono ?_
  rintro e w2 ⟨rfl, rfl⟩
  rw [Hmm.out]
  go_wp2_with fail
  refine (pick_any k _ _ hk hk' (by omega) (by omega)).mono ?_
  rintro e w2 ⟨rfl, rfl⟩
  rw [Hpp.out]
  have hd : ((m : Int) - p) = ((m - p : Nat) : Int) := by omega
  have hip : ((i : Int) + p) = ((i + p : Nat) : Int) := by omega
  by_cases hle : i + m ≤ 8 * t.size
  · have g1 := getE_ok t.data.toList i m (by simpa using hle) m1
    have g2 := getE_ok t.data.toList i p (by simp; omega) (by omega)
    have g3 := getE_ok t.data.toList (i + p) (m - p) (by simp; omega) (by omega)
    have f1 := getV_ok t.data.toList i m (by simpa using hle) m1
    have f2 := getV_ok t.data.toList i p (by simp; omega) (by omega)
    have f3 := getV_ok t.data.toList (i + p) (m - p) (by simp; omega) (by omega)
    have hsl := B.slice_append t.data.toList i p (m - p)
    rw [show p + (m - p) = m by omega] at hsl
    have hnum := B.num_append (B.slice t.data.toList i p) (B.slice t.data.toList (i + p) (m - p))
    rw [← hsl, B.length_slice] at hnum
    have b1 := B.num_lt (B.slice t.data.toList i m)
    have b2 := B.num_lt (B.slice t.data.toList i p)
    have b3 := B.num_lt (B.slice t.data.toList (i + p) (m - p))
    rw [B.length_slice] at b1 b2 b3
    have C1 : ∀ W, Calls Try.prog 12 #[.string t, .int .i64 i, .int .i64 m] W fun e w' => e = .returned (.tuple #[.int .u64 (B.num (B.slice t.data.toList i m) : Nat), .int .i64 0]) ∧ W = w' := fun W => by
      have := get_any t i m W (by omega)
      rw [g1, f1] at this; exact this
    have C2 : ∀ W, Calls Try.prog 12 #[.string t, .int .i64 i, .int .i64 p] W fun e w' => e = .returned (.tuple #[.int .u64 (B.num (B.slice t.data.toList i p) : Nat), .int .i64 0]) ∧ W = w' := fun W => by
      have := get_any t i p W (by omega)
      rw [g2, f2] at this; exact this
    have C3 : ∀ W, Calls Try.prog 12 #[.string t, .int .i64 ((i : Int) + p), .int .i64 ((m : Int) - p)] W fun e w' => e = .returned (.tuple #[.int .u64 (B.num (B.slice t.data.toList (i + p) (m - p)) : Nat), .int .i64 0]) ∧ W = w' := fun W => by
      have := get_any t (i + p : Nat) (m - p : Nat) W (by omega)
      rw [g3, f3, ← hd, ← hip] at this; exact this
    generalize B.num (B.slice t.data.toList i m) = V at *
    generalize B.num (B.slice t.data.toList i p) = X at *
    generalize B.num (B.slice t.data.toList (i + p) (m - p)) = Y at *
    have D1 := Lib.hid C1
    have D2 := Lib.hid C2
    have D3 := Lib.hid C3
    have Hnum := Lib.hid hnum
    clear g1 g2 g3 f1 f2 f3 hsl hnum C1 C2 C3
    have hle2 : (i : Int) + m ≤ 8 * (t.size : Int) := by omega
    clear hd hip
    go_wp2_with fail
    refine (D1.out _).mono ?_
    rintro e w2 ⟨rfl, rfl⟩
    go_wp2_with fail
    refine (D2.out _).mono ?_
    rintro e w2 ⟨rfl, rfl⟩
    go_wp2_with fail
    refine (D3.out _).mono ?_
    rintro e w2 ⟨rfl, rfl⟩
    have hVm : (V : Int) < 2 ^ m := by rw [pow_cast]; exact Int.ofNat_lt.2 b1
    by_cases hq : m - p < 64
    · have e1 : ((V : Int) == IntKind.u64.wrap ((Y : Int) + IntKind.u64.wrap ((X : Int) * 2 ^ (m - p)))) = true := by
        have h64 : 2 ^ m ≤ 2 ^ 64 := Nat.pow_le_pow_right (by omega) m1
        have hXY : X * 2 ^ (m - p) ≤ V := by rw [Hnum.out]; omega
        have hV64 : V < 18446744073709551616 := by omega
        rw [beq_iff_eq, pow_cast, ← Int.natCast_mul, IntKind.wrap_u64, IntKind.wrap_u64, Hnum.out]
        have hn := Hnum.out
        generalize X * 2 ^ (m - p) = Z at *
        omega
      have hq2 : (m : Int) - p < 64 := by omega
      by_cases hm64 : m = 64
      · have e2 : ((m : Int) == 64) = true := by rw [beq_iff_eq]; omega
        clear hq b1 b2 b3 hm64
        go_wp2
        go_ret
        exact ⟨rfl, hB1⟩
      · have e2 : ((m : Int) == 64) = false := by rw [beq_eq_false_iff_ne]; omega
        have e3 := wrap_pow m (by omega)
        clear hq b1 b2 b3 hm64
        go_wp2
        go_ret
        exact ⟨rfl, hB1⟩
    · obtain rfl : m = 64 := by omega
      obtain rfl : p = 0 := by omega
      have hX : X = 0 := by simpa using b2
      have hVY : V = Y := by have := Hnum.out; rw [hX] at this; simpa using this
      subst hX hVY
      clear hq b1 b2 b3 hVm
      go_wp2
      go_ret
      exact ⟨rfl, hB1⟩
  · have g1 := getE_nat t.data.toList i m m1
    rw [if_neg (by simpa using hle)] at g1
    have f1 := getV_short t.data.toList i m m1 (by simpa using hle)
    have C1 : ∀ W, Calls Try.prog 12 #[.string t, .int .i64 i, .int .i64 m] W fun e w' => e = .returned (.tuple #[.int .u64 0, .int .i64 2]) ∧ W = w' := fun W => by
      have := get_any t i m W (by omega)
      rw [g1, f1] at this; exact this
    have D1 := Lib.hid C1
    have D2 := Lib.hid (fun W => get_any t i p W (by omega))
    have D3 := Lib.hid (fun W => get_any t ((i : Int) + p) ((m : Int) - p) W (by omega))
    have hle2 : 8 * (t.size : Int) < (i : Int) + m := by omega
    generalize getV t.data.toList i p = X at *
    generalize getE t.data.toList i p = XE at *
    generalize getV t.data.toList ((i : Int) + p) ((m : Int) - p) = Y at *
    generalize getE t.data.toList ((i : Int) + p) ((m : Int) - p) = YE at *
    clear g1 f1 C1 hd hip hle
    go_wp2_with fail
    refine (D1.out _).mono ?_
    rintro e w2 ⟨rfl, rfl⟩
    go_wp2_with fail
    refine (D2.out _).mono ?_
    rintro e w2 ⟨rfl, rfl⟩
    go_wp2_with fail
    refine (D3.out _).mono ?_
    rintro e w2 ⟨rfl, rfl⟩
    go_wp2
    go_ret
    exact ⟨rfl, hB1⟩
end Go.Proofs.Ytfieelanbcjcpaa
