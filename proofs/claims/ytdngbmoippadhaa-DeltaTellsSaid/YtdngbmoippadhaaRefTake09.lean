/- The document's length and Take of layer 9. -/
import Derived.Test.YtdngbmoippadhaaRefGet
import Derived.Test.YtdngbmoippadhaaDeltaTake
namespace Go.Proofs.Ytdngbmoippadhaa
open Go.RowKit
set_option linter.unusedVariables false

theorem rget_bit (s : ByteArray) (a : Nat) (b : Bool) (W : World) (hs : s.size ≤ 1099511627776) (h : a < 8 * s.size) (hb : B.bitAt s.data.toList a = b) :
    Calls Try.prog 31 #[.string s, .int .i64 (a : Nat), .int .i64 1] W fun e w' => e = .returned (.tuple #[.int .u64 (b.toNat : Nat), .int .i64 0]) ∧ W = w' := by
  have hl : s.data.toList.length = s.size := by simp
  have := refGet_any s a (1 : Nat) W (by omega)
  rw [getE_ok _ a 1 (by omega) (by omega), getV_ok _ a 1 (by omega) (by omega), num_one, hb] at this
  rw [show (if b then 1 else 0 : Nat) = b.toNat by cases b <;> rfl] at this
  exact this
theorem rget_short (s : ByteArray) (a n : Nat) (W : World) (hs : s.size ≤ 1099511627776) (hn : n ≤ 64) (h : 8 * s.size < a + n) :
    Calls Try.prog 31 #[.string s, .int .i64 (a : Nat), .int .i64 (n : Nat)] W fun e w' => e = .returned (.tuple #[.int .u64 0, .int .i64 2]) ∧ W = w' := by
  have hl : s.data.toList.length = s.size := by simp
  have := refGet_any s a (n : Nat) W (by omega)
  unfold getV getE at this
  rw [if_neg (by omega), if_pos (by omega), if_neg (by omega), if_pos (by omega)] at this
  exact this
theorem rget_num (s : ByteArray) (a n v : Nat) (W : World) (hs : s.size ≤ 1099511627776) (hn : n ≤ 64) (h : a + n ≤ 8 * s.size) (hv : B.num (B.slice s.data.toList a n) = v) :
    Calls Try.prog 31 #[.string s, .int .i64 (a : Nat), .int .i64 (n : Nat)] W fun e w' => e = .returned (.tuple #[.int .u64 (v : Nat), .int .i64 0]) ∧ W = w' := by
  have hl : s.data.toList.length = s.size := by simp
  have := refGet_any s a (n : Nat) W (by omega)
  rw [getE_ok _ a n (by omega) (by omega), getV_ok _ a n (by omega) (by omega), hv] at this
  exact this
def RLen (r : Except Int (Nat × Nat)) (e : Ending) : Prop :=
  match r with
  | .ok (m, b) => e = .returned (.tuple #[.int .i64 (m : Nat), .int .i64 (b : Nat), .int .i64 0])
  | .error c => e = .returned (.tuple #[.int .i64 0, .int .i64 0, .int .i64 c])
set_option maxHeartbeats 1600000 in
theorem rlength_any (w : World) (s : ByteArray) (a0 n0 F0 : Nat) (hs : s.size ≤ 1099511627776) (hn1 : 1 ≤ n0) (hn2 : n0 ≤ 20) (ha : a0 ≤ 9223372036854775807) (hF : 8 * s.size < a0 + F0) :
    Calls Try.prog 32 #[.string s, .int .i64 (a0 : Nat), .int .i64 (n0 : Nat)] w fun e w' => RLen (lengthR s.data.toList F0 n0 a0) e ∧ w = w' := by
  have hl : s.data.toList.length = s.size := by simp
  have HL := Lib.hid hl
  obtain ⟨r, hr⟩ : ∃ r, lengthR s.data.toList F0 n0 a0 = r := ⟨_, rfl⟩
  rw [hr]
  have HR := Lib.hid hr
  clear hr hl
  go_enter Try.func32, Try.ntmps32
  go_wp2
  go_loop [9, 10] (fun nv iv => ∃ F n a : Nat, nv = .int .i64 n ∧ iv = .int .i64 a ∧ 1 ≤ n ∧ n ≤ 20 ∧ a ≤ 9223372036854775807 ∧ 8 * s.size < a + F ∧ Hid (lengthR s.data.toList F n a = r)) (fun _ iv => 8 * s.size + 3 - (intOf iv).toNat)
  case atStart => exact ⟨F0, n0, a0, rfl, rfl, hn1, hn2, ha, hF, HR⟩
  case round =>
    obtain ⟨F, n, a, rfl, rfl, h1, h2, h3, h4, hR⟩ := hrel
    have hrr := hR.out
    clear HR hR
    cases F with
    | zero =>
      have : lengthR s.data.toList 0 n a = .error 2 := rfl
      rw [this] at hrr
      subst hrr
      have C : Hid (∀ W, Calls Try.prog 31 #[.string s, .int .i64 (a : Nat), .int .i64 1] W fun e w' => e = .returned (.tuple #[.int .u64 0, .int .i64 2]) ∧ W = w') := fun W => rget_short s a 1 W hs (by omega) (by omega)
      go_wp2_with fail
      refine (C.out _).mono ?_
      rintro e w' ⟨rfl, rfl⟩
      go_wp2
      go_ret3
      exact ⟨rfl, rfl⟩
    | succ F =>
      rw [lengthR, HL.out] at hrr
      by_cases h5 : 8 * s.size < a + 1
      · rw [if_pos h5] at hrr
        subst hrr
        have C : Hid (∀ W, Calls Try.prog 31 #[.string s, .int .i64 (a : Nat), .int .i64 1] W fun e w' => e = .returned (.tuple #[.int .u64 0, .int .i64 2]) ∧ W = w') := fun W => rget_short s a 1 W hs (by omega) (by omega)
        go_wp2_with fail
        refine (C.out _).mono ?_
        rintro e w' ⟨rfl, rfl⟩
        go_wp2
        go_ret3
        exact ⟨rfl, rfl⟩
      rw [if_neg h5] at hrr
      rcases hb : B.bitAt s.data.toList a with _ | _
      · rw [hb, if_pos rfl] at hrr
        subst hrr
        have C : Hid (∀ W, Calls Try.prog 31 #[.string s, .int .i64 (a : Nat), .int .i64 1] W fun e w' => e = .returned (.tuple #[.int .u64 0, .int .i64 0]) ∧ W = w') := fun W => rget_bit s a false W hs (by omega) hb
        clear hb
        go_wp2_with fail
        refine (C.out _).mono ?_
        rintro e w' ⟨rfl, rfl⟩
        go_wp2
        go_ret3
        exact ⟨by simp [RLen], rfl⟩
      rw [hb, if_neg (by simp)] at hrr
      have C : Hid (∀ W, Calls Try.prog 31 #[.string s, .int .i64 (a : Nat), .int .i64 1] W fun e w' => e = .returned (.tuple #[.int .u64 1, .int .i64 0]) ∧ W = w') := fun W => rget_bit s a true W hs (by omega) hb
      clear hb
      by_cases h6 : 8 * s.size < a + 1 + 1
      · rw [if_pos h6] at hrr
        subst hrr
        have C2 : Hid (∀ W, Calls Try.prog 31 #[.string s, .int .i64 ((a : Int) + 1), .int .i64 1] W fun e w' => e = .returned (.tuple #[.int .u64 0, .int .i64 2]) ∧ W = w') := fun W => rget_short s (a + 1) 1 W hs (by omega) (by omega)
        go_wp2_with fail
        refine (C.out _).mono ?_
        rintro e w' ⟨rfl, rfl⟩
        go_wp2_with fail
        refine (C2.out _).mono ?_
        rintro e w' ⟨rfl, rfl⟩
        go_wp2
        go_ret3
        exact ⟨rfl, rfl⟩
      rw [if_neg h6] at hrr
      rcases hb : B.bitAt s.data.toList (a + 1) with _ | _
      · rw [hb, if_neg (by simp)] at hrr
        have C2 : Hid (∀ W, Calls Try.prog 31 #[.string s, .int .i64 ((a : Int) + 1), .int .i64 1] W fun e w' => e = .returned (.tuple #[.int .u64 0, .int .i64 0]) ∧ W = w') := fun W => rget_bit s (a + 1) false W hs (by omega) hb
        clear hb
        by_cases hm : n ≤ 19
        · rw [if_pos hm] at hrr
          have HRR := Lib.hid hrr
          clear hrr
          go_wp2_with fail
          refine (C.out _).mono ?_
          rintro e w' ⟨rfl, rfl⟩
          go_wp2_with fail
          refine (C2.out _).mono ?_
          rintro e w' ⟨rfl, rfl⟩
          go_wp2
          go_round
          case rel => exact ⟨F, n + 1, a + 2, by go_num, by go_num, by omega, by omega, by omega, by omega, HRR⟩
          case measure => simp [intOf]; omega
        · rw [if_neg hm] at hrr
          subst hrr
          go_wp2_with fail
          refine (C.out _).mono ?_
          rintro e w' ⟨rfl, rfl⟩
          go_wp2_with fail
          refine (C2.out _).mono ?_
          rintro e w' ⟨rfl, rfl⟩
          go_wp2
          go_ret3
          exact ⟨rfl, rfl⟩
      · rw [hb, if_pos rfl] at hrr
        have C2 : Hid (∀ W, Calls Try.prog 31 #[.string s, .int .i64 ((a : Int) + 1), .int .i64 1] W fun e w' => e = .returned (.tuple #[.int .u64 1, .int .i64 0]) ∧ W = w') := fun W => rget_bit s (a + 1) true W hs (by omega) hb
        clear hb
        by_cases hm : 2 ≤ n
        · rw [if_pos hm] at hrr
          have HRR := Lib.hid hrr
          obtain ⟨m, rfl⟩ : ∃ m, n = m + 1 := ⟨n - 1, by omega⟩
          rw [Nat.add_sub_cancel] at HRR
          clear hrr
          go_wp2_with fail
          refine (C.out _).mono ?_
          rintro e w' ⟨rfl, rfl⟩
          go_wp2_with fail
          refine (C2.out _).mono ?_
          rintro e w' ⟨rfl, rfl⟩
          go_wp2
          go_round
          case rel => exact ⟨F, m, a + 2, by go_num, by go_num, by omega, by omega, by omega, by omega, HRR⟩
          case measure => simp [intOf]; omega
        · rw [if_neg hm] at hrr
          subst hrr
          go_wp2_with fail
          refine (C.out _).mono ?_
          rintro e w' ⟨rfl, rfl⟩
          go_wp2_with fail
          refine (C2.out _).mono ?_
          rintro e w' ⟨rfl, rfl⟩
          go_wp2
          go_ret3
          exact ⟨rfl, rfl⟩
end Go.Proofs.Ytdngbmoippadhaa
