/- The document's Take of layer 9. -/
import Derived.Test.YtdngbmoippadhaaRefTake09
namespace Go.Proofs.Ytdngbmoippadhaa
open Go.RowKit
set_option linter.unusedVariables false

set_option maxRecDepth 100000 in
set_option maxHeartbeats 1600000 in
theorem rtake_any (w : World) (s : ByteArray) (at0 n : Nat) (hs : s.size ≤ 1099511627776) (hat : at0 ≤ 9223372036854775807) (hn : 2 ≤ n) (hn' : n ≤ 258) :
    Calls Try.prog 15 #[.string s, .int .i64 (at0 : Nat), .int .i64 (n : Nat)] w fun e w' => TakeEnds w (takeR s.data.toList at0 n) e w' := by
  have hl : s.data.toList.length = s.size := by simp
  have HL := Lib.hid hl
  obtain ⟨r, hr⟩ : ∃ r, takeR s.data.toList at0 n = r := ⟨_, rfl⟩
  rw [hr]
  unfold takeR at hr
  rw [hl] at hr
  have hd : decide ((at0 : Int) < 0) = false := by simp
  by_cases h1 : 8 * s.size < at0 + 5
  · rw [if_pos h1] at hr
    subst hr
    have C : Hid (∀ W, Calls Try.prog 31 #[.string s, .int .i64 (at0 : Nat), .int .i64 5] W fun e w' => e = .returned (.tuple #[.int .u64 0, .int .i64 2]) ∧ W = w') := fun W => rget_short s at0 5 W hs (by omega) h1
    clear hl
    go_enter Try.func15, Try.ntmps15
    go_wp2_with fail
    refine (C.out _).mono ?_
    rintro e w1 ⟨rfl, rfl⟩
    go_wp2
    go_ret3
    exact ⟨rfl, Below.refl _ _⟩
  rw [if_neg h1] at hr
  obtain ⟨v0, hv0⟩ : ∃ v, B.num (B.slice s.data.toList at0 5) = v := ⟨_, rfl⟩
  rw [hv0] at hr
  have hv32 : v0 < 32 := by rw [← hv0]; have := B.num_lt (B.slice s.data.toList at0 5); rw [B.length_slice] at this; exact this
  have C : Hid (∀ W, Calls Try.prog 31 #[.string s, .int .i64 (at0 : Nat), .int .i64 5] W fun e w' => e = .returned (.tuple #[.int .u64 (v0 : Nat), .int .i64 0]) ∧ W = w') := fun W => rget_num s at0 5 v0 W hs (by omega) (by omega) hv0
  clear hv0 hl
  by_cases h2 : v0 < 1 ∨ 20 < v0
  · rw [if_pos h2] at hr
    subst hr
    go_enter Try.func15, Try.ntmps15
    go_wp2_with fail
    refine (C.out _).mono ?_
    rintro e w1 ⟨rfl, rfl⟩
    go_wp2
    all_goals
      go_ret3
      exact ⟨rfl, Below.refl _ _⟩
  rw [if_neg h2] at hr
  have HR := Lib.hid hr
  clear hr
  have h3 : 1 ≤ v0 := by omega
  have h4 : v0 ≤ 20 := by omega
  clear h2
  go_enter Try.func15, Try.ntmps15
  go_wp2_with fail
  refine (C.out _).mono ?_
  rintro e w1 ⟨rfl, rfl⟩
  go_wp2
  go_loopw [11, 12, 13, 14] (fun nv av lv iv wr => ∃ (j m a : Nat) (l : List Nat), j ≤ n ∧ 1 ≤ m ∧ m ≤ 20 ∧ nv = .int .i64 m ∧ av = .int .i64 a ∧ iv = .int .i64 j ∧ l.length = j ∧ a ≤ 8 * s.size ∧ Hid (preE l (takeN s.data.toList (n - j) m a) = r) ∧ OwnInts wr w.heap.size lv (ints l) ∧ Below w.heap.size w wr) (fun _ _ _ iv _ => n + 1 - (intOf iv).toNat)
  case atStart => exact ⟨0, v0, at0 + 5, [], by omega, by omega, by omega, by go_num, by go_num, rfl, rfl, by omega, by show _ = _; rw [preE_nil]; exact HR.out, OwnInts.nil _ _, Below.refl _ _⟩
  case round =>
    obtain ⟨j, m, a, l, hj, hm1, hm2, rfl, rfl, rfl, hll, ha, HPR, hown, hB⟩ := hrel
    have Hown := Lib.hid hown
    have HB := Lib.hid hB
    have HLL := Lib.hid hll
    have hz := hB.size
    clear hown hB hll HR C
    by_cases hlt : j < n
    · have hpr := HPR.out
      rw [show n - j = (n - (j + 1)) + 1 by omega, takeN] at hpr
      have hok := fun m' b h => lengthR_ok (s := s.data.toList) (F := 8 * s.data.toList.length + 1) (n := m) (a := a) (m := m') (b := b) h (by omega) hm1 hm2
      have C := Lib.hid (fun W => rlength_any W s a m (8 * s.data.toList.length + 1) hs hm1 hm2 (by omega) (by rw [HL.out]; omega))
      cases hlr : lengthR s.data.toList (8 * s.data.toList.length + 1) m a with
      | error c =>
        rw [hlr] at hpr C
        simp only [preE] at hpr
        subst hpr
        have hce : c = 2 ∨ c = 3 := by
          rw [lengthR_lenP _ _ _ _ (by omega)] at hlr
          cases hp : lenP m (rest s.data.toList a) with
          | error c' =>
            rw [hp] at hlr
            simp only [placed, Except.error.injEq] at hlr
            subst hlr
            exact lenP_err _ _ _ hp
          | ok q => rw [hp] at hlr; cases hlr
        clear hlr hok HPR
        go_wp2_with fail
        refine (C.out _).mono ?_
        rintro e w2 ⟨hE, rfl⟩
        simp only [RLen] at hE
        subst hE
        rcases hce with rfl | rfl
        all_goals
          go_wp2
          go_ret3
          exact ⟨rfl, HB.out⟩
      | ok p =>
        obtain ⟨m', b⟩ := p
        rw [hlr] at hpr C
        simp only [preE_preE] at hpr
        obtain ⟨hm1', hm2', hb⟩ := hok m' b hlr
        rw [HL.out] at hb
        have HPR2 := Lib.hid hpr
        have hls : (ints l).length = j := by rw [length_ints, HLL.out]
        clear hlr hok HPR hpr
        go_wp2_with fail
        refine (C.out _).mono ?_
        rintro e w2 ⟨hE, rfl⟩
        simp only [RLen] at hE
        subst hE
        go_wp2_with
          (at_builtin
           refine wpList_append_ints rfl _ _ rfl w.heap.size _ (ints l) rfl (Hown.out.alloc _) (wr.heap.size + 1) _ [(m' : Int)] rfl (IsInts.new wr [(m' : Int)] _ _ _ rfl rfl rfl (by simp [maxLen])) (by rw [hls]; simp; omega) (by simp; omega) ?_
           intro q' c' w3 hown1 hg1 hat1
           have Hown1 := Lib.hid hown1
           have hB1 : Below w.heap.size w w3 := (HB.out.alloc (by omega) _).grown hg1 (by simp; omega) (fun k hk => by have := own_ge Hown.out hk; omega)
           have HB1 := Lib.hid hB1
           clear hg1 hat1 hown1 hB1)
        go_roundw
        case rel => exact ⟨j + 1, m', b, l ++ [m'], by omega, hm1', hm2', rfl, rfl, by go_num, by rw [List.length_append, HLL.out]; rfl, hb, HPR2, by rw [ints_snoc]; have h := Hown1.out; rw [hls] at h; exact h, HB1.out⟩
        case measure => simp [intOf]; omega
    · obtain rfl : j = n := by omega
      have hpr := HPR.out
      rw [Nat.sub_self, takeN] at hpr
      simp only [preE, List.append_nil] at hpr
      subst hpr
      clear HPR
      go_wp2
      go_ret3
      exact ⟨_, rfl, Hown.out, HB.out⟩
set_option maxHeartbeats 800000 in
/-- what is no place, or no count -/
theorem rtake_no (w : World) (s : ByteArray) (at0 n : Int) (h : at0 < 0 ∨ manyF n = false) :
    Calls Try.prog 15 #[.string s, .int .i64 at0, .int .i64 n] w fun e w' => TakeEnds w (.error 1) e w' := by
  by_cases h1 : at0 < 0
  · clear h
    go_enter Try.func15, Try.ntmps15
    go_wp2
    go_ret3
    exact ⟨rfl, Below.refl _ _⟩
  · have h2 : n < 2 ∨ 258 < n := by
      rcases h with h | h
      · exact absurd h h1
      · simp only [manyF, Bool.and_eq_false_iff, decide_eq_false_iff_not] at h
        omega
    clear h
    go_enter Try.func15, Try.ntmps15
    rcases h2 with h2 | h2
    all_goals
      go_wp2
      go_ret3
      exact ⟨rfl, Below.refl _ _⟩
end Go.Proofs.Ytdngbmoippadhaa
