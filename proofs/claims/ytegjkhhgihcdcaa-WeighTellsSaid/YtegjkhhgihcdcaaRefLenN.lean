/- Lengths of the document's answer where it refuses; both answers as one. -/
import Derived.Test.YtegjkhhgihcdcaaRefLenL
import Derived.Test.YtegjkhhgihcdcaaWeights
import Derived.Test.YtegjkhhgihcdcaaWLaws
namespace Go.Proofs.Ytegjkhhgihcdcaa
open Go.RowKit
set_option linter.unusedVariables false

set_option maxHeartbeats 1600000 in
theorem rlengths_no (w : World) (v : Value) (xs : List Int) (most : Int) (hv : IsInts w w.heap.size v xs) (hl : xs.length ≤ 1000000) (hno : ¬ (2 ≤ xs.length ∧ xs.length ≤ 258 ∧ mayW xs = true ∧ 9 ≤ most ∧ most ≤ 20)) :
    Calls Try.prog 13 #[v, .int .i64 most] w fun e w' => e = .returned (.tuple #[.slice none 0 0, .int .i64 1]) ∧ Below w.heap.size w w' := by
  have CW := Lib.hid (may_any w v xs hv hl)
  obtain ⟨A, ca, rfl, hc1, hc2⟩ := hv.shape
  obtain ⟨N, hN⟩ : ∃ N, xs.length = N := ⟨_, rfl⟩
  rw [hN] at hno hc1 CW ⊢
  generalize mayW xs = b at *
  clear hv hl hN
  cases b with
  | false =>
    clear hno
    go_enter Try.func13, Try.ntmps13
    go_wp2_with fail
    refine CW.out.mono ?_
    rintro e w1 ⟨rfl, rfl⟩
    go_wp2_with fail
    go_ret2
    exact ⟨rfl, Below.refl _ _⟩
  | true =>
    by_cases h1 : N < 2
    · have d1 : decide ((N : Int) < 2) = true := decide_eq_true (by omega)
      clear hno h1
      go_enter Try.func13, Try.ntmps13
      go_wp2_with fail
      refine CW.out.mono ?_
      rintro e w1 ⟨rfl, rfl⟩
      go_wp2_with fail
      go_ret2
      exact ⟨rfl, Below.refl _ _⟩
    · have d1 : decide ((N : Int) < 2) = false := decide_eq_false (by omega)
      by_cases h2 : 258 < N
      · have d2 : decide (258 < (N : Int)) = true := decide_eq_true (by omega)
        clear hno h1 h2
        go_enter Try.func13, Try.ntmps13
        go_wp2_with fail
        refine CW.out.mono ?_
        rintro e w1 ⟨rfl, rfl⟩
        go_wp2_with fail
        go_ret2
        exact ⟨rfl, Below.refl _ _⟩
      · have d2 : decide (258 < (N : Int)) = false := decide_eq_false (by omega)
        by_cases h3 : most < 9
        · have d3 : decide (most < 9) = true := decide_eq_true h3
          clear hno h1 h2 h3
          go_enter Try.func13, Try.ntmps13
          go_wp2_with fail
          refine CW.out.mono ?_
          rintro e w1 ⟨rfl, rfl⟩
          go_wp2_with fail
          go_ret2
          exact ⟨rfl, Below.refl _ _⟩
        · have d3 : decide (most < 9) = false := decide_eq_false h3
          have h4 : 20 < most := by
            have := hno
            simp only [true_and] at this
            omega
          have d4 : decide (20 < most) = true := decide_eq_true h4
          clear hno h1 h2 h3 h4
          go_enter Try.func13, Try.ntmps13
          go_wp2_with fail
          refine CW.out.mono ?_
          rintro e w1 ⟨rfl, rfl⟩
          go_wp2_with fail
          go_ret2
          exact ⟨rfl, Below.refl _ _⟩
/-- what both answers tell: the list, and the error -/
def LenIs (xs : List Int) (most : Int) (R : List Int) (z : Int) : Prop :=
  (∀ (w : World) (v : Value), IsInts w w.heap.size v xs → Calls Try.prog 12 #[v, .int .i64 most] w fun e w' => ∃ q c, e = .returned (.tuple #[.slice q R.length c, .int .i64 z]) ∧ IsInts w' w'.heap.size (.slice q R.length c) R ∧ Below w.heap.size w w') ∧
  ∀ (w : World) (v : Value), IsInts w w.heap.size v xs → Calls Try.prog 13 #[v, .int .i64 most] w fun e w' => ∃ q c, e = .returned (.tuple #[.slice q R.length c, .int .i64 z]) ∧ IsInts w' w'.heap.size (.slice q R.length c) R ∧ Below w.heap.size w w'
theorem lenIs (xs : List Int) (most : Int) (hl : xs.length ≤ 1000000) : ∃ R z, R.length ≤ 258 ∧ LenIs xs most R z := by
  by_cases h : 2 ≤ xs.length ∧ xs.length ≤ 258 ∧ mayW xs = true ∧ 9 ≤ most ∧ most ≤ 20
  · obtain ⟨h2, h258, hm, h9, h20⟩ := h
    obtain ⟨e, hle⟩ := may_ints hm
    obtain ⟨u, hu⟩ : ∃ u, xs.map Int.toNat = u := ⟨_, rfl⟩
    rw [hu] at e hle
    subst e
    obtain ⟨m, rfl⟩ : ∃ m : Nat, most = (m : Int) := ⟨most.toNat, by omega⟩
    rw [length_ints] at h2 h258
    have hR := length_lenF u m h2 h258 (by omega)
    refine ⟨ints (lenF u m), 0, by rw [length_ints, hR]; exact h258, fun w v hv => ?_, fun w v hv => ?_⟩
    · have := lengths_ok w v u m hv hle h2 h258 (by omega) (by omega)
      rw [length_ints, hR]
      exact this
    · have := rlengths_ok w v u m hv hle h2 h258 (by omega) (by omega)
      rw [length_ints, hR]
      exact this
  · refine ⟨[], 1, by simp, fun w v hv => ?_, fun w v hv => ?_⟩
    · refine (lengths_no w v xs most hv hl h).mono ?_
      rintro e w' ⟨rfl, hB⟩
      exact ⟨none, 0, rfl, IsInts.nil _ _, hB⟩
    · refine (rlengths_no w v xs most hv hl h).mono ?_
      rintro e w' ⟨rfl, hB⟩
      exact ⟨none, 0, rfl, IsInts.nil _ _, hB⟩
end Go.Proofs.Ytegjkhhgihcdcaa
