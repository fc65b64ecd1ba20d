/- weigh.Lengths where it refuses; examples. -/
import Derived.Test.YtodniacnjdnffaaLenW
namespace Go.Proofs.Ytodniacnjdnffaa
open Go.RowKit
set_option linter.unusedVariables false

set_option maxHeartbeats 1600000 in
theorem lengths_no (w : World) (v : Value) (xs : List Int) (most : Int) (hv : IsInts w w.heap.size v xs) (hl : xs.length ≤ 1000000) (hno : ¬ (2 ≤ xs.length ∧ xs.length ≤ 258 ∧ mayW xs = true ∧ 9 ≤ most ∧ most ≤ 20)) :
    Calls Try.prog 11 #[v, .int .i64 most] w fun e w' => e = .returned (.tuple #[.slice none 0 0, .int .i64 1]) ∧ Below w.heap.size w w' := by
  have CW := Lib.hid (within_any w v xs hv hl)
  obtain ⟨A, ca, rfl, hc1, hc2⟩ := hv.shape
  obtain ⟨N, hN⟩ : ∃ N, xs.length = N := ⟨_, rfl⟩
  rw [hN] at hno hc1 CW ⊢
  generalize mayW xs = b at *
  clear hv hl hN
  by_cases h1 : N < 2
  · have d1 : decide ((N : Int) < 2) = true := decide_eq_true (by omega)
    clear hno h1 CW
    go_enter Try.func11, Try.ntmps11
    go_wp2_with fail
    go_ret2
    exact ⟨rfl, Below.refl _ _⟩
  · have d1 : decide ((N : Int) < 2) = false := decide_eq_false (by omega)
    by_cases h2 : 258 < N
    · have d2 : decide (258 < (N : Int)) = true := decide_eq_true (by omega)
      clear hno h1 h2 CW
      go_enter Try.func11, Try.ntmps11
      go_wp2_with fail
      go_ret2
      exact ⟨rfl, Below.refl _ _⟩
    · have d2 : decide (258 < (N : Int)) = false := decide_eq_false (by omega)
      cases b with
      | false =>
        clear hno h1 h2
        go_enter Try.func11, Try.ntmps11
        go_wp2_with fail
        refine CW.out.mono ?_
        rintro e w1 ⟨rfl, hB1⟩
        go_wp2_with fail
        go_ret2
        exact ⟨rfl, hB1⟩
      | true =>
        by_cases h3 : most < 9
        · have d3 : decide (most < 9) = true := decide_eq_true h3
          clear hno h1 h2 h3
          go_enter Try.func11, Try.ntmps11
          go_wp2_with fail
          refine CW.out.mono ?_
          rintro e w1 ⟨rfl, hB1⟩
          go_wp2_with fail
          go_ret2
          exact ⟨rfl, hB1⟩
        · have d3 : decide (most < 9) = false := decide_eq_false h3
          have h4 : 20 < most := by
            have := hno
            simp only [true_and] at this
            omega
          have d4 : decide (20 < most) = true := decide_eq_true h4
          clear hno h1 h2 h3 h4
          go_enter Try.func11, Try.ntmps11
          go_wp2_with fail
          refine CW.out.mono ?_
          rintro e w1 ⟨rfl, hB1⟩
          go_wp2_with fail
          go_ret2
          exact ⟨rfl, hB1⟩
theorem len_ex1 : lenF [5, 1, 1, 2] 9 = [1, 3, 3, 2] := by decide
theorem len_ex2 : lenF [0, 0] 20 = [1, 1] := by decide
/-- numbers that may be weights, as naturals -/
theorem may_ints {xs : List Int} (h : mayW xs = true) : ints (xs.map Int.toNat) = xs ∧ ∀ x ∈ xs.map Int.toNat, x ≤ 1048576 := by
  have h2 := (mayW_iff xs).1 h
  refine ⟨toNat_ints xs fun x hx => (h2 x hx).1, fun x hx => ?_⟩
  simp only [List.mem_map] at hx
  obtain ⟨y, hy, rfl⟩ := hx
  have := h2 y hy
  omega
end Go.Proofs.Ytodniacnjdnffaa
