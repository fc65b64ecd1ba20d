/- ChooseBest's plain law: what the tables' lengths cost; Tables of no symbols. -/
import Derived.Test.YtodniacnjdnffaaTabNo
import Derived.Test.YtodniacnjdnffaaCostW
import Derived.Test.YtodniacnjdnffaaWLaws
namespace Go.Proofs.Ytodniacnjdnffaa
open Go.RowKit
set_option linter.unusedVariables false

theorem dot_nat (a : List Nat) : ∀ b : List Nat, dotI (ints a) (ints b) = ((List.zipWith (fun x y => x * y) b a).sum : Nat) := by
  induction a with
  | nil => intro b; cases b <;> simp [dotI, ints]
  | cons x a ih =>
    intro b
    cases b with
    | nil => simp [dotI, ints]
    | cons y b =>
      have := ih b
      unfold dotI ints at *
      simp only [List.map_cons, List.zipWith_cons_cons, List.sum_cons]
      rw [this]
      push_cast
      rw [Int.mul_comm]
theorem cost_nat (a b : List Nat) (h : a.length = b.length) (ha : ∀ x ∈ a, x ≤ 1048576) (hb : ∀ x ∈ b, x ≤ 1048576) : costF (ints a) (ints b) = ((((List.zipWith (fun x y => x * y) b a).sum : Nat) : Int), 0) := by
  have hm : ∀ l : List Nat, (∀ x ∈ l, x ≤ 1048576) → mayW (ints l) = true := fun l hl => (mayW_iff _).2 fun x hx => by
    simp only [ints, List.mem_map] at hx
    obtain ⟨y, hy, rfl⟩ := hx
    have := hl y hy
    omega
  unfold costF
  rw [if_pos ⟨by rw [length_ints, length_ints, h], hm a ha, hm b hb⟩, dot_nat]
theorem lenF_least (t l : List Nat) (h2 : 2 ≤ t.length) (h20 : t.length ≤ 20) (htp : ∀ x ∈ t, 1 ≤ x) (hc : Code l) (hl : l.length = t.length) :
    (List.zipWith (fun a b => a * b) t (lenF t 20)).sum ≤ (List.zipWith (fun a b => a * b) t l).sum := by
  have hts : startW t = t := by
    unfold startW
    conv => rhs; rw [← List.map_id t]
    exact List.map_congr_left fun x hx => by have := htp x hx; simp; omega
  have hlen : lenF t 20 = depthsF t := by
    unfold lenF
    rw [hts]
    exact lengthsF_done (not_deep htp (by omega)) _
  rw [hlen]
  exact depths_least t l htp hl hc
/-- both costs, and that the first one is no greater -/
theorem best_cost (X l : List Nat) (h2 : 2 ≤ X.length) (h20 : X.length ≤ 20) (htp : ∀ x ∈ X, 1 ≤ x) (htm : ∀ x ∈ X, x ≤ 1048576) (hc : Code l) (hl : l.length = X.length) :
    ∃ a b : Nat, costF (ints (lenF X 20)) (ints X) = ((a : Int), 0) ∧ costF (ints l) (ints X) = ((b : Int), 0) ∧ a ≤ b := by
  have hf := lenF_fits X 20 h2 (by omega) (by omega)
  exact ⟨_, _, cost_nat _ _ (length_lenF X 20 h2 (by omega) (by omega)) (fun x hx => by have := hf x hx; omega) htm, cost_nat _ _ hl (fun x hx => by have := hc.fits x hx; omega) htm, lenF_least X l h2 h20 htp hc hl⟩
set_option maxHeartbeats 1600000 in
theorem tables_nil (w : World) (v : Value) (n : Nat) (hv : IsInts w w.heap.size v []) (h2 : 2 ≤ n) (h258 : n ≤ 258) :
    Calls Try.prog 10 #[v, .int .i64 (n : Nat)] w fun e w' => e = .returned (.tuple #[.slice none 0 0, .slice none 0 0, .int .i64 1]) ∧ Below w.heap.size w w' := by
  obtain ⟨A, ca, rfl, hc1, hc2⟩ := hv.shape
  have d1 : decide ((n : Int) < 2) = false := decide_eq_false (by omega)
  have d2 : decide (258 < (n : Int)) = false := decide_eq_false (by omega)
  clear hv
  go_enter Try.func10, Try.ntmps10
  go_wp2_with fail
  go_ret3
  exact ⟨rfl, Below.refl _ _⟩
end Go.Proofs.Ytodniacnjdnffaa
