/- Ints of the first reference: its contract. -/
import Derived.Test.YtodniacnjdnffaaKit
namespace Go.Proofs.Ytodniacnjdnffaa
open Go.RowKit
set_option linter.unusedVariables false

theorem isInts_own {w : World} {base e : Nat} {v : Value} {xs : List Int} (h : w.ownsRow base e 1 v xs.length (intCells xs)) : IsInts w w.heap.size v xs := Rd.own h

theorem drewN_more {w wr : World} (h : ∃ m, wr = w.drewN m) (n : Nat) : ∃ m, wr.drewN n = w.drewN m := by
  obtain ⟨m, rfl⟩ := h
  exact ⟨m + n, World.drewN_drewN w m n⟩
set_option maxHeartbeats 1000000 in
theorem refInts_quiet (w : World) (va vb : Value) (xs ys : List Int) (ha : IsInts w w.heap.size va xs) (hb : IsInts w w.heap.size vb ys) (hlx : xs.length ≤ 281474976710656) (hly : ys.length ≤ 281474976710656) :
    Calls Try.prog 12 #[va, vb] w fun e w' => e = .returned (.bool (decide (xs = ys))) ∧ ∃ m, w' = w.drewN m := by
  obtain ⟨A, ca, rfl, hc1, hc2⟩ := ha.shape
  obtain ⟨A2, cb, rfl, hc3, hc4⟩ := hb.shape
  obtain ⟨N, hN⟩ : ∃ N, xs.length = N := ⟨_, rfl⟩
  obtain ⟨M, hM⟩ : ∃ M, ys.length = M := ⟨_, rfl⟩
  rw [hN] at ha hc1 ⊢
  rw [hM] at hb hc3 ⊢
  by_cases hNM : N = M
  · subst hNM
    have Ha := Lib.hid ha
    have Hb := Lib.hid hb
    clear ha hb
    go_enter Try.func12, Try.ntmps12
    go_wp2
    go_loopw [5] (fun i wr => ∃ k : Nat, k ≤ N ∧ i = .int .i64 k ∧ (∀ j, j < k → xs[j]?.getD 0 = ys[j]?.getD 0) ∧ Hid (∃ m, wr = w.drewN m)) (fun i _ => N + 1 - (intOf i).toNat)
    case atStart => exact ⟨0, Nat.zero_le _, rfl, fun j h => by omega, Lib.hid ⟨0, rfl⟩⟩
    case round =>
      obtain ⟨k, hk, rfl, hall, HQ⟩ := hrel
      have hB : Below w.heap.size w wr := by
        obtain ⟨m, hm⟩ := HQ.out
        rw [hm]
        exact below_drewN (Below.refl _ _) m
      have Hall := Lib.hid hall
      clear hall
      by_cases hlt : k < N
      · obtain ⟨g, o, rfl, hg, hx⟩ := Ha.out.at k (by omega)
        obtain ⟨g2, o2, rfl, hg2, hy⟩ := Hb.out.at k (by omega)
        obtain ⟨x, hxe⟩ : ∃ x, xs[k]?.getD 0 = x := ⟨_, rfl⟩
        obtain ⟨y, hye⟩ : ∃ y, ys[k]?.getD 0 = y := ⟨_, rfl⟩
        rw [hxe] at hx
        rw [hye] at hy
        have hx' : wr.cell? ⟨g, o + k, none⟩ = some (.int .i64 x) := (hB.cell (p := ⟨g, o + k, none⟩) hg).trans hx
        have hy' : wr.cell? ⟨g2, o2 + k, none⟩ = some (.int .i64 y) := (hB.cell (p := ⟨g2, o2 + k, none⟩) hg2).trans hy
        go_wp2
        go_quiet (fail)
        go_wp2
        · have hne : (x != y) = true := by assumption
          go_ret
          refine ⟨ret_bool (decide_eq_false fun h => ?_).symm, drewN_more HQ.out _⟩
          subst h
          rw [← hxe, ← hye] at hne
          simp at hne
        · have hne : (x != y) = false := by assumption
          go_roundw
          case rel => exact ⟨k + 1, by omega, by go_num, fun j h => (by
            by_cases e : j = k
            · subst e; rw [hxe, hye]; simpa using hne
            · exact Hall.out j (by omega)), Lib.hid (drewN_more HQ.out _)⟩
          case measure => simp [intOf]; omega
      · obtain rfl : k = N := by omega
        go_wp2
        go_ret
        refine ⟨ret_bool (decide_eq_true ?_).symm, HQ.out⟩
        refine List.ext_getElem? fun i => ?_
        rcases Nat.lt_or_ge i k with h | h
        · have := Hall.out i h
          rw [List.getElem?_eq_getElem (by omega), List.getElem?_eq_getElem (by omega)] at this ⊢
          simpa using this
        · rw [List.getElem?_eq_none (by omega), List.getElem?_eq_none (by omega)]
  · have hne : ((N : Int) != (M : Int)) = true := by simp; omega
    clear ha hb
    go_enter Try.func12, Try.ntmps12
    go_wp2
    go_ret
    refine ⟨ret_bool (decide_eq_false fun h => ?_).symm, 0, rfl⟩
    subst h
    omega
theorem refInts_any (w : World) (va vb : Value) (xs ys : List Int) (ha : IsInts w w.heap.size va xs) (hb : IsInts w w.heap.size vb ys) (hlx : xs.length ≤ 281474976710656) (hly : ys.length ≤ 281474976710656) :
    Calls Try.prog 12 #[va, vb] w fun e w' => e = .returned (.bool (decide (xs = ys))) ∧ Below w.heap.size w w' :=
  (refInts_quiet w va vb xs ys ha hb hlx hly).mono fun _ _ ⟨h, m, hm⟩ => ⟨h, by rw [hm]; exact below_drewN (Below.refl _ _) m⟩
/-- in a region that draws its order -/
theorem refInts_still {w : World} {n : Nat} {va vb : Value} {xs ys : List Int} (ha : IsInts w w.heap.size va xs) (hb : IsInts w w.heap.size vb ys) (hlx : xs.length ≤ 281474976710656) (hly : ys.length ≤ 281474976710656) :
    Calls Try.prog 12 #[va, vb] (w.drewN n) fun e w' => e = .returned (.bool (decide (xs = ys))) ∧ ∃ m, w' = w.drewN m :=
  (refInts_quiet (w.drewN n) va vb xs ys ha hb hlx hly).mono fun _ _ ⟨h, m, hm⟩ => ⟨h, n + m, by rw [hm]; exact World.drewN_drewN w n m⟩
end Go.Proofs.Ytodniacnjdnffaa
