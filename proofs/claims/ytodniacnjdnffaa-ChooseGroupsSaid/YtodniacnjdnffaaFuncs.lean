/- slices.IndexFunc and ContainsFunc at ints, by what the function value tells. -/
import Derived.Test.YtodniacnjdnffaaKit
namespace Go.Proofs.Ytodniacnjdnffaa
open Go.RowKit
set_option linter.unusedVariables false

/-- the place of the first one of which p holds, or -1 -/
def idxF (p : Int → Bool) (l : List Int) : Int := if l.any p then ((l.takeWhile fun x => !p x).length : Nat) else -1
theorem idxF_ge (p : Int → Bool) (l : List Int) : decide (0 ≤ idxF p l) = l.any p := by
  unfold idxF
  split
  · rename_i h; rw [h]; simp
  · rename_i h
    have : l.any p = false := by simpa using h
    rw [this]; rfl
theorem idxF_found {p : Int → Bool} {l : List Int} {k : Nat} {x : Int} (hk : l[k]? = some x) (hx : p x = true) (hn : ∀ (j : Nat) y, j < k → l[j]? = some y → p y = false) : idxF p l = (k : Int) := by
  have hany : l.any p = true := List.any_eq_true.2 ⟨x, List.mem_of_getElem? hk, hx⟩
  unfold idxF
  rw [if_pos hany]
  congr 1
  induction l generalizing k with
  | nil => simp at hk
  | cons y l ih =>
    cases k with
    | zero =>
      have : y = x := by simpa using hk
      subst this
      simp [hx]
    | succ k =>
      have hy := hn 0 y (by omega) rfl
      have hk' : l[k]? = some x := by simpa using hk
      rw [List.takeWhile_cons, hy]
      simp only [Bool.not_false, if_true, List.length_cons]
      rw [ih hk' (fun j z hj hz => hn (j + 1) z (by omega) (by simpa using hz)) (List.any_eq_true.2 ⟨x, List.mem_of_getElem? hk', hx⟩)]
theorem idxF_none {p : Int → Bool} {l : List Int} (hn : ∀ (j : Nat) y, l[j]? = some y → p y = false) : idxF p l = -1 := by
  have hany : l.any p = false := by
    rw [List.any_eq_false]
    intro x hx
    obtain ⟨j, hj⟩ := List.getElem?_of_mem hx
    simp [hn j x hj]
  unfold idxF
  rw [hany]; rfl

set_option maxHeartbeats 800000 in
theorem indexFunc_any (w : World) (v : Value) (xs : List Int) (p : Int → Bool) (k : Nat) (cap : Array Value) (hk : Enters Try.prog k) (hv : IsInts w w.heap.size v xs) (hlen : xs.length ≤ 281474976710656)
    (hf : ∀ x ∈ xs, ∀ W, Below w.heap.size w W → Calls Try.prog k (#[.int .i64 x] ++ cap) W fun e W' => e = .returned (.bool (p x)) ∧ W = W') :
    Calls Try.prog 46 #[v, .func (.func k) #[] cap] w fun e w' => e = .returned (.int .i64 (idxF p xs)) ∧ Below w.heap.size w w' := by
  obtain ⟨A, ca, rfl, hc1, hc2⟩ := hv.shape
  obtain ⟨N, hN⟩ : ∃ N, xs.length = N := ⟨_, rfl⟩
  rw [hN] at hv hc1 ⊢
  have Hv := Lib.hid hv
  have Hf := Lib.hid hf
  have HN := Lib.hid hN
  have hlN : N ≤ 281474976710656 := by omega
  clear hv hf hN hlen
  have hen := hk
  unfold Enters at hen
  go_enter Try.func46, Try.ntmps46
  go_wp2
  go_loopw [8] (fun i wr => ∃ j : Nat, j ≤ N ∧ i = .int .i64 j ∧ Hid (∀ i y, i < j → xs[i]? = some y → p y = false) ∧ Below w.heap.size w wr) (fun i _ => N + 1 - (intOf i).toNat)
  case atStart => exact ⟨0, Nat.zero_le _, rfl, fun i y h => by omega, Below.refl _ _⟩
  case round =>
    obtain ⟨j, hj, rfl, hall, hB⟩ := hrel
    by_cases hlt : j < N
    · obtain ⟨g, o, rfl, hg, hx⟩ := Hv.out.at j (by rw [HN.out]; exact hlt)
      obtain ⟨x, hxe⟩ : ∃ x, xs[j]? = some x := ⟨_, List.getElem?_eq_getElem (by rw [HN.out]; exact hlt)⟩
      rw [hxe] at hx
      simp only [Option.getD_some] at hx
      have hx' : wr.cell? ⟨g, o + j, none⟩ = some (.int .i64 x) := (hB.cell (p := ⟨g, o + j, none⟩) hg).trans hx
      have C := Lib.hid (Hf.out x (List.mem_of_getElem? hxe) wr hB)
      have Hxe := Lib.hid hxe
      obtain ⟨px, hpx⟩ : ∃ b, p x = b := ⟨_, rfl⟩
      rw [hpx] at C
      have Hpx := Lib.hid hpx
      clear hx hxe hpx
      go_wp2_with fail
      refine C.out.mono ?_
      rintro e w1 ⟨rfl, rfl⟩
      cases px with
      | true =>
        go_wp2_with fail
        go_ret
        exact ⟨ret_int (idxF_found Hxe.out Hpx.out hall).symm, hB⟩
      | false =>
        go_wp2_with fail
        go_roundw
        case rel => exact ⟨j + 1, by omega, by go_num, fun i y hi hy => (by
          by_cases e : i = j
          · subst e; rw [Hxe.out] at hy; injection hy with hy; subst hy; exact Hpx.out
          · exact hall i y (by omega) hy), hB⟩
        case measure => simp [intOf]; omega
    · obtain rfl : j = N := by omega
      go_wp2
      go_ret
      refine ⟨ret_int (idxF_none fun i y hy => hall i y ?_ hy).symm, hB⟩
      rw [← HN.out]
      exact (List.getElem?_eq_some_iff.1 hy).1

set_option maxHeartbeats 400000 in
theorem containsFunc_any (w : World) (v : Value) (xs : List Int) (p : Int → Bool) (k : Nat) (cap : Array Value) (hk : Enters Try.prog k) (hv : IsInts w w.heap.size v xs) (hlen : xs.length ≤ 281474976710656)
    (hf : ∀ x ∈ xs, ∀ W, Below w.heap.size w W → Calls Try.prog k (#[.int .i64 x] ++ cap) W fun e W' => e = .returned (.bool (p x)) ∧ W = W') :
    Calls Try.prog 33 #[v, .func (.func k) #[] cap] w fun e w' => e = .returned (.bool (xs.any p)) ∧ Below w.heap.size w w' := by
  have C := Lib.hid (indexFunc_any w v xs p k cap hk hv hlen hf)
  have hg := idxF_ge p xs
  generalize idxF p xs = z at *
  have Hg := Lib.hid hg
  clear hf hv hg
  go_enter Try.func33, Try.ntmps33
  go_wp2_with fail
  refine C.out.mono ?_
  rintro e w1 ⟨rfl, hB⟩
  go_wp2_with fail
  go_ret
  exact ⟨ret_bool Hg.out, hB⟩
end Go.Proofs.Ytodniacnjdnffaa
