/- Both answers, for any row, for any text. -/
import Derived.Test.YtdngbmoippadhaaRefTake09b
import Derived.Test.YtdngbmoippadhaaRefPut09
import Derived.Test.YtdngbmoippadhaaAwake09
namespace Go.Proofs.Ytdngbmoippadhaa
open Go.RowKit
set_option linter.unusedVariables false

theorem puts_any (xs : List Int) (hl : xs.length ≤ 281474976710656) : ∃ (d : ByteArray) (n e : Int),
    (∀ (W : World) (v : Value), IsInts W W.heap.size v xs → Calls Try.prog 11 #[v] W fun en w' => en = .returned (.tuple #[.agg #[.string d, .int .i64 n], .int .i64 e]) ∧ Below W.heap.size W w') ∧
    (∀ (W : World) (v : Value), IsInts W W.heap.size v xs → Calls Try.prog 12 #[v] W fun en w' => en = .returned (.tuple #[.agg #[.string d, .int .i64 n], .int .i64 e]) ∧ Below W.heap.size W w') := by
  by_cases h : (manyF xs.length && !xs.any notMay) = true
  · rw [Bool.and_eq_true] at h
    obtain ⟨h1, h2⟩ := h
    simp only [manyF, Bool.and_eq_true, decide_eq_true_eq] at h1
    have h3 : ∀ x ∈ xs, 1 ≤ x ∧ x ≤ 20 := fun x hx => by
      have h4 : xs.any notMay = false := by simpa using h2
      have h5 := List.any_eq_false.1 h4 x hx
      simp [notMay, mayF] at h5
      omega
    obtain ⟨ns, rfl⟩ : ∃ ns : List Nat, xs = ints ns := ⟨xs.map Int.toNat, by
      unfold ints
      rw [List.map_map]
      conv => lhs; rw [← List.map_id xs]
      apply List.map_congr_left
      intro x hx
      have := h3 x hx
      simp only [Function.comp, id]
      omega⟩
    rw [length_ints] at h1
    have h6 : ∀ n ∈ ns, 1 ≤ n ∧ n ≤ 20 := fun n hn => by
      have := h3 (n : Int) (by simp only [ints, List.mem_map]; exact ⟨n, hn, rfl⟩)
      omega
    exact ⟨_, _, _, fun W v hv => delta_put_ok W v ns hv (by omega) (by omega) h6, fun W v hv => rput_ok W v ns hv (by omega) (by omega) h6⟩
  · have h' : (manyF xs.length && !xs.any notMay) = false := by simpa using h
    exact ⟨_, _, _, fun W v hv => delta_put_no W v xs hv hl h', fun W v hv => rput_no W v xs hv h'⟩
def rowR (r : TakeR) : List Int := match r with
  | .ok (l, _) => ints l
  | .error _ => []
def xR (r : TakeR) : Int := match r with
  | .ok (_, x) => (x : Nat)
  | .error _ => 0
def eR (r : TakeR) : Int := match r with
  | .ok _ => 0
  | .error e => e
theorem takeEnds_row {W : World} {r : TakeR} {en : Ending} {w' : World} (h : TakeEnds W r en w') : ∃ q c, en = .returned (.tuple #[.slice q (rowR r).length c, .int .i64 (xR r), .int .i64 (eR r)]) ∧ IsInts w' w'.heap.size (.slice q (rowR r).length c) (rowR r) ∧ Below W.heap.size W w' := by
  cases r with
  | error c =>
    obtain ⟨rfl, hB⟩ := h
    exact ⟨none, 0, rfl, IsInts.nil _ _, hB⟩
  | ok p =>
    obtain ⟨l, x⟩ := p
    obtain ⟨v, rfl, ho, hB⟩ := h
    obtain ⟨q, c, rfl⟩ := ho.shape
    exact ⟨q, c, rfl, ho.is, hB⟩
theorem takeR_len (s : List UInt8) (a c : Nat) (l : List Nat) (x : Nat) (hc : 0 < c) (h : takeR s a c = .ok (l, x)) : l.length = c := by
  rcases Nat.lt_or_ge (8 * s.length) a with ha | ha
  · rw [takeR_past s a c ha] at h
    cases h
  · rw [takeR_deltaP s a c ha] at h
    cases hd : deltaP c (rest s a) with
    | error e' => rw [hd] at h; cases h
    | ok z =>
      obtain ⟨l', r⟩ := z
      rw [hd] at h
      simp only [placed, Except.ok.injEq, Prod.mk.injEq] at h
      obtain ⟨rfl, rfl⟩ := h
      exact (deltaP_short c _ _ _ hc hd).1
theorem takes_any (t : ByteArray) (i m : Int) (ht : t.size ≤ 1099511627776) (hi : i ≤ 9223372036854775807) : ∃ (L : List Int) (x e : Int), L.length ≤ 258 ∧
    (∀ W, Calls Try.prog 14 #[.string t, .int .i64 i, .int .i64 m] W fun en w' => ∃ q c, en = .returned (.tuple #[.slice q L.length c, .int .i64 x, .int .i64 e]) ∧ IsInts w' w'.heap.size (.slice q L.length c) L ∧ Below W.heap.size W w') ∧
    (∀ W, Calls Try.prog 15 #[.string t, .int .i64 i, .int .i64 m] W fun en w' => ∃ q c, en = .returned (.tuple #[.slice q L.length c, .int .i64 x, .int .i64 e]) ∧ IsInts w' w'.heap.size (.slice q L.length c) L ∧ Below W.heap.size W w') := by
  by_cases h : i < 0 ∨ manyF m = false
  · exact ⟨_, _, _, by simp [rowR], fun W => (take_no W t i m h).mono fun _ _ h => takeEnds_row h, fun W => (rtake_no W t i m h).mono fun _ _ h => takeEnds_row h⟩
  · have h1 : 0 ≤ i ∧ 2 ≤ m ∧ m ≤ 258 := by
      have h2 : ¬ i < 0 := fun e => h (.inl e)
      have h3 : manyF m = true := by
        cases hb : manyF m with
        | true => rfl
        | false => exact absurd (.inr hb) h
      simp only [manyF, Bool.and_eq_true, decide_eq_true_eq] at h3
      omega
    obtain ⟨a, rfl⟩ := Int.eq_ofNat_of_zero_le h1.1
    obtain ⟨n, rfl⟩ := Int.eq_ofNat_of_zero_le (show 0 ≤ m by omega)
    refine ⟨rowR (takeR t.data.toList a n), _, _, ?_, fun W => (take_any W t a n ht (by omega) (by omega) (by omega)).mono fun _ _ h => takeEnds_row h, fun W => (rtake_any W t a n ht (by omega) (by omega) (by omega)).mono fun _ _ h => takeEnds_row h⟩
    cases hr : takeR t.data.toList a n with
    | error e => simp [rowR]
    | ok p =>
      obtain ⟨l, x⟩ := p
      have := takeR_len _ _ _ _ _ (by omega) hr
      simp only [rowR, length_ints]
      omega
end Go.Proofs.Ytdngbmoippadhaa
