/- Plain facts on alphabets, as bits and of bits: no program. -/
import Derived.Test.YtlnkngacenkikaaRest
namespace Go.Proofs.Ytlnkngacenkikaa
open Go.RowKit
set_option linter.unusedVariables false

/-- has a text a byte -/
def hasB (s : List UInt8) (c : Nat) : Bool := s.any fun x => x.toNat == c
def rowB (s : List UInt8) (k : Nat) : List Bool := (List.range 16).map fun i => hasB s (16 * k + i)
def someB (s : List UInt8) (k : Nat) : Bool := (rowB s k).any id
def bytesP (p : Nat → Bool) (n : Nat) : List UInt8 := ((List.range n).filter p).map UInt8.ofNat
def alphaL (s : List UInt8) : List UInt8 := bytesP (hasB s) 256
def headL (s : List UInt8) (n : Nat) : List Bool := (List.range n).map (someB s)
def mapRows (s : List UInt8) : Nat → List Bool
  | 0 => []
  | n + 1 => mapRows s n ++ if someB s n then rowB s n else []
def mapL (s : List UInt8) : List Bool := headL s 16 ++ mapRows s 16
def cntP (p : Nat → Bool) (n : Nat) : Nat := ((List.range n).filter p).length
theorem cntP_succ (p : Nat → Bool) (n : Nat) : cntP p (n + 1) = cntP p n + (p n).toNat := by
  unfold cntP
  rw [List.range_succ, List.filter_append, List.length_append]
  cases h : p n <;> simp [h]
theorem cntP_zero (p : Nat → Bool) : cntP p 0 = 0 := rfl
theorem cntP_le (p : Nat → Bool) (n : Nat) : cntP p n ≤ n := by
  unfold cntP
  have := List.length_filter_le p (List.range n)
  simpa using this
theorem cntP_mono (p : Nat → Bool) {n m : Nat} (h : n ≤ m) : cntP p n ≤ cntP p m := by
  induction h with
  | refl => exact Nat.le_refl _
  | step h ih => rw [cntP_succ]; omega
theorem cntP_congr {p q : Nat → Bool} {n : Nat} (h : ∀ k, k < n → p k = q k) : cntP p n = cntP q n := by
  induction n with
  | zero => rfl
  | succ n ih => rw [cntP_succ, cntP_succ, ih fun k hk => h k (by omega), h n (by omega)]
theorem cntP_lt {p : Nat → Bool} {k n : Nat} (h : k < n) (hp : p k = true) : cntP p k < cntP p n := by
  have h1 := cntP_mono p (show k + 1 ≤ n from h)
  rw [cntP_succ, hp] at h1
  simp at h1
  omega
theorem bytesP_succ (p : Nat → Bool) (n : Nat) : bytesP p (n + 1) = bytesP p n ++ if p n then [UInt8.ofNat n] else [] := by
  unfold bytesP
  rw [List.range_succ, List.filter_append, List.map_append]
  cases h : p n <;> simp [h]
theorem length_bytesP (p : Nat → Bool) (n : Nat) : (bytesP p n).length = cntP p n := by simp [bytesP, cntP]
theorem bytesP_congr {p q : Nat → Bool} {n : Nat} (h : ∀ k, k < n → p k = q k) : bytesP p n = bytesP q n := by
  induction n with
  | zero => rfl
  | succ n ih => rw [bytesP_succ, bytesP_succ, ih fun k hk => h k (by omega), h n (by omega)]
theorem hasB_nil (c : Nat) : hasB [] c = false := rfl
theorem hasB_append (s t : List UInt8) (c : Nat) : hasB (s ++ t) c = (hasB s c || hasB t c) := by simp [hasB]
theorem hasB_one (x : UInt8) (c : Nat) : hasB [x] c = (x.toNat == c) := by simp [hasB]
theorem hasB_bytesP (p : Nat → Bool) (n c : Nat) (hn : n ≤ 256) : hasB (bytesP p n) c = (decide (c < n) && p c) := by
  induction n with
  | zero => rfl
  | succ n ih =>
    rw [bytesP_succ, hasB_append, ih (by omega)]
    have e : (UInt8.ofNat n).toNat = n := by simp; omega
    by_cases hc : c = n
    · subst hc
      cases h : p c <;> simp [hasB, e]
    · have h1 : (n == c) = false := by rw [beq_eq_false_iff_ne]; omega
      have h2 : hasB (if p n = true then [UInt8.ofNat n] else []) c = false := by
        cases p n
        · rfl
        · rw [if_pos rfl, hasB_one, e]; exact h1
      rw [h2, Bool.or_false]
      congr 1
      rw [decide_eq_decide]
      omega
theorem alphaL_bytesP (p : Nat → Bool) : alphaL (bytesP p 256) = bytesP p 256 :=
  bytesP_congr fun k hk => by rw [hasB_bytesP _ _ _ (Nat.le_refl _), decide_eq_true hk, Bool.true_and]
theorem alphaL_alphaL (s : List UInt8) : alphaL (alphaL s) = alphaL s := alphaL_bytesP _
theorem rowB_congr {s t : List UInt8} {k : Nat} (hk : k < 16) (h : ∀ c, c < 256 → hasB s c = hasB t c) : rowB s k = rowB t k := by
  unfold rowB
  apply List.map_congr_left
  intro i hi
  rw [List.mem_range] at hi
  exact h _ (by omega)
theorem mapRows_congr {s t : List UInt8} (h : ∀ c, c < 256 → hasB s c = hasB t c) (n : Nat) (hn : n ≤ 16) : mapRows s n = mapRows t n := by
  induction n with
  | zero => rfl
  | succ n ih => rw [mapRows, mapRows, ih (by omega), show rowB s n = rowB t n from rowB_congr (by omega) h, show someB s n = someB t n by unfold someB; rw [rowB_congr (by omega) h]]
theorem mapL_congr {s t : List UInt8} (h : ∀ c, c < 256 → hasB s c = hasB t c) : mapL s = mapL t := by
  unfold mapL
  rw [mapRows_congr h 16 (Nat.le_refl _)]
  congr 1
  unfold headL
  apply List.map_congr_left
  intro k hk
  rw [List.mem_range] at hk
  unfold someB
  rw [rowB_congr hk h]
theorem mapL_alphaL (s : List UInt8) : mapL (alphaL s) = mapL s :=
  mapL_congr fun c hc => by rw [show alphaL s = bytesP (hasB s) 256 from rfl, hasB_bytesP _ _ _ (Nat.le_refl _), decide_eq_true hc, Bool.true_and]
theorem length_rowB (s : List UInt8) (k : Nat) : (rowB s k).length = 16 := by simp [rowB]
theorem length_headL (s : List UInt8) (n : Nat) : (headL s n).length = n := by simp [headL]
theorem length_mapRows (s : List UInt8) (n : Nat) : (mapRows s n).length = 16 * cntP (someB s) n := by
  induction n with
  | zero => rfl
  | succ n ih =>
    rw [mapRows, List.length_append, ih, cntP_succ]
    cases someB s n
    · simp
    · simp only [if_true, length_rowB, Bool.toNat_true]; omega
theorem length_mapL (s : List UInt8) : (mapL s).length = 16 + 16 * cntP (someB s) 16 := by
  unfold mapL
  rw [List.length_append, length_headL, length_mapRows]
theorem length_mapL_le (s : List UInt8) : (mapL s).length ≤ 272 := by
  rw [length_mapL]
  have := cntP_le (someB s) 16
  omega
theorem headL_succ (s : List UInt8) (n : Nat) : headL s (n + 1) = headL s n ++ [someB s n] := by simp [headL, List.range_succ]
/-- how many bytes there are of an alphabet -/
theorem cntP_or (p q : Nat → Bool) (n : Nat) : cntP (fun c => p c || q c) n ≤ cntP p n + cntP q n := by
  induction n with
  | zero => simp [cntP_zero]
  | succ n ih =>
    rw [cntP_succ, cntP_succ, cntP_succ]
    cases p n <;> cases q n <;> simp <;> omega
theorem cntP_one (x n : Nat) : cntP (fun c => x == c) n ≤ 1 := by
  have h : ∀ m, cntP (fun c => x == c) m = if x < m then 1 else 0 := by
    intro m
    induction m with
    | zero => rfl
    | succ m ih =>
      rw [cntP_succ, ih]
      by_cases h : x = m
      · subst h; simp
      · have : (x == m) = false := by rw [beq_eq_false_iff_ne]; exact h
        rw [this]
        simp only [Bool.toNat_false, Nat.add_zero]
        by_cases h2 : x < m
        · rw [if_pos h2, if_pos (by omega)]
        · rw [if_neg h2, if_neg (by omega)]
  rw [h]
  split <;> omega
theorem cntP_hasB (s : List UInt8) (n : Nat) : cntP (hasB s) n ≤ s.length := by
  induction s with
  | nil =>
    have h : cntP (hasB []) n = cntP (fun _ => false) n := cntP_congr fun k _ => rfl
    rw [h]
    unfold cntP
    simp
  | cons x s ih =>
    rw [cntP_congr (q := fun c => (x.toNat == c) || hasB s c) fun k _ => by simp [hasB]]
    have h1 := cntP_or (fun c => x.toNat == c) (hasB s) n
    have h2 := cntP_one x.toNat n
    rw [List.length_cons]
    omega
theorem length_alphaL (s : List UInt8) : (alphaL s).length ≤ s.length := by
  unfold alphaL
  rw [length_bytesP]
  exact cntP_hasB s 256
theorem length_alphaL_256 (s : List UInt8) : (alphaL s).length ≤ 256 := by
  unfold alphaL
  rw [length_bytesP]
  exact cntP_le _ _
/-- in which rows of sixteen a text has bytes -/
theorem someB_eq (s : List UInt8) (k : Nat) : someB s k = s.any fun x => x.toNat / 16 == k := by
  rw [Bool.eq_iff_iff]
  simp only [someB, rowB, hasB, List.any_map, List.any_eq_true, List.mem_range, Function.comp, id, beq_iff_eq]
  constructor
  · rintro ⟨i, hi, x, hx, h⟩
    exact ⟨x, hx, by omega⟩
  · rintro ⟨x, hx, h⟩
    exact ⟨x.toNat % 16, Nat.mod_lt _ (by omega), x, hx, by omega⟩
theorem someB_append (s t : List UInt8) (k : Nat) : someB (s ++ t) k = (someB s k || someB t k) := by
  rw [someB_eq, someB_eq, someB_eq, List.any_append]
theorem cntP_or_one (p : Nat → Bool) (x n : Nat) (hx : x < n) : cntP (fun c => p c || x == c) n = cntP p n + (!p x).toNat := by
  have h : ∀ m, cntP (fun c => p c || x == c) m = cntP p m + if x < m then (!p x).toNat else 0 := by
    intro m
    induction m with
    | zero => rfl
    | succ m ih =>
      rw [cntP_succ, cntP_succ, ih]
      by_cases h : x = m
      · subst h
        rw [if_neg (by omega), if_pos (by omega)]
        cases p x <;> simp
      · have : (x == m) = false := by rw [beq_eq_false_iff_ne]; exact h
        rw [this, Bool.or_false]
        by_cases h2 : x < m
        · rw [if_pos h2, if_pos (by omega)]; omega
        · rw [if_neg h2, if_neg (by omega)]; omega
  rw [h, if_pos hx]
theorem length_mapL_snoc (s : List UInt8) (c : UInt8) : (mapL (s ++ [c])).length = (mapL s).length + if someB s (c.toNat / 16) then 0 else 16 := by
  rw [length_mapL, length_mapL]
  have hc := c.toNat_lt
  have e : cntP (someB (s ++ [c])) 16 = cntP (fun k => someB s k || c.toNat / 16 == k) 16 := cntP_congr fun k _ => by rw [someB_append, someB_eq [c]]; simp
  rw [e, cntP_or_one _ _ _ (by omega)]
  cases someB s (c.toNat / 16) <;> simp <;> omega

/-- what is read of bits -/
def hdU (u : List UInt8) (a k : Nat) : Bool := B.bitAt u (a + k)
def offU (u : List UInt8) (a k : Nat) : Nat := a + 16 + 16 * cntP (hdU u a) k
def rowU (u : List UInt8) (a k : Nat) : List Bool := B.slice u (offU u a k) 16
def bitU (u : List UInt8) (a c : Nat) : Bool := hdU u a (c / 16) && B.bitAt u (offU u a (c / 16) + c % 16)
def emptyU (u : List UInt8) (a n : Nat) : Bool := (List.range n).any fun k => hdU u a k && !(rowU u a k).any id
def unmapR (u : List UInt8) (a : Nat) : Except Int (List UInt8 × Nat) :=
  if 8 * u.length < offU u a 16 then .error 2
  else if emptyU u a 16 || !(List.range 16).any (hdU u a) then .error 3
  else .ok (bytesP (bitU u a) 256, offU u a 16)
theorem emptyU_succ (u : List UInt8) (a n : Nat) : emptyU u a (n + 1) = (emptyU u a n || (hdU u a n && !(rowU u a n).any id)) := by
  simp [emptyU, List.range_succ]
theorem offU_succ (u : List UInt8) (a n : Nat) : offU u a (n + 1) = offU u a n + if hdU u a n then 16 else 0 := by
  unfold offU
  rw [cntP_succ]
  cases hdU u a n <;> simp <;> omega
theorem offU_mono (u : List UInt8) (a : Nat) {n m : Nat} (h : n ≤ m) : offU u a n ≤ offU u a m := by
  have := cntP_mono (hdU u a) h
  unfold offU
  omega
theorem offU_le (u : List UInt8) (a n : Nat) : offU u a n ≤ a + 16 + 16 * n := by
  have := cntP_le (hdU u a) n
  unfold offU
  omega
theorem bitU_row (u : List UInt8) (a k i : Nat) (hi : i < 16) : bitU u a (16 * k + i) = (hdU u a k && (rowU u a k).getD i false) := by
  unfold bitU rowU
  rw [show (16 * k + i) / 16 = k by omega, show (16 * k + i) % 16 = i by omega, B.getD_slice _ _ _ _ hi]
theorem getD_low (v n i : Nat) (h : i < n) : (B.low v n).getD i false = v.testBit (n - 1 - i) := by
  simp [B.low, List.getD_eq_getElem?_getD, h]
theorem num_testBit (l : List Bool) (i : Nat) (h : i < l.length) : (B.num l).testBit (l.length - 1 - i) = l.getD i false := by
  rw [← getD_low _ _ _ h, B.low_num]
theorem num_zero_iff (l : List Bool) : (B.num l = 0) ↔ l.any id = false := by
  induction l using B.snocRec with
  | nil => simp [B.num_nil]
  | snoc l b ih =>
    rw [B.num_snoc, List.any_append]
    cases b
    · simp only [Bool.toNat_false, List.any_cons, List.any_nil, id, Bool.or_false, ← ih]
      omega
    · simp
theorem num_slice_bit (u : List UInt8) (a n i : Nat) (h : i < n) : (B.num (B.slice u a n)).testBit (n - 1 - i) = B.bitAt u (a + i) := by
  have := num_testBit (B.slice u a n) i (by rw [B.length_slice]; exact h)
  rw [B.length_slice, B.getD_slice _ _ _ _ h] at this
  exact this
theorem num_slice_zero (u : List UInt8) (a n : Nat) : (B.num (B.slice u a n) = 0) ↔ (List.range n).any (fun i => B.bitAt u (a + i)) = false := by
  rw [num_zero_iff]
  simp [B.slice, List.any_map]
theorem num16_lt (l : List Bool) (h : l.length = 16) : B.num l < 65536 := by
  have := B.num_lt l
  rw [h] at this
  exact this
theorem low16 (l : List Bool) (h : l.length = 16) : B.low (B.num l) 16 = l := by
  have := B.low_num l
  rw [h] at this
  exact this
end Go.Proofs.Ytlnkngacenkikaa
