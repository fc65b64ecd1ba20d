/- Plain laws of layer 7: what is read of bits, and what is laid. -/
import Derived.Test.YtlnkngacenkikaaUsedPlain
namespace Go.Proofs.Ytlnkngacenkikaa
open Go.RowKit
set_option linter.unusedVariables false

theorem getD_app_left {l m : List Bool} {i : Nat} (h : i < l.length) : (l ++ m).getD i false = l.getD i false := by
  simp [List.getD_eq_getElem?_getD, List.getElem?_append_left h]
theorem getD_app_right {l m : List Bool} {i : Nat} : (l ++ m).getD (l.length + i) false = m.getD i false := by
  simp [List.getD_eq_getElem?_getD, List.getElem?_append_right]
theorem getD_rowB (l : List UInt8) (k i : Nat) (h : i < 16) : (rowB l k).getD i false = hasB l (16 * k + i) := by simp [rowB, List.getD_eq_getElem?_getD, h]
theorem getD_headL (l : List UInt8) (n k : Nat) (h : k < n) : (headL l n).getD k false = someB l k := by simp [headL, List.getD_eq_getElem?_getD, h]
theorem getD_mapRows (l : List UInt8) (k i n : Nat) (hk : k < n) (hi : i < 16) (hs : someB l k = true) : (mapRows l n).getD (16 * cntP (someB l) k + i) false = (rowB l k).getD i false := by
  induction n with
  | zero => omega
  | succ n ih =>
    rw [mapRows]
    have hl := length_mapRows l n
    by_cases h : k = n
    · subst h
      rw [← hl, getD_app_right, hs, if_pos rfl]
    · have h1 := cntP_lt (p := someB l) (show k < n by omega) hs
      rw [getD_app_left (by omega)]
      exact ih (by omega)
theorem getD_mapL_head (l : List UInt8) (k : Nat) (h : k < 16) : (mapL l).getD k false = someB l k := by
  unfold mapL
  rw [getD_app_left (by rw [length_headL]; exact h), getD_headL _ _ _ h]
theorem getD_mapL_row (l : List UInt8) (k i : Nat) (hk : k < 16) (hi : i < 16) (hs : someB l k = true) : (mapL l).getD (16 + 16 * cntP (someB l) k + i) false = hasB l (16 * k + i) := by
  unfold mapL
  have := getD_app_right (l := headL l 16) (m := mapRows l 16) (i := 16 * cntP (someB l) k + i)
  rw [length_headL, ← Nat.add_assoc] at this
  rw [this, getD_mapRows _ _ _ _ hk hi hs, getD_rowB _ _ _ hi]
theorem any_someB (l : List UInt8) (h : l ≠ []) : (List.range 16).any (someB l) = true := by
  cases l with
  | nil => exact absurd rfl h
  | cons x l =>
    rw [List.any_eq_true]
    have hx := x.toNat_lt
    refine ⟨x.toNat / 16, by rw [List.mem_range]; omega, ?_⟩
    rw [someB_eq]
    simp
/-- where a text's bits stand, they are read -/
theorem unmapR_agree (u : List UInt8) (a : Nat) (l : List UInt8) (h0 : l ≠ []) (hlen : a + (mapL l).length ≤ 8 * u.length) (hb : ∀ i, i < (mapL l).length → B.bitAt u (a + i) = (mapL l).getD i false) :
    unmapR u a = .ok (alphaL l, a + (mapL l).length) := by
  have hml := length_mapL l
  have hd : ∀ k, k < 16 → hdU u a k = someB l k := fun k hk => by
    unfold hdU
    rw [hb k (by omega), getD_mapL_head _ _ hk]
  have hoff : ∀ k, k ≤ 16 → offU u a k = a + 16 + 16 * cntP (someB l) k := fun k hk => by
    unfold offU
    rw [cntP_congr fun j hj => hd j (by omega)]
  have hrow : ∀ k, k < 16 → someB l k = true → rowU u a k = rowB l k := fun k hk hs => by
    have hlt := cntP_lt (p := someB l) hk hs
    unfold rowU
    apply List.ext_getElem
    · rw [B.length_slice, length_rowB]
    · intro i h1 h2
      rw [B.length_slice] at h1
      have e1 := B.getD_slice u (offU u a k) 16 i h1
      have e2 := getD_rowB l k i h1
      have e3 := hb (16 + 16 * cntP (someB l) k + i) (by omega)
      rw [getD_mapL_row _ _ _ hk h1 hs, ← Nat.add_assoc, ← Nat.add_assoc, ← hoff k (by omega)] at e3
      rw [e3, ← e2] at e1
      rw [List.getD_eq_getElem?_getD, List.getD_eq_getElem?_getD, List.getElem?_eq_getElem (by rw [B.length_slice]; exact h1), List.getElem?_eq_getElem h2] at e1
      exact e1
  have hempty : emptyU u a 16 = false := by
    unfold emptyU
    rw [List.any_eq_false]
    intro k hk
    rw [List.mem_range] at hk
    rw [hd k hk]
    cases hs : someB l k with
    | false => simp
    | true =>
      rw [hrow k hk hs]
      have : (rowB l k).any id = true := hs
      rw [this]; simp
  have hany : (List.range 16).any (hdU u a) = true := by
    rw [← any_someB l h0]
    unfold List.any
    rw [Bool.eq_iff_iff]
    show (List.range 16).any (hdU u a) = true ↔ (List.range 16).any (someB l) = true
    rw [List.any_eq_true, List.any_eq_true]
    constructor
    · rintro ⟨k, hk, h⟩
      exact ⟨k, hk, by rw [← hd k (List.mem_range.1 hk)]; exact h⟩
    · rintro ⟨k, hk, h⟩
      exact ⟨k, hk, by rw [hd k (List.mem_range.1 hk)]; exact h⟩
  have hout : bytesP (bitU u a) 256 = alphaL l := bytesP_congr fun c hc => by
    have hq : c / 16 < 16 := by omega
    have hr : c % 16 < 16 := by omega
    have e := bitU_row u a (c / 16) (c % 16) hr
    rw [show 16 * (c / 16) + c % 16 = c by omega, hd _ hq] at e
    rw [e]
    cases hs : someB l (c / 16) with
    | true => rw [hrow _ hq hs, getD_rowB _ _ _ hr, show 16 * (c / 16) + c % 16 = c by omega]; rfl
    | false =>
      have h2 : (rowB l (c / 16)).any id = false := hs
      rw [List.any_eq_false] at h2
      have h3 := getD_rowB l (c / 16) (c % 16) hr
      rw [show 16 * (c / 16) + c % 16 = c by omega] at h3
      rw [← h3]
      have h4 := h2 ((rowB l (c / 16)).getD (c % 16) false) (by
        rw [List.getD_eq_getElem?_getD, List.getElem?_eq_getElem (by rw [length_rowB]; exact hr)]
        exact List.getElem_mem _)
      simpa using h4
  unfold unmapR
  rw [hoff 16 (Nat.le_refl _), if_neg (by omega), hempty, hany, hout, show a + 16 + 16 * cntP (someB l) 16 = a + (mapL l).length by omega]
  rfl
theorem unmapR_within (A T : List Bool) (l : List UInt8) (h0 : l ≠ []) : unmapR (B.pack [A, mapL l, T].flatten) A.length = .ok (alphaL l, A.length + (mapL l).length) := by
  have hf : [A, mapL l, T].flatten = A ++ (mapL l ++ T) := by simp
  have h8 := len8_pack (A ++ (mapL l ++ T))
  rw [hf]
  refine unmapR_agree _ _ l h0 (by simp only [List.length_append] at h8; omega) fun i hi => ?_
  rw [B.bitAt_pack, getD_app_right, getD_app_left hi]
theorem bitAt_take (s : List UInt8) (k i : Nat) (h : i < 8 * k) : B.bitAt (s.take k) i = B.bitAt s i := by
  unfold B.bitAt
  rw [List.getD_eq_getElem?_getD, List.getD_eq_getElem?_getD, List.getElem?_take, if_pos (by omega)]
theorem unmapR_short (l : List UInt8) (k : Nat) (hk : k < (B.pack (mapL l)).length) : unmapR ((B.pack (mapL l)).take k) 0 = .error 2 := by
  have hml := length_mapL l
  have hp := B.length_pack (mapL l)
  have htl : ((B.pack (mapL l)).take k).length = k := by rw [List.length_take]; omega
  unfold unmapR
  rw [htl]
  by_cases h : 8 * k < offU ((B.pack (mapL l)).take k) 0 16
  · rw [if_pos h]
  · exfalso
    have h16 := offU_mono ((B.pack (mapL l)).take k) 0 (Nat.zero_le 16)
    have h0 : offU ((B.pack (mapL l)).take k) 0 0 = 16 := rfl
    have hd : ∀ j, j < 16 → hdU ((B.pack (mapL l)).take k) 0 j = someB l j := fun j hj => by
      unfold hdU
      rw [bitAt_take _ _ _ (by omega), Nat.zero_add, B.bitAt_pack, getD_mapL_head _ _ hj]
    have : offU ((B.pack (mapL l)).take k) 0 16 = (mapL l).length := by
      unfold offU
      rw [cntP_congr fun j hj => hd j hj, hml]
    omega
theorem unmapR_whole (l : List UInt8) (h0 : l ≠ []) : unmapR (B.pack (mapL l)) 0 = .ok (alphaL l, (mapL l).length) := by
  have := unmapR_within [] [] l h0
  simpa using this
/-- what is read is an alphabet, and stands there as its bits -/
theorem unmapR_ok (u : List UInt8) (a : Nat) (o : List UInt8) (n : Nat) (h : unmapR u a = .ok (o, n)) :
    n = a + (mapL o).length ∧ n ≤ 8 * u.length ∧ B.slice u a (mapL o).length = mapL o ∧ alphaL o = o ∧ o ≠ [] ∧ o.length ≤ 256 := by
  unfold unmapR at h
  split at h
  · cases h
  rename_i hlen
  split at h
  · cases h
  rename_i hne
  injection h with h
  injection h with ho hn
  have hem : emptyU u a 16 = false := by
    cases he : emptyU u a 16
    · rfl
    · rw [he] at hne; simp at hne
  have hany : (List.range 16).any (hdU u a) = true := by
    cases he : (List.range 16).any (hdU u a)
    · rw [he] at hne; simp at hne
    · rfl
  have hhas : ∀ c, c < 256 → hasB o c = bitU u a c := fun c hc => by rw [← ho, hasB_bytesP _ _ _ (Nat.le_refl _), decide_eq_true hc, Bool.true_and]
  have hrow : ∀ k, k < 16 → rowB o k = (List.range 16).map fun i => hdU u a k && (rowU u a k).getD i false := fun k hk => by
    unfold rowB
    apply List.map_congr_left
    intro i hi
    rw [List.mem_range] at hi
    rw [hhas _ (by omega), bitU_row _ _ _ _ hi]
  have hrow2 : ∀ k, k < 16 → hdU u a k = true → rowB o k = rowU u a k := fun k hk hd => by
    rw [hrow k hk]
    apply List.ext_getElem
    · simp [rowU, B.length_slice]
    · intro i h1 h2
      simp only [List.getElem_map, List.getElem_range, hd, Bool.true_and]
      rw [List.getD_eq_getElem?_getD, List.getElem?_eq_getElem h2]
      rfl
  have hsome : ∀ k, k < 16 → someB o k = hdU u a k := fun k hk => by
    cases hd : hdU u a k with
    | true =>
      unfold someB
      rw [hrow2 k hk hd]
      unfold emptyU at hem
      rw [List.any_eq_false] at hem
      have := hem k (List.mem_range.2 hk)
      rw [hd] at this
      simpa using this
    | false =>
      unfold someB
      rw [hrow k hk, hd]
      simp
  have hoff : ∀ k, k ≤ 16 → offU u a k = a + 16 + 16 * cntP (someB o) k := fun k hk => by
    unfold offU
    rw [cntP_congr fun j hj => (hsome j (by omega)).symm]
  have hml := length_mapL o
  have hn2 : n = a + (mapL o).length := by rw [← hn, hoff 16 (Nat.le_refl _)]; omega
  refine ⟨hn2, by omega, ?_, ?_, ?_, ?_⟩
  · rw [hml, B.slice_append]
    unfold mapL
    congr 1
    · unfold B.slice headL
      apply List.map_congr_left
      intro k hk
      rw [List.mem_range] at hk
      rw [hsome k hk]; rfl
    · have : ∀ n, n ≤ 16 → B.slice u (a + 16) (16 * cntP (someB o) n) = mapRows o n := by
        intro n
        induction n with
        | zero => intro _; rfl
        | succ n ih =>
          intro hn
          rw [mapRows, ← ih (by omega), cntP_succ]
          cases hd : someB o n with
          | false => simp
          | true =>
            rw [if_pos rfl, hrow2 n (by omega) (by rw [← hsome n (by omega)]; exact hd)]
            unfold rowU
            rw [hoff n (by omega), Bool.toNat_true, Nat.mul_add, B.slice_append]
      exact this 16 (Nat.le_refl _)
  · rw [← ho]; exact alphaL_bytesP _
  · rintro rfl
    rw [List.any_eq_true] at hany
    obtain ⟨k, hk, hd⟩ := hany
    have := hsome k (List.mem_range.1 hk)
    rw [hd, someB_eq] at this
    simp at this
  · rw [← ho, length_bytesP]; exact cntP_le _ _
theorem unmapR_err (u : List UInt8) (a : Nat) (c : Int) (h : unmapR u a = .error c) : c = 2 ∨ c = 3 := by
  unfold unmapR at h
  split at h
  · injection h with h; exact .inl h.symm
  split at h
  · injection h with h; exact .inr h.symm
  · cases h
end Go.Proofs.Ytlnkngacenkikaa
