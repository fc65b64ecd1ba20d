/- Plain laws of what Lengths tells. -/
import Derived.Test.YtodniacnjdnffaaLenN
import Derived.Test.YtodniacnjdnffaaHuff4
namespace Go.Proofs.Ytodniacnjdnffaa
open Go.RowKit
set_option linter.unusedVariables false

theorem lenF_spec (u : List Nat) (most : Nat) (h2 : 2 ≤ u.length) (h258 : u.length ≤ 258) (h9 : 9 ≤ most) :
    ∃ t, lenF u most = depthsF t ∧ t.length = u.length ∧ (∀ x ∈ t, 1 ≤ x) ∧ (∀ i, i < u.length → dpF t i ≤ most) ∧ (∀ i k : Nat, (startW u)[i]? = (startW u)[k]? → t[i]? = t[k]?) ∧ (tooDeep (startW u) most = false → t = startW u) := by
  have h := lengthsF_spec (startW u).sum (startW u) most (startW_pos u) (by rw [length_startW]; exact h2) (by rw [length_startW]; exact h258) h9 (Nat.le_refl _)
  rw [length_startW] at h
  exact h
theorem length_lenF (u : List Nat) (most : Nat) (h2 : 2 ≤ u.length) (h258 : u.length ≤ 258) (h9 : 9 ≤ most) : (lenF u most).length = u.length := by
  obtain ⟨t, h1, h3, _⟩ := lenF_spec u most h2 h258 h9
  rw [h1, length_depthsF, h3]
/-- WeighEven -/
theorem lenF_even (n p most : Nat) (h2 : 2 ≤ n) (h258 : n ≤ 258) (h9 : 9 ≤ most) :
    ∃ d, (∀ i, i < n → (lenF (List.replicate n p) most)[i]? = some (d + 1) ∨ (lenF (List.replicate n p) most)[i]? = some d) ∧ 2 ^ d < n ∧ n ≤ 2 ^ (d + 1) ∧ (n = 2 ^ (d + 1) → ∀ i, i < n → (lenF (List.replicate n p) most)[i]? = some (d + 1)) := by
  obtain ⟨t, h1, h3, h4, h5, h6, _⟩ := lenF_spec (List.replicate n p) most (by simpa using h2) (by simpa using h258) h9
  rw [List.length_replicate] at h3 h5
  have hs : ∀ i, i < n → (startW (List.replicate n p))[i]? = some (max p 1) := fun i hi => by simp [startW, hi]
  have heq : ∀ i k, i < n → k < n → t[i]? = t[k]? := fun i k hi hk => h6 i k (by rw [hs i hi, hs k hk])
  obtain ⟨d, g1, g2, g3, g4⟩ := depths_even h4 (by omega) (fun i k hi hk => by
    rw [h3] at hi hk
    obtain ⟨x, hx⟩ : ∃ x, t[i]? = some x := ⟨_, List.getElem?_eq_getElem (by omega)⟩
    exact dpF_near h4 (by omega) hx ((heq k i hk hi).trans hx) (.inl (Nat.le_refl _)))
  rw [h3] at g1 g2 g3 g4
  refine ⟨d, fun i hi => ?_, g2, g3, fun hn i hi => ?_⟩
  · rw [h1, depthsF_get t i (by omega)]
    rcases g1 i hi with h | h
    · exact .inl (by rw [h])
    · exact .inr (by rw [h])
  · rw [h1, depthsF_get t i (by omega), g4 hn i hi]
/-- WeighOrder -/
theorem lenF_near (u : List Nat) (most : Nat) (h2 : 2 ≤ u.length) (h258 : u.length ≤ 258) (h9 : 9 ≤ most) (i k x y a b : Nat) (hx : u[i]? = some x) (hy : u[k]? = some y) (ha : (lenF u most)[i]? = some a) (hb : (lenF u most)[k]? = some b) (hxy : max x 1 = max y 1) : a ≤ b + 1 := by
  obtain ⟨t, h1, h3, h4, h5, h6, _⟩ := lenF_spec u most h2 h258 h9
  have hi := (List.getElem?_eq_some_iff.1 hx).1
  have hk := (List.getElem?_eq_some_iff.1 hy).1
  have hsx : (startW u)[i]? = some (max x 1) := by simp [startW, hx]
  have hsy : (startW u)[k]? = some (max y 1) := by simp [startW, hy]
  have ht := h6 i k (by rw [hsx, hsy, hxy])
  obtain ⟨z, hz⟩ : ∃ z, t[i]? = some z := ⟨_, List.getElem?_eq_getElem (by omega)⟩
  rw [h1, depthsF_get t i (by omega)] at ha
  rw [h1, depthsF_get t k (by omega)] at hb
  injection ha with ha
  injection hb with hb
  have := dpF_near h4 (by omega) hz (ht.symm.trans hz) (.inl (Nat.le_refl _))
  omega
theorem lenF_mono (u : List Nat) (h2 : 2 ≤ u.length) (h20 : u.length ≤ 20) (i k x y a b : Nat) (hx : u[i]? = some x) (hy : u[k]? = some y) (ha : (lenF u 20)[i]? = some a) (hb : (lenF u 20)[k]? = some b) (hxy : max y 1 < max x 1) : a ≤ b := by
  have hd : lenF u 20 = depthsF (startW u) := lengthsF_done (not_deep (startW_pos u) (by rw [length_startW]; exact h20)) _
  have hi := (List.getElem?_eq_some_iff.1 hx).1
  have hk := (List.getElem?_eq_some_iff.1 hy).1
  have hsx : (startW u)[i]? = some (max x 1) := by simp [startW, hx]
  have hsy : (startW u)[k]? = some (max y 1) := by simp [startW, hy]
  rw [hd, depthsF_get _ i (by rw [length_startW]; exact hi)] at ha
  rw [hd, depthsF_get _ k (by rw [length_startW]; exact hk)] at hb
  injection ha with ha
  injection hb with hb
  have := dpF_mono (startW_pos u) hsy hsx hxy
  omega
/-- WeighFull -/
theorem lenF_fits (u : List Nat) (most : Nat) (h2 : 2 ≤ u.length) (h258 : u.length ≤ 258) (h9 : 9 ≤ most) : ∀ x ∈ lenF u most, 1 ≤ x ∧ x ≤ most := by
  obtain ⟨t, h1, h3, h4, h5, _, _⟩ := lenF_spec u most h2 h258 h9
  intro x hx
  rw [h1] at hx
  obtain ⟨i, hi, he⟩ := List.getElem_of_mem hx
  rw [length_depthsF] at hi
  have h6 := depthsF_get t i hi
  rw [List.getElem?_eq_getElem (by rw [length_depthsF]; exact hi), he] at h6
  injection h6 with h6
  have h7 := h5 i (by omega)
  refine ⟨?_, by omega⟩
  obtain ⟨p, -, hp2, -⟩ := depF_up t.length _ _ (leaves_row h4) (by rw [length_sortP, length_leaves]; exact Nat.le_refl _) (by rw [length_sortP, length_leaves]; omega) _ (leaf_in (List.getElem?_eq_getElem hi))
  have : dpF t i = depF t.length (sortP (leaves t)) t.length p.2 + 1 := hp2
  omega
theorem lenF_kraft (u : List Nat) (most : Nat) (h2 : 2 ≤ u.length) (h258 : u.length ≤ 258) (h9 : 9 ≤ most) (h20 : most ≤ 20) : kraft (lenF u most) = 1048576 := by
  obtain ⟨t, h1, h3, h4, h5, _, _⟩ := lenF_spec u most h2 h258 h9
  rw [h1]
  exact depths_kraft h4 (fun e => by rw [e] at h3; simp at h3; omega) 20 (fun i hi => by have := h5 i (by omega); omega)
theorem lenF_code (u : List Nat) (most : Nat) (h2 : 2 ≤ u.length) (h258 : u.length ≤ 258) (h9 : 9 ≤ most) (h20 : most ≤ 20) : Code (lenF u most) :=
  ⟨by rw [length_lenF u most h2 h258 h9]; exact h2, by rw [length_lenF u most h2 h258 h9]; exact h258, fun x hx => by have := lenF_fits u most h2 h258 h9 x hx; omega, Nat.le_of_eq (lenF_kraft u most h2 h258 h9 h20)⟩
theorem lenF_more (u : List Nat) (most : Nat) (h2 : 2 ≤ u.length) (h257 : u.length ≤ 257) (h9 : 9 ≤ most) (h20 : most ≤ 20) : checkF (ints (lenF u most) ++ [20]) = 6 := by
  have hk := lenF_kraft u most h2 (by omega) h9 h20
  have hc := lenF_code u most h2 (by omega) h9 h20
  have hl := length_lenF u most h2 (by omega) h9
  generalize lenF u most = R at *
  rw [show ints R ++ [20] = ints (R ++ [20]) by simp [ints], checkF_ints, if_neg, if_pos]
  · rw [kraft_append, hk, kraft_cons, kraft_nil]
    omega
  · rw [List.length_append, List.length_singleton]
    have hf : Fits (R ++ [20]) := fun x hx => by
      rcases List.mem_append.1 hx with h | h
      · exact hc.fits x h
      · simp at h; omega
    simp only [hf, not_true, or_false]
    omega
/-- WeighLeast -/
theorem dot_depths (t : List Nat) (ht : ∀ x ∈ t, 1 ≤ x) : (List.zipWith (fun a b => a * b) t (depthsF t)).sum = ((newF t.length (sortP (leaves t)) t.length).map (·.1)).sum := by
  have h1 := depF_cost t.length (sortP (leaves t)) t.length (leaves_row ht) (by rw [length_sortP, length_leaves]; exact Nat.le_refl _)
  rw [← h1, sum_perm (fun x : NP => x.1 * depF t.length (sortP (leaves t)) t.length x.2) (sortP_perm (leaves t))]
  congr 1
  apply List.ext_getElem?
  intro i
  rw [List.getElem?_map]
  unfold leaves
  rw [List.getElem?_zipIdx]
  by_cases hi : i < t.length
  · rw [List.getElem?_zipWith, List.getElem?_eq_getElem hi, depthsF_get t i hi]
    simp [dpF, leaves]
  · rw [List.getElem?_eq_none (by simp; omega), List.getElem?_eq_none (by omega)]
    rfl
theorem zip_cost (t l : List Nat) : coP (List.zip t l) = (List.zipWith (fun a b => a * b) t l).sum := by
  unfold coP
  congr 1
  rw [List.zip, List.map_zipWith]
theorem zip_kraft (D : Nat) (t l : List Nat) (h : t.length = l.length) : krP D (List.zip t l) = (l.map fun x => 2 ^ (D - x)).sum := by
  unfold krP
  congr 1
  have : (List.zip t l).map (fun x : NP => 2 ^ (D - x.2)) = ((List.zip t l).map Prod.snd).map fun x => 2 ^ (D - x) := by rw [List.map_map]; rfl
  rw [this, List.map_snd_zip (by omega)]
theorem depths_least (t l : List Nat) (ht : ∀ x ∈ t, 1 ≤ x) (hl : l.length = t.length) (hc : Code l) : (List.zipWith (fun a b => a * b) t (depthsF t)).sum ≤ (List.zipWith (fun a b => a * b) t l).sum := by
  rw [dot_depths t ht, ← zip_cost]
  refine newF_least 20 t.length _ _ (leaves_row ht) (by rw [length_sortP, length_leaves]; exact Nat.le_refl _) _ ?_ (fun _ y hy => ?_) (fun y hy => ?_) ?_
  · rw [List.map_fst_zip (by omega)]
    have := (sortP_perm (leaves t)).map (fun x : NP => x.1)
    refine (List.Perm.trans this ?_).symm
    have e : (leaves t).map (fun x : NP => x.1) = t := by
      unfold leaves
      exact List.zipIdx_map_fst 0 t
    exact List.Perm.of_eq e
  · exact (hc.fits y.2 (List.of_mem_zip hy).2).1
  · exact (hc.fits y.2 (List.of_mem_zip hy).2).2
  · rw [zip_kraft 20 t l hl.symm]
    exact hc.room
end Go.Proofs.Ytodniacnjdnffaa
