/- Trees of weights: what the depths use up; how far they part. -/
import Derived.Test.YtodniacnjdnffaaHuff
namespace Go.Proofs.Ytodniacnjdnffaa
open Go.RowKit
set_option linter.unusedVariables false

theorem depF_lt (n : Nat) : ∀ (s : List NP) (m : Nat), RowP s m → s.length ≤ n → ∀ y ∈ s, depF n s m y.2 + 1 ≤ s.length := by
  induction n with
  | zero =>
    intro s m _ h1 y hy
    have : s = [] := List.eq_nil_of_length_eq_zero (by omega)
    subst this
    simp at hy
  | succ n ih =>
    intro s m h h1 y hy
    match s, h, h1, hy with
    | [], _, _, hy => simp at hy
    | [z], _, _, hy => simp [depF]
    | a :: b :: r, h, h1, hy =>
      have hl : (insP (a.1 + b.1, m) r).length = r.length + 1 := length_insP _ _
      have hIH := ih _ _ h.step (by rw [hl]; simp at h1; omega)
      rw [depF]
      split
      · have := hIH (a.1 + b.1, m) (insP_mem.2 (.inl rfl))
        simp only [List.length_cons] at this ⊢
        omega
      · rename_i hne
        rcases List.mem_cons.1 hy with rfl | hy
        · exact absurd (.inl rfl) hne
        · rcases List.mem_cons.1 hy with rfl | hy
          · exact absurd (.inr rfl) hne
          · have := hIH y (insP_mem.2 (.inr hy))
            simp only [List.length_cons]
            omega
theorem sum_perm {α : Type} {l m : List α} (f : α → Nat) (h : l.Perm m) : (l.map f).sum = (m.map f).sum := (h.map f).sum_nat
theorem map_other {r : List NP} {a b : NP} {m n : Nat} (h : RowP (a :: b :: r) m) (F : NP → Nat → Nat) : (r.map fun x => F x (depF (n + 1) (a :: b :: r) m x.2)) = r.map fun x => F x (depF n (insP (a.1 + b.1, m) r) (m + 1) x.2) := by
  refine List.map_congr_left fun x hx => ?_
  have hna : x.2 ≠ a.2 := (NumsP.cons.1 h.nums).1 x (by simp [hx])
  have hnb : x.2 ≠ b.2 := (NumsP.cons.1 (NumsP.cons.1 h.nums).2).1 x hx
  rw [depF, if_neg (by simp [hna, hnb])]
/-- what the depths use up is all -/
theorem depF_kraft (D n : Nat) : ∀ (s : List NP) (m : Nat), RowP s m → s.length ≤ n → s ≠ [] → (∀ x ∈ s, depF n s m x.2 ≤ D) → (s.map fun x => 2 ^ (D - depF n s m x.2)).sum = 2 ^ D := by
  induction n with
  | zero =>
    intro s m _ h1 h0
    exact absurd (List.eq_nil_of_length_eq_zero (by omega)) h0
  | succ n ih =>
    intro s m h h1 h0 hD
    match s, h, h1, h0, hD with
    | [], _, _, h0, _ => exact absurd rfl h0
    | [z], _, _, _, _ => simp [depF]
    | a :: b :: r, h, h1, _, hD =>
      have hl : (insP (a.1 + b.1, m) r).length = r.length + 1 := length_insP _ _
      have ha := hD a (by simp)
      have ea : depF (n + 1) (a :: b :: r) m a.2 = depF n (insP (a.1 + b.1, m) r) (m + 1) m + 1 := by rw [depF, if_pos (.inl rfl)]
      have eb : depF (n + 1) (a :: b :: r) m b.2 = depF n (insP (a.1 + b.1, m) r) (m + 1) m + 1 := by rw [depF, if_pos (.inr rfl)]
      rw [ea] at ha
      have hIH := ih _ _ h.step (by rw [hl]; simp at h1; omega) (fun e => by rw [e] at hl; simp at hl) (fun x hx => by
        rcases insP_mem.1 hx with rfl | hx
        · simp only; omega
        · have hna : x.2 ≠ a.2 := (NumsP.cons.1 h.nums).1 x (by simp [hx])
          have hnb : x.2 ≠ b.2 := (NumsP.cons.1 (NumsP.cons.1 h.nums).2).1 x hx
          have := hD x (by simp [hx])
          rw [depF, if_neg (by simp [hna, hnb])] at this
          exact this)
      rw [sum_perm _ (insP_perm _ _), List.map_cons, List.sum_cons] at hIH
      rw [List.map_cons, List.map_cons, List.sum_cons, List.sum_cons, ea, eb, map_other h (fun _ d => 2 ^ (D - d)), ← hIH]
      simp only
      obtain ⟨d, hd⟩ : ∃ d, depF n (insP (a.1 + b.1, m) r) (m + 1) m = d := ⟨_, rfl⟩
      rw [hd] at ha ⊢
      rw [show D - d = (D - (d + 1)) + 1 by omega, Nat.pow_succ]
      omega
/-- what the depths cost is what is joined -/
theorem depF_cost (n : Nat) : ∀ (s : List NP) (m : Nat), RowP s m → s.length ≤ n → (s.map fun x => x.1 * depF n s m x.2).sum = ((newF n s m).map (·.1)).sum := by
  induction n with
  | zero =>
    intro s m _ h1
    have : s = [] := List.eq_nil_of_length_eq_zero (by omega)
    subst this
    rfl
  | succ n ih =>
    intro s m h h1
    match s, h, h1 with
    | [], _, _ => rfl
    | [z], _, _ => simp [depF, newF]
    | a :: b :: r, h, h1 =>
      have hl : (insP (a.1 + b.1, m) r).length = r.length + 1 := length_insP _ _
      have ea : depF (n + 1) (a :: b :: r) m a.2 = depF n (insP (a.1 + b.1, m) r) (m + 1) m + 1 := by rw [depF, if_pos (.inl rfl)]
      have eb : depF (n + 1) (a :: b :: r) m b.2 = depF n (insP (a.1 + b.1, m) r) (m + 1) m + 1 := by rw [depF, if_pos (.inr rfl)]
      have hIH := ih _ _ h.step (by rw [hl]; simp at h1; omega)
      rw [sum_perm _ (insP_perm _ _), List.map_cons, List.sum_cons] at hIH
      have e1 : ((newF (n + 1) (a :: b :: r) m).map (·.1)).sum = (a.1 + b.1) + ((newF n (insP (a.1 + b.1, m) r) (m + 1)).map (·.1)).sum := by rw [newF]; rfl
      rw [e1, ← hIH, List.map_cons, List.map_cons, List.sum_cons, List.sum_cons, ea, eb, map_other h (fun x d => x.1 * d)]
      simp only
      rw [Nat.mul_succ, Nat.mul_succ, Nat.add_mul]
      omega
/-- a row of weights -/
theorem leaves_get (w : List Nat) (i x : Nat) (h : w[i]? = some x) : (x, i) ∈ leaves w := by
  unfold leaves
  rw [List.mem_zipIdx_iff_getElem?]
  exact h
theorem leaves_mem {w : List Nat} {y : NP} (h : y ∈ leaves w) : w[y.2]? = some y.1 := by
  unfold leaves at h
  rw [List.mem_zipIdx_iff_getElem?] at h
  exact h
theorem length_leaves (w : List Nat) : (leaves w).length = w.length := by simp [leaves]
theorem leaves_nums (w : List Nat) : NumsP (leaves w) := by
  unfold NumsP leaves
  rw [show (fun x : NP => x.2) = Prod.snd from rfl, List.zipIdx_map_snd]
  exact List.nodup_range'
theorem leaves_row {w : List Nat} (h : ∀ x ∈ w, 1 ≤ x) : RowP (sortP (leaves w)) w.length := by
  refine ⟨sortP_sort (leaves_nums w), (leaves_nums w).perm (sortP_perm _), fun x hx => ?_, fun x hx => ?_⟩
  · have := leaves_mem ((sortP_perm _).mem_iff.1 hx)
    exact (List.getElem?_eq_some_iff.1 this).1
  · have := leaves_mem ((sortP_perm _).mem_iff.1 hx)
    exact h _ (List.mem_of_getElem? this)
theorem length_sortP (l : List NP) : (sortP l).length = l.length := (sortP_perm l).length_eq
/-- the depth of a weight -/
def dpF (w : List Nat) (i : Nat) : Nat := depF w.length (sortP (leaves w)) w.length i
theorem depthsF_get (w : List Nat) (i : Nat) (h : i < w.length) : (depthsF w)[i]? = some (dpF w i) := by
  unfold depthsF dpF
  rw [List.getElem?_map, List.getElem?_range h]
  rfl
theorem length_depthsF (w : List Nat) : (depthsF w).length = w.length := by simp [depthsF]
theorem leaf_in {w : List Nat} {i x : Nat} (h : w[i]? = some x) : (x, i) ∈ sortP (leaves w) := (sortP_perm _).mem_iff.2 (leaves_get w i x h)
theorem dpF_lt {w : List Nat} (hw : ∀ x ∈ w, 1 ≤ x) {i x : Nat} (h : w[i]? = some x) : dpF w i + 1 ≤ w.length := by
  have := depF_lt w.length _ _ (leaves_row hw) (by rw [length_sortP, length_leaves]; exact Nat.le_refl _) _ (leaf_in h)
  rw [length_sortP, length_leaves] at this
  exact this
/-- a greater weight is no deeper -/
theorem dpF_mono {w : List Nat} (hw : ∀ x ∈ w, 1 ≤ x) {i k x y : Nat} (h : w[i]? = some x) (g : w[k]? = some y) (hxy : x < y) : dpF w k ≤ dpF w i :=
  depF_mono w.length _ _ (leaves_row hw) (by rw [length_sortP, length_leaves]; exact Nat.le_refl _) (x, i) (y, k) (.inl (leaf_in h)) (.inl (leaf_in g)) (by rw [ltP_iff]; exact .inl hxy)
/-- where all weights above a leaf's are more than another's, that other one is no more than one higher -/
theorem dpF_near {w : List Nat} (hw : ∀ x ∈ w, 1 ≤ x) (h2 : 2 ≤ w.length) {i k x y : Nat} (h : w[i]? = some x) (g : w[k]? = some y) (hxy : y ≤ x ∨ y ≤ 2) : dpF w i ≤ dpF w k + 1 := by
  have hr := leaves_row hw
  have hlen : (sortP (leaves w)).length = w.length := by rw [length_sortP, length_leaves]
  obtain ⟨p, hp1, hp2, hp3⟩ := depF_up w.length _ _ hr (by rw [hlen]; exact Nat.le_refl _) (by omega) _ (leaf_in h)
  have hx := hw x (List.mem_of_getElem? h)
  have hpm := newF_ge _ _ _ p hp1
  have hk := (List.getElem?_eq_some_iff.1 g).1
  have hm := depF_mono w.length _ _ hr (by rw [hlen]; exact Nat.le_refl _) (y, k) p (.inl (leaf_in g)) (.inr hp1) (by rw [ltP_iff]; simp only at hp3 ⊢; omega)
  simp only at hp2 hm
  unfold dpF
  omega
/-- what the depths of weights use up -/
theorem depths_kraft {w : List Nat} (hw : ∀ x ∈ w, 1 ≤ x) (h0 : w ≠ []) (D : Nat) (hD : ∀ i, i < w.length → dpF w i ≤ D) : ((depthsF w).map fun d => 2 ^ (D - d)).sum = 2 ^ D := by
  have hr := leaves_row hw
  have hlen : (sortP (leaves w)).length = w.length := by rw [length_sortP, length_leaves]
  have h1 := depF_kraft D w.length _ _ hr (by rw [hlen]; exact Nat.le_refl _) (fun e => by rw [e] at hlen; exact h0 (List.eq_nil_of_length_eq_zero hlen.symm)) (fun x hx => by
    have := leaves_mem ((sortP_perm _).mem_iff.1 hx)
    exact hD x.2 (List.getElem?_eq_some_iff.1 this).1)
  rw [sum_perm _ (sortP_perm _)] at h1
  have h2 : (leaves w).map (fun x => 2 ^ (D - depF w.length (sortP (leaves w)) w.length x.2)) = (depthsF w).map fun d => 2 ^ (D - d) := by
    unfold depthsF
    rw [List.map_map]
    have : (leaves w).map (fun x => 2 ^ (D - depF w.length (sortP (leaves w)) w.length x.2)) = ((leaves w).map (fun x : NP => x.2)).map fun i => 2 ^ (D - depF w.length (sortP (leaves w)) w.length i) := by rw [List.map_map]; rfl
    rw [this]
    congr 1
    unfold leaves
    rw [show (fun x : NP => x.2) = Prod.snd from rfl, List.zipIdx_map_snd, List.range_eq_range']
  rw [← h2]
  exact h1
theorem sum_two (l : List Nat) (d : Nat) (h : ∀ x ∈ l, x = d + 1 ∨ x = d) : (l.map fun x => 2 ^ (d + 1 - x)).sum + l.count (d + 1) = 2 * l.length := by
  induction l with
  | nil => rfl
  | cons x l ih =>
    have hi := ih fun y hy => h y (by simp [hy])
    rw [List.map_cons, List.sum_cons, List.count_cons, List.length_cons]
    rcases h x (by simp) with rfl | rfl
    · simp; omega
    · rw [show x + 1 - x = 1 by omega]
      simp; omega
theorem sum_ones (l : List Nat) : (l.map fun _ => 1).sum = l.length := by
  induction l with
  | nil => rfl
  | cons x l ih => rw [List.map_cons, List.sum_cons, ih, List.length_cons]; omega
/-- depths that part by one at most -/
theorem depths_even {w : List Nat} (hw : ∀ x ∈ w, 1 ≤ x) (h2 : 2 ≤ w.length) (hn : ∀ i k, i < w.length → k < w.length → dpF w i ≤ dpF w k + 1) :
    ∃ d, (∀ i, i < w.length → dpF w i = d + 1 ∨ dpF w i = d) ∧ 2 ^ d < w.length ∧ w.length ≤ 2 ^ (d + 1) ∧ (w.length = 2 ^ (d + 1) → ∀ i, i < w.length → dpF w i = d + 1) := by
  obtain ⟨i0, hi0, hmax⟩ : ∃ i0, i0 < w.length ∧ ∀ i, i < w.length → dpF w i ≤ dpF w i0 := by
    have : ∀ n, 0 < n → n ≤ w.length → ∃ i0, i0 < n ∧ ∀ i, i < n → dpF w i ≤ dpF w i0 := by
      intro n
      induction n with
      | zero => intro h; omega
      | succ n ih =>
        intro _ hn
        rcases Nat.eq_zero_or_pos n with rfl | h0
        · refine ⟨0, by omega, fun i hi => ?_⟩
          obtain rfl : i = 0 := by omega
          exact Nat.le_refl _
        · obtain ⟨j, hj, hm⟩ := ih h0 (by omega)
          by_cases hc : dpF w j ≤ dpF w n
          · refine ⟨n, by omega, fun i hi => ?_⟩
            by_cases e : i = n
            · subst e; exact Nat.le_refl _
            · exact Nat.le_trans (hm i (by omega)) hc
          · refine ⟨j, by omega, fun i hi => ?_⟩
            by_cases e : i = n
            · subst e; omega
            · exact hm i (by omega)
    exact this w.length (by omega) (Nat.le_refl _)
  have hpos : 0 < dpF w i0 := by
    rcases Nat.eq_zero_or_pos (dpF w i0) with h0 | h0
    · exfalso
      have hk := depths_kraft hw (fun e => by rw [e] at h2; simp at h2) 0 (fun i hi => by have := hmax i hi; omega)
      have : ((depthsF w).map fun d => 2 ^ (0 - d)).sum = (depthsF w).length := by
        have e : ((depthsF w).map fun d => 2 ^ (0 - d)) = (depthsF w).map fun _ => 1 := List.map_congr_left fun x _ => by rw [Nat.zero_sub, Nat.pow_zero]
        rw [e, sum_ones]
      rw [this, length_depthsF] at hk
      omega
    · exact h0
  obtain ⟨d, hd⟩ : ∃ d, dpF w i0 = d + 1 := ⟨dpF w i0 - 1, by omega⟩
  have hall : ∀ i, i < w.length → dpF w i = d + 1 ∨ dpF w i = d := fun i hi => by
    have h3 := hmax i hi
    have h4 := hn i0 i hi0 hi
    omega
  have hk := depths_kraft hw (fun e => by rw [e] at h2; simp at h2) (d + 1) (fun i hi => by have := hmax i hi; omega)
  have hmem : ∀ x ∈ depthsF w, x = d + 1 ∨ x = d := fun x hx => by
    obtain ⟨i, hi, he⟩ := List.getElem_of_mem hx
    rw [length_depthsF] at hi
    have h3 := depthsF_get w i hi
    rw [List.getElem?_eq_getElem (by rw [length_depthsF]; exact hi), he] at h3
    injection h3 with h3
    rw [h3]
    exact hall i hi
  have hs := sum_two (depthsF w) d hmem
  rw [hk, length_depthsF] at hs
  have hc0 : 0 < (depthsF w).count (d + 1) := List.count_pos_iff.2 (List.mem_of_getElem? (by rw [← hd]; exact depthsF_get w i0 hi0))
  have hc1 : (depthsF w).count (d + 1) ≤ w.length := by rw [← length_depthsF]; exact List.count_le_length
  rw [Nat.pow_succ] at hs
  refine ⟨d, hall, by omega, by rw [Nat.pow_succ]; omega, fun he i hi => ?_⟩
  have hcl : (depthsF w).count (d + 1) = (depthsF w).length := by rw [length_depthsF, he, Nat.pow_succ]; rw [he, Nat.pow_succ] at hs; omega
  have h5 := List.count_eq_length.1 hcl _ (List.mem_of_getElem? (depthsF_get w i hi))
  exact h5.symm
end Go.Proofs.Ytodniacnjdnffaa
