/- Trees of weights: how deep each weight is: the plain law. -/
import Derived.Test.YtodniacnjdnffaaHeapPlain
namespace Go.Proofs.Ytodniacnjdnffaa
open Go.RowKit
set_option linter.unusedVariables false

/-- a row in order: by weight, then by number -/
def insP (x : NP) : List NP → List NP
  | [] => [x]
  | y :: l => if ltP x y then x :: y :: l else y :: insP x l
def SortP (l : List NP) : Prop := l.Pairwise fun a b => ltP a b = true
theorem insP_perm (x : NP) (l : List NP) : (insP x l).Perm (x :: l) := by
  induction l with
  | nil => exact List.Perm.refl _
  | cons y l ih =>
    rw [insP]
    by_cases h : ltP x y = true
    · rw [if_pos h]
    · rw [if_neg h]
      exact (ih.cons y).trans (List.Perm.swap _ _ _)
theorem insP_mem {x z : NP} {l : List NP} : z ∈ insP x l ↔ z = x ∨ z ∈ l := by
  rw [(insP_perm x l).mem_iff, List.mem_cons]
theorem length_insP (x : NP) (l : List NP) : (insP x l).length = l.length + 1 := by
  have := (insP_perm x l).length_eq
  simpa using this
theorem ltP_total {a b : NP} (h : a.2 ≠ b.2) (hn : ltP a b = false) : ltP b a = true := by
  rw [ltP_no] at hn; rw [ltP_iff]; omega
theorem insP_sort {x : NP} {l : List NP} (hl : SortP l) (hx : ∀ y ∈ l, y.2 ≠ x.2) : SortP (insP x l) := by
  induction l with
  | nil => exact List.pairwise_singleton _ _
  | cons y l ih =>
    rw [insP]
    have h1 := List.pairwise_cons.1 hl
    by_cases h : ltP x y = true
    · rw [if_pos h]
      refine List.pairwise_cons.2 ⟨fun z hz => ?_, hl⟩
      rcases List.mem_cons.1 hz with rfl | hz
      · exact h
      · exact ltP_trans h (h1.1 z hz)
    · rw [if_neg h]
      refine List.pairwise_cons.2 ⟨fun z hz => ?_, ih h1.2 fun z hz => hx z (by simp [hz])⟩
      rcases insP_mem.1 hz with rfl | hz
      · exact ltP_total (fun e => hx y (by simp) e.symm) (by simpa using h)
      · exact h1.1 z hz
def sortP : List NP → List NP
  | [] => []
  | x :: l => insP x (sortP l)
theorem sortP_perm (l : List NP) : (sortP l).Perm l := by
  induction l with
  | nil => exact List.Perm.refl _
  | cons x l ih => rw [sortP]; exact (insP_perm x _).trans (ih.cons x)
/-- all numbers are unlike -/
def NumsP (l : List NP) : Prop := (l.map (·.2)).Nodup
theorem NumsP.perm {l m : List NP} (h : NumsP l) (hp : m.Perm l) : NumsP m := (hp.map (fun x : NP => x.2)).nodup_iff.2 h
theorem NumsP.cons {x : NP} {l : List NP} : NumsP (x :: l) ↔ (∀ y ∈ l, y.2 ≠ x.2) ∧ NumsP l := by
  unfold NumsP
  rw [List.map_cons, List.nodup_cons]
  constructor
  · rintro ⟨h1, h2⟩
    exact ⟨fun y hy e => h1 (List.mem_map.2 ⟨y, hy, e⟩), h2⟩
  · rintro ⟨h1, h2⟩
    refine ⟨fun hm => ?_, h2⟩
    obtain ⟨y, hy, e⟩ := List.mem_map.1 hm
    exact h1 y hy e
theorem sortP_sort {l : List NP} (h : NumsP l) : SortP (sortP l) := by
  induction l with
  | nil => exact List.Pairwise.nil
  | cons x l ih =>
    obtain ⟨h1, h2⟩ := NumsP.cons.1 h
    rw [sortP]
    exact insP_sort (ih h2) fun y hy => h1 y ((sortP_perm l).mem_iff.1 hy)
/-- the least of a row is its first -/
theorem least_unique {s h : List NP} {a : NP} (hs : SortP s) (hp : h.Perm s) (hn : NumsP s) (h0 : 0 < h.length) (hl : ∀ j, j < h.length → ltP (gP h j) (gP h 0) = false) : ∃ r, s = gP h 0 :: r := by
  cases s with
  | nil =>
    have := hp.length_eq
    simp at this
    subst this
    simp at h0
  | cons b r =>
    have hb : b ∈ h := hp.mem_iff.2 (by simp)
    have hg : gP h 0 ∈ h := by unfold gP; rw [List.getElem?_eq_getElem h0]; exact List.getElem_mem _
    have hg2 : gP h 0 ∈ b :: r := hp.mem_iff.1 hg
    rcases List.mem_cons.1 hg2 with e | hr
    · exact ⟨r, by rw [e]⟩
    · have h1 := (List.pairwise_cons.1 hs).1 _ hr
      obtain ⟨j, hj, he⟩ := List.getElem_of_mem hb
      have h2 := hl j hj
      have e2 : gP h j = b := by unfold gP; rw [List.getElem?_eq_getElem hj, he]; rfl
      rw [e2, h1] at h2
      cases h2
/-- two rows in order, of the same trees, are one -/
theorem sort_unique {s t : List NP} (hs : SortP s) (ht : SortP t) (hp : s.Perm t) : s = t := by
  induction s generalizing t with
  | nil => exact (hp.nil_eq)
  | cons a s ih =>
    cases t with
    | nil => exact absurd hp.length_eq (by simp)
    | cons b t =>
      have h1 := List.pairwise_cons.1 hs
      have h2 := List.pairwise_cons.1 ht
      have hab : a = b := by
        have ha : a ∈ b :: t := hp.mem_iff.1 (by simp)
        have hb : b ∈ a :: s := hp.mem_iff.2 (by simp)
        rcases List.mem_cons.1 ha with e | ha
        · exact e
        · rcases List.mem_cons.1 hb with e | hb
          · exact e.symm
          · have h3 := h2.1 a ha
            have h4 := ltP_anti (h1.1 b hb)
            rw [h3] at h4
            cases h4
      subst hab
      rw [ih h1.2 h2.2 hp.cons_inv]
/-- which tree has each one, where the row's trees are joined from the number m on -/
def upF : Nat → List NP → Nat → Nat → Nat
  | 0, _, _, _ => 0
  | _ + 1, [], _, _ => 0
  | _ + 1, [_], _, _ => 0
  | n + 1, a :: b :: r, m, x => if x = a.2 ∨ x = b.2 then m else upF n (insP (a.1 + b.1, m) r) (m + 1) x
/-- how deep each tree is -/
def depF : Nat → List NP → Nat → Nat → Nat
  | 0, _, _, _ => 0
  | _ + 1, [], _, _ => 0
  | _ + 1, [_], _, _ => 0
  | n + 1, a :: b :: r, m, x => if x = a.2 ∨ x = b.2 then depF n (insP (a.1 + b.1, m) r) (m + 1) m + 1 else depF n (insP (a.1 + b.1, m) r) (m + 1) x
def leaves (w : List Nat) : List NP := w.zipIdx
/-- how deep each weight is -/
def depthsF (w : List Nat) : List Nat := (List.range w.length).map (depF w.length (sortP (leaves w)) w.length)
theorem depths_ex1 : depthsF [5, 1, 1, 2] = [1, 3, 3, 2] := by decide
theorem depths_ex2 : depthsF [1, 1] = [1, 1] := by decide
/-- the trees that are joined, in their order -/
def newF : Nat → List NP → Nat → List NP
  | 0, _, _ => []
  | _ + 1, [], _ => []
  | _ + 1, [_], _ => []
  | n + 1, a :: b :: r, m => (a.1 + b.1, m) :: newF n (insP (a.1 + b.1, m) r) (m + 1)
/-- a row as it is before trees are joined from m on -/
structure RowP (s : List NP) (m : Nat) : Prop where
  sort : SortP s
  nums : NumsP s
  lt : ∀ x ∈ s, x.2 < m
  pos : ∀ x ∈ s, 1 ≤ x.1
theorem RowP.step {a b : NP} {r : List NP} {m : Nat} (h : RowP (a :: b :: r) m) : RowP (insP (a.1 + b.1, m) r) (m + 1) := by
  obtain ⟨h1, h2, h3, h4⟩ := h
  have hr := (List.pairwise_cons.1 (List.pairwise_cons.1 h1).2).2
  have hn := (NumsP.cons.1 (NumsP.cons.1 h2).2).2
  refine ⟨insP_sort hr fun y hy => ?_, ?_, fun x hx => ?_, fun x hx => ?_⟩
  · have := h3 y (by simp [hy]); show y.2 ≠ m; omega
  · refine NumsP.perm (NumsP.cons.2 ⟨fun y hy => ?_, hn⟩) (insP_perm _ _)
    have := h3 y (by simp [hy]); show y.2 ≠ m; omega
  · rcases insP_mem.1 hx with rfl | hx
    · show m < m + 1; omega
    · have := h3 x (by simp [hx]); omega
  · rcases insP_mem.1 hx with rfl | hx
    · have := h4 a (by simp); show 1 ≤ a.1 + b.1; omega
    · exact h4 x (by simp [hx])
theorem newF_ge (n : Nat) : ∀ (s : List NP) (m : Nat), ∀ y ∈ newF n s m, m ≤ y.2 := by
  induction n with
  | zero => intro s m y hy; simp [newF] at hy
  | succ n ih =>
    intro s m y hy
    match s, hy with
    | [], hy => simp [newF] at hy
    | [x], hy => simp [newF] at hy
    | a :: b :: r, hy =>
      rw [newF] at hy
      rcases List.mem_cons.1 hy with rfl | hy
      · exact Nat.le_refl _
      · have := ih _ _ y hy; omega
/-- each is greater than all whose sum it is not less than -/
theorem newF_big (n : Nat) : ∀ (s : List NP) (m : Nat), RowP s m → ∀ (c : NP), c.2 < m → (∀ x ∈ s, ∀ y ∈ s, x ≠ y → c.1 ≤ x.1 + y.1) → ∀ y ∈ newF n s m, ltP c y = true := by
  induction n with
  | zero => intro s m _ c _ _ y hy; simp [newF] at hy
  | succ n ih =>
    intro s m h c hc hs y hy
    match s, h, hs, hy with
    | [], _, _, hy => simp [newF] at hy
    | [x], _, _, hy => simp [newF] at hy
    | a :: b :: r, h, hs, hy =>
      rw [newF] at hy
      have hab : a ≠ b := fun e => by
        have := (NumsP.cons.1 h.nums).1 b (by simp)
        rw [e] at this
        exact this rfl
      have h0 := hs a (by simp) b (by simp) hab
      rcases List.mem_cons.1 hy with rfl | hy
      · rw [ltP_iff]; simp only; omega
      · refine ih _ _ h.step c (by omega) (fun x hx z hz hne => ?_) y hy
        have hp := h.step.pos
        rcases insP_mem.1 hx with rfl | hx2
        · simp only; omega
        · rcases insP_mem.1 hz with rfl | hz2
          · simp only; omega
          · exact hs x (by simp [hx2]) z (by simp [hz2]) hne
theorem RowP.least {a b : NP} {r : List NP} {m : Nat} (h : RowP (a :: b :: r) m) {x : NP} (hx : x ∈ r) : b.1 ≤ x.1 ∧ a.1 ≤ b.1 ∧ ltP b x = true ∧ ltP a x = true ∧ ltP a b = true := by
  obtain ⟨h1, h2⟩ := List.pairwise_cons.1 h.sort
  obtain ⟨h3, h4⟩ := List.pairwise_cons.1 h2
  have h5 := h3 x hx
  have h6 := h1 b (by simp)
  have h7 := h1 x (by simp [hx])
  refine ⟨?_, ?_, h5, h7, h6⟩
  · rw [ltP_iff] at h5; omega
  · rw [ltP_iff] at h6; omega
/-- behind a step all that come are greater than what was joined -/
theorem newF_after {a b : NP} {r : List NP} {m : Nat} (n : Nat) (h : RowP (a :: b :: r) m) : ∀ y ∈ newF n (insP (a.1 + b.1, m) r) (m + 1), ltP (a.1 + b.1, m) y = true := by
  refine newF_big n _ _ h.step (a.1 + b.1, m) (Nat.lt_succ_self m) fun x hx z hz hne => ?_
  rcases insP_mem.1 hx with rfl | hx
  · simp only; omega
  · rcases insP_mem.1 hz with rfl | hz
    · simp only; omega
    · have h1 := h.least hx
      have h2 := h.least hz
      simp only
      omega
/-- who is not the last one has a greater one above -/
theorem depF_up (n : Nat) : ∀ (s : List NP) (m : Nat), RowP s m → s.length ≤ n → 2 ≤ s.length → ∀ y ∈ s, ∃ p ∈ newF n s m, depF n s m y.2 = depF n s m p.2 + 1 ∧ y.1 < p.1 := by
  induction n with
  | zero => intro s m _ h1 h2; omega
  | succ n ih =>
    intro s m h h1 h2 y hy
    match s, h, h1, h2, hy with
    | [], _, _, h2, _ => simp at h2
    | [x], _, _, h2, _ => simp at h2
    | a :: b :: r, h, h1, h2, hy =>
      have ham := h.lt a (by simp)
      have hbm := h.lt b (by simp)
      have hap := h.pos a (by simp)
      have hbp := h.pos b (by simp)
      have hm : depF (n + 1) (a :: b :: r) m m = depF n (insP (a.1 + b.1, m) r) (m + 1) m := by
        rw [depF, if_neg (by omega)]
      rcases List.mem_cons.1 hy with rfl | hy
      · refine ⟨(y.1 + b.1, m), by rw [newF]; simp, ?_, by simp only; omega⟩
        simp only
        rw [hm, depF, if_pos (.inl rfl)]
      · rcases List.mem_cons.1 hy with rfl | hy
        · refine ⟨(a.1 + y.1, m), by rw [newF]; simp, ?_, by simp only; omega⟩
          simp only
          rw [hm, depF, if_pos (.inr rfl)]
        · have hl : (insP (a.1 + b.1, m) r).length = r.length + 1 := length_insP _ _
          have hr0 : 0 < r.length := List.length_pos_of_mem hy
          obtain ⟨p, hp1, hp2, hp3⟩ := ih _ _ h.step (by rw [hl]; simp at h1; omega) (by omega) y (insP_mem.2 (.inr hy))
          have hpm := newF_ge n _ _ p hp1
          have hna : y.2 ≠ a.2 := (NumsP.cons.1 h.nums).1 y (by simp [hy])
          have hnb : y.2 ≠ b.2 := (NumsP.cons.1 (NumsP.cons.1 h.nums).2).1 y hy
          refine ⟨p, by rw [newF]; simp [hp1], ?_, hp3⟩
          rw [depF, depF, if_neg (by simp [hna, hnb]), if_neg (by omega), hp2]
/-- the greater one is no deeper -/
theorem depF_mono (n : Nat) : ∀ (s : List NP) (m : Nat), RowP s m → s.length ≤ n → ∀ x y : NP, (x ∈ s ∨ x ∈ newF n s m) → (y ∈ s ∨ y ∈ newF n s m) → ltP x y = true → depF n s m y.2 ≤ depF n s m x.2 := by
  induction n with
  | zero =>
    intro s m _ h1 x y hx _ _
    have : s = [] := List.eq_nil_of_length_eq_zero (by omega)
    subst this
    simp [newF] at hx
  | succ n ih =>
    intro s m h h1 x y hx hy hlt
    match s, h, h1, hx, hy with
    | [], _, _, hx, _ => simp [newF] at hx
    | [z], _, _, hx, hy => simp [depF]
    | a :: b :: r, h, h1, hx, hy =>
      have ham := h.lt a (by simp)
      have hbm := h.lt b (by simp)
      have hap := h.pos a (by simp)
      have hbp := h.pos b (by simp)
      have hl : (insP (a.1 + b.1, m) r).length = r.length + 1 := length_insP _ _
      have hafter := newF_after n h
      have hIH := ih _ _ h.step (by rw [hl]; simp at h1; omega)
      have hD : ∀ z : NP, (z ∈ a :: b :: r ∨ z ∈ newF (n + 1) (a :: b :: r) m) → (z = a ∨ z = b) ∧ depF (n + 1) (a :: b :: r) m z.2 = depF n (insP (a.1 + b.1, m) r) (m + 1) m + 1 ∨ (z ∈ insP (a.1 + b.1, m) r ∨ z ∈ newF n (insP (a.1 + b.1, m) r) (m + 1)) ∧ depF (n + 1) (a :: b :: r) m z.2 = depF n (insP (a.1 + b.1, m) r) (m + 1) z.2 := by
        intro z hz
        rw [newF, List.mem_cons, List.mem_cons, List.mem_cons] at hz
        rcases hz with (rfl | rfl | hz) | rfl | hz
        · exact .inl ⟨.inl rfl, by rw [depF, if_pos (.inl rfl)]⟩
        · exact .inl ⟨.inr rfl, by rw [depF, if_pos (.inr rfl)]⟩
        · have hna : z.2 ≠ a.2 := (NumsP.cons.1 h.nums).1 z (by simp [hz])
          have hnb : z.2 ≠ b.2 := (NumsP.cons.1 (NumsP.cons.1 h.nums).2).1 z hz
          exact .inr ⟨.inl (insP_mem.2 (.inr hz)), by rw [depF, if_neg (by simp [hna, hnb])]⟩
        · exact .inr ⟨.inl (insP_mem.2 (.inl rfl)), by rw [depF, if_neg (by simp only; omega)]⟩
        · have := newF_ge n _ _ z hz
          exact .inr ⟨.inr hz, by rw [depF, if_neg (by omega)]⟩
      rcases hD x hx with ⟨hx1, hx2⟩ | ⟨hx1, hx2⟩
      · rcases hD y hy with ⟨hy1, hy2⟩ | ⟨hy1, hy2⟩
        · rw [hx2, hy2]; exact Nat.le_refl _
        · rw [hx2, hy2]
          rcases hy1 with hy1 | hy1
          · by_cases hr0 : r = []
            · subst hr0
              have : y = (a.1 + b.1, m) := by simpa [insP] using hy1
              rw [this]
              exact Nat.le_succ _
            · have hr1 : 0 < r.length := List.length_pos_iff.2 hr0
              obtain ⟨p, hp1, hp2, hp3⟩ := depF_up n _ _ h.step (by rw [hl]; simp at h1; omega) (by omega) y hy1
              have := hIH (a.1 + b.1, m) p (.inl (insP_mem.2 (.inl rfl))) (.inr hp1) (hafter p hp1)
              simp only at this
              omega
          · have := hIH (a.1 + b.1, m) y (.inl (insP_mem.2 (.inl rfl))) (.inr hy1) (hafter y hy1)
            simp only at this
            omega
      · rcases hD y hy with ⟨hy1, hy2⟩ | ⟨hy1, hy2⟩
        · exfalso
          have hbx : ltP b x = true ∧ ltP a x = true := by
            have hc : ltP b (a.1 + b.1, m) = true ∧ ltP a (a.1 + b.1, m) = true := by
              rw [ltP_iff, ltP_iff]; simp only; omega
            rcases hx1 with hx1 | hx1
            · rcases insP_mem.1 hx1 with rfl | hx1
              · exact hc
              · have := h.least hx1
                exact ⟨this.2.2.1, this.2.2.2.1⟩
            · have := hafter x hx1
              exact ⟨ltP_trans hc.1 this, ltP_trans hc.2 this⟩
          rcases hy1 with rfl | rfl
          · have := ltP_anti hbx.2; rw [hlt] at this; cases this
          · have := ltP_anti hbx.1; rw [hlt] at this; cases this
        · rw [hx2, hy2]
          exact hIH x y hx1 hy1 hlt
end Go.Proofs.Ytodniacnjdnffaa
