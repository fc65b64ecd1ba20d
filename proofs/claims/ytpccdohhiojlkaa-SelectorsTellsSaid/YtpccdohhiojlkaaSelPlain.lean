/- Layer 12: which table each group has, as bits: the plain law. -/
import Derived.Test.YtpccdohhiojlkaaBitsFacts
namespace Go.Proofs.Ytpccdohhiojlkaa
open Go.RowKit
set_option linter.unusedVariables false

/-- the number at a place comes to the front -/
def mtf (p : List Nat) (k : Nat) : List Nat := p.getD k 0 :: (p.take k ++ p.drop (k + 1))
def unary (k : Nat) : List Bool := List.replicate k true ++ [false]
def selL : List Nat → List Nat → List Bool
  | _, [] => []
  | p, n :: ns => unary (p.idxOf n) ++ selL (mtf p (p.idxOf n)) ns
/-- so many tables are ahead, the others behind in order -/
def Tabs (t : Nat) (p : List Nat) : Prop := p.length = 6 ∧ (p.take t).Perm (List.range t) ∧ p.drop t = List.range' t (6 - t)
theorem tabs_start (t : Nat) (h : t ≤ 6) : Tabs t (List.range 6) := by
  refine ⟨by simp, ?_, ?_⟩
  · rw [List.take_range, Nat.min_eq_left h]
  · rw [List.range_eq_range', List.drop_range']
    congr 1
    omega
theorem mtf_tabs {t : Nat} {p : List Nat} {k : Nat} (h : Tabs t p) (ht : t ≤ 6) (hk : k < t) : Tabs t (mtf p k) := by
  obtain ⟨h1, h2, h3⟩ := h
  have hk6 : k < p.length := by omega
  have hg : p.getD k 0 = p[k] := by rw [List.getD_eq_getElem?_getD, List.getElem?_eq_getElem hk6]; rfl
  have hs : p.take t = p.take k ++ p[k] :: (p.take t).drop (k + 1) := by
    have := List.take_append_drop k (p.take t)
    rw [List.take_take, Nat.min_eq_left (by omega)] at this
    rw [List.drop_eq_getElem_cons (by rw [List.length_take]; omega)] at this
    rw [List.getElem_take] at this
    exact this.symm
  have hd : p.drop (k + 1) = (p.take t).drop (k + 1) ++ p.drop t := by
    conv => lhs; rw [← List.take_append_drop t p]
    rw [List.drop_append_of_le_length (by rw [List.length_take]; omega)]
  have hm : mtf p k = (p[k] :: (p.take k ++ (p.take t).drop (k + 1))) ++ p.drop t := by
    unfold mtf
    rw [hg, hd]
    simp
  have hl : (p[k] :: (p.take k ++ (p.take t).drop (k + 1))).length = t := by
    simp only [List.length_cons, List.length_append, List.length_take, List.length_drop]
    omega
  refine ⟨?_, ?_, ?_⟩
  · rw [hm, List.length_append, hl, List.length_drop]
    omega
  · rw [hm, List.take_append_of_le_length (by omega), List.take_of_length_le (by omega)]
    refine List.Perm.trans ?_ h2
    conv => rhs; rw [hs]
    exact List.perm_middle.symm
  · rw [hm, List.drop_append_of_le_length (by omega), List.drop_of_length_le (by omega), List.nil_append, h3]
theorem mtf_length (p : List Nat) (k : Nat) (h : k < p.length) : (mtf p k).length = p.length := by
  unfold mtf
  simp only [List.length_cons, List.length_append, List.length_take, List.length_drop]
  omega
theorem tabs_idx {t : Nat} {p : List Nat} {n : Nat} (h : Tabs t p) (ht : t ≤ 6) (hn : n < t) : p.idxOf n < t ∧ p.getD (p.idxOf n) 0 = n := by
  obtain ⟨h1, h2, h3⟩ := h
  have hm : n ∈ p.take t := h2.mem_iff.2 (List.mem_range.2 hn)
  have hi : p.idxOf n = (p.take t).idxOf n := by
    conv => lhs; rw [← List.take_append_drop t p]
    rw [List.idxOf_append, if_pos hm]
  have hlt : (p.take t).idxOf n < (p.take t).length := List.idxOf_lt_length_of_mem hm
  have hlt' : p.idxOf n < p.length := by rw [hi]; rw [List.length_take] at hlt; omega
  refine ⟨by rw [hi]; rw [List.length_take] at hlt; omega, ?_⟩
  rw [List.getD_eq_getElem?_getD, List.getElem?_eq_getElem hlt', Option.getD_some]
  exact List.getElem_idxOf hlt'
theorem tabs_at {t : Nat} {p : List Nat} {k : Nat} (h : Tabs t p) (ht : t ≤ 6) (hk : k < t) : p.getD k 0 < t ∧ p.idxOf (p.getD k 0) = k := by
  obtain ⟨h1, h2, h3⟩ := h
  have hk6 : k < p.length := by omega
  have hg : p.getD k 0 = (p.take t)[k]'(by rw [List.length_take]; omega) := by
    rw [List.getD_eq_getElem?_getD, List.getElem?_eq_getElem hk6, List.getElem_take]
    rfl
  have hmem : (p.take t)[k]'(by rw [List.length_take]; omega) ∈ p.take t := List.getElem_mem _
  refine ⟨by rw [hg]; exact List.mem_range.1 (h2.mem_iff.1 hmem), ?_⟩
  have hnd : (p.take t).Nodup := h2.nodup_iff.2 List.nodup_range
  conv => lhs; arg 2; rw [← List.take_append_drop t p]
  rw [hg, List.idxOf_append, if_pos hmem]
  exact hnd.idxOf_getElem k _

/-- how many ones there are, and the bits behind the nought -/
def onesP (t : Nat) : Nat → List Bool → Except Int (Nat × List Bool)
  | _, [] => .error 2
  | k, false :: r => .ok (k, r)
  | k, true :: r => if k + 1 = t then .error 3 else onesP t (k + 1) r
def preS {α : Type} (l : List Nat) : Except Int (List Nat × α) → Except Int (List Nat × α)
  | .error e => .error e
  | .ok (m, x) => .ok (l ++ m, x)
theorem preS_nil {α : Type} (r : Except Int (List Nat × α)) : preS [] r = r := by
  cases r with
  | error e => rfl
  | ok p => rfl
theorem preS_preS {α : Type} (l m : List Nat) (r : Except Int (List Nat × α)) : preS l (preS m r) = preS (l ++ m) r := by
  cases r with
  | error e => rfl
  | ok p => simp [preS]
def selP (t : Nat) : Nat → List Nat → List Bool → Except Int (List Nat × List Bool)
  | 0, _, b => .ok ([], b)
  | c + 1, p, b =>
    match onesP t 0 b with
    | .error e => .error e
    | .ok (k, r) => preS [p.getD k 0] (selP t c (mtf p k) r)
theorem onesP_unary (t k : Nat) : ∀ (d : Nat) (r : List Bool), k + d < t → onesP t d (unary k ++ r) = .ok (d + k, r) := by
  induction k with
  | zero => intro d r _; rfl
  | succ k ih =>
    intro d r h
    have e : unary (k + 1) ++ r = true :: (unary k ++ r) := by simp [unary, List.replicate_succ]
    rw [e, onesP, if_neg (by omega), ih _ _ (by omega)]
    congr 2
    omega
theorem onesP_ok (t : Nat) : ∀ (b : List Bool) (d k : Nat) (r : List Bool), d < t → onesP t d b = .ok (k, r) → d ≤ k ∧ k < t ∧ b = unary (k - d) ++ r := by
  intro b
  induction b with
  | nil => intro d k r _ h; simp [onesP] at h
  | cons x b ih =>
    intro d k r hd h
    cases x with
    | false =>
      simp only [onesP, Except.ok.injEq, Prod.mk.injEq] at h
      obtain ⟨rfl, rfl⟩ := h
      exact ⟨Nat.le_refl _, hd, by simp [unary]⟩
    | true =>
      simp only [onesP] at h
      by_cases he : d + 1 = t
      · rw [if_pos he] at h; cases h
      · rw [if_neg he] at h
        obtain ⟨h1, h2, h3⟩ := ih _ _ _ (by omega) h
        refine ⟨by omega, h2, ?_⟩
        rw [h3, show k - d = (k - (d + 1)) + 1 by omega]
        simp [unary, List.replicate_succ]
theorem onesP_err (t : Nat) : ∀ (b : List Bool) (d : Nat) (e : Int), onesP t d b = .error e → e = 2 ∨ e = 3 := by
  intro b
  induction b with
  | nil => intro d e h; simp [onesP] at h; omega
  | cons x b ih =>
    intro d e h
    cases x with
    | false => simp [onesP] at h
    | true =>
      simp only [onesP] at h
      by_cases he : d + 1 = t
      · rw [if_pos he] at h
        injection h with h
        omega
      · rw [if_neg he] at h
        exact ih _ _ h
/-- cut off -/
theorem onesP_cut (t : Nat) : ∀ (b q : List Bool) (d k : Nat) (r : List Bool), onesP t d (b ++ q) = .ok (k, r) → (∃ r', r = r' ++ q ∧ onesP t d b = .ok (k, r')) ∨ (r.length < q.length ∧ onesP t d b = .error 2) := by
  intro b
  induction b with
  | nil =>
    intro q d k r h
    right
    refine ⟨?_, rfl⟩
    rw [List.nil_append] at h
    exact lt_of q _ k r h
  | cons x b ih =>
    intro q d k r h
    cases x with
    | false =>
      simp only [List.cons_append, onesP, Except.ok.injEq, Prod.mk.injEq] at h
      obtain ⟨rfl, rfl⟩ := h
      exact .inl ⟨b, rfl, rfl⟩
    | true =>
      simp only [List.cons_append, onesP] at h ⊢
      by_cases he : d + 1 = t
      · rw [if_pos he] at h; cases h
      · rw [if_neg he] at h ⊢
        exact ih _ _ _ _ h
where
  lt_of : ∀ (q : List Bool) (d k : Nat) (r : List Bool), onesP t d q = .ok (k, r) → r.length < q.length := by
    intro q
    induction q with
    | nil => intro d k r h; simp [onesP] at h
    | cons x q ih =>
      intro d k r h
      cases x with
      | false =>
        simp only [onesP, Except.ok.injEq, Prod.mk.injEq] at h
        obtain ⟨rfl, rfl⟩ := h
        simp
      | true =>
        simp only [onesP] at h
        by_cases he : d + 1 = t
        · rw [if_pos he] at h; cases h
        · rw [if_neg he] at h
          have := ih _ _ _ h
          simp only [List.length_cons]
          omega
theorem selP_selL (t : Nat) (ht : t ≤ 6) (ns : List Nat) : ∀ (p : List Nat) (r : List Bool), Tabs t p → (∀ n ∈ ns, n < t) → selP t ns.length p (selL p ns ++ r) = .ok (ns, r) := by
  induction ns with
  | nil => intro p r _ _; rfl
  | cons n ns ih =>
    intro p r hp hn
    obtain ⟨h1, h2⟩ := tabs_idx hp ht (hn n (by simp))
    rw [selL, List.length_cons, selP, List.append_assoc, onesP_unary t _ 0 _ (by omega)]
    simp only [Nat.zero_add]
    rw [h2, ih _ r (mtf_tabs hp ht h1) fun m hm => hn m (by simp [hm])]
    rfl
theorem selP_ok (t : Nat) (ht : t ≤ 6) (h0 : 0 < t) (c : Nat) : ∀ (p : List Nat) (b : List Bool) (l : List Nat) (r : List Bool), Tabs t p → selP t c p b = .ok (l, r) → l.length = c ∧ (∀ n ∈ l, n < t) ∧ b = selL p l ++ r := by
  induction c with
  | zero =>
    intro p b l r _ h
    simp only [selP, Except.ok.injEq, Prod.mk.injEq] at h
    obtain ⟨rfl, rfl⟩ := h
    exact ⟨rfl, fun n hn => by simp at hn, rfl⟩
  | succ c ih =>
    intro p b l r hp h
    rw [selP] at h
    cases ho : onesP t 0 b with
    | error e => rw [ho] at h; cases h
    | ok q =>
      obtain ⟨k, r1⟩ := q
      rw [ho] at h
      simp only at h
      obtain ⟨_, hk, hb⟩ := onesP_ok t _ _ _ _ h0 ho
      cases hs : selP t c (mtf p k) r1 with
      | error e => rw [hs] at h; cases h
      | ok q =>
        obtain ⟨l1, r2⟩ := q
        rw [hs] at h
        simp only [preS, Except.ok.injEq, Prod.mk.injEq] at h
        obtain ⟨rfl, rfl⟩ := h
        obtain ⟨g1, g2, g3⟩ := ih _ _ _ _ (mtf_tabs hp ht hk) hs
        obtain ⟨k1, k2⟩ := tabs_at hp ht hk
        refine ⟨by simp [g1], fun n hn => ?_, ?_⟩
        · rcases List.mem_append.1 hn with hn | hn
          · simp only [List.mem_singleton] at hn
            subst hn
            exact k1
          · exact g2 n hn
        · rw [List.singleton_append, selL, k2, hb, g3, Nat.sub_zero, List.append_assoc]
theorem selP_err (t : Nat) (c : Nat) : ∀ (p : List Nat) (b : List Bool) (e : Int), selP t c p b = .error e → e = 2 ∨ e = 3 := by
  induction c with
  | zero => intro p b e h; simp [selP] at h
  | succ c ih =>
    intro p b e h
    rw [selP] at h
    cases ho : onesP t 0 b with
    | error e' =>
      rw [ho] at h
      simp only [Except.error.injEq] at h
      subst h
      exact onesP_err t _ _ _ ho
    | ok q =>
      obtain ⟨k, r1⟩ := q
      rw [ho] at h
      simp only at h
      cases hs : selP t c (mtf p k) r1 with
      | error e' =>
        rw [hs] at h
        simp only [preS, Except.error.injEq] at h
        subst h
        exact ih _ _ _ hs
      | ok q => rw [hs] at h; cases h
theorem selP_cut (t : Nat) (c : Nat) : ∀ (p : List Nat) (b q : List Bool) (l : List Nat) (r : List Bool), selP t c p (b ++ q) = .ok (l, r) → (∃ r', r = r' ++ q ∧ selP t c p b = .ok (l, r')) ∨ (r.length < q.length ∧ selP t c p b = .error 2) := by
  induction c with
  | zero =>
    intro p b q l r h
    simp only [selP, Except.ok.injEq, Prod.mk.injEq] at h
    obtain ⟨rfl, rfl⟩ := h
    exact .inl ⟨b, rfl, rfl⟩
  | succ c ih =>
    intro p b q l r h
    rw [selP] at h ⊢
    cases ho : onesP t 0 (b ++ q) with
    | error e => rw [ho] at h; cases h
    | ok z =>
      obtain ⟨k, r1⟩ := z
      rw [ho] at h
      simp only at h
      cases hs : selP t c (mtf p k) r1 with
      | error e => rw [hs] at h; cases h
      | ok z =>
        obtain ⟨l1, r2⟩ := z
        rw [hs] at h
        simp only [preS, Except.ok.injEq, Prod.mk.injEq] at h
        obtain ⟨rfl, rfl⟩ := h
        rcases onesP_cut t _ _ _ _ _ ho with ⟨r', rfl, h1⟩ | ⟨h1, h2⟩
        · rw [h1]
          simp only
          rcases ih _ _ _ _ _ hs with ⟨r3, rfl, h3⟩ | ⟨h3, h4⟩
          · exact .inl ⟨r3, rfl, by rw [h3]; rfl⟩
          · exact .inr ⟨h3, by rw [h4]; rfl⟩
        · rw [h2]
          have : r2.length ≤ r1.length := len_le c _ _ _ _ hs
          exact .inr ⟨by omega, rfl⟩
where
  len_le : ∀ (c : Nat) (p : List Nat) (b : List Bool) (l : List Nat) (r : List Bool), selP t c p b = .ok (l, r) → r.length ≤ b.length := by
    intro c
    induction c with
    | zero =>
      intro p b l r h
      simp only [selP, Except.ok.injEq, Prod.mk.injEq] at h
      obtain ⟨rfl, rfl⟩ := h
      exact Nat.le_refl _
    | succ c ih =>
      intro p b l r h
      rw [selP] at h
      cases ho : onesP t 0 b with
      | error e => rw [ho] at h; cases h
      | ok z =>
        obtain ⟨k, r1⟩ := z
        rw [ho] at h
        simp only at h
        cases hs : selP t c (mtf p k) r1 with
        | error e => rw [hs] at h; cases h
        | ok z =>
          obtain ⟨l1, r2⟩ := z
          rw [hs] at h
          simp only [preS, Except.ok.injEq, Prod.mk.injEq] at h
          obtain ⟨rfl, rfl⟩ := h
          have h1 := ih _ _ _ _ hs
          have h2 := onesP_cut.lt_of t _ _ _ _ ho
          omega
theorem length_unary (k : Nat) : (unary k).length = k + 1 := by simp [unary]
theorem selL_append (l m : List Nat) : ∀ p, ∃ p', selL p (l ++ m) = selL p l ++ selL p' m := by
  induction l with
  | nil => intro p; exact ⟨p, rfl⟩
  | cons n l ih =>
    intro p
    obtain ⟨p', h⟩ := ih (mtf p (p.idxOf n))
    exact ⟨p', by rw [List.cons_append, selL, selL, h, List.append_assoc]⟩
theorem low_unary (k : Nat) (h : k ≤ 5) : B.low (2 ^ (k + 1) - 2) (k + 1) = unary k := by
  have : ∀ k : Fin 6, B.low (2 ^ (k.val + 1) - 2) (k.val + 1) = unary k.val := by decide
  exact this ⟨k, by omega⟩
end Go.Proofs.Ytpccdohhiojlkaa
