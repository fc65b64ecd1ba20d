/- The document's joining of trees, as a plain law: what it counts are the program's depths. -/
import Derived.Test.YtodniacnjdnffaaHuff2
namespace Go.Proofs.Ytodniacnjdnffaa
open Go.RowKit
set_option linter.unusedVariables false

/-- a tree of the document's row: its weight and number, and which weights it has -/
abbrev TP := NP × List Nat
/-- the first least of a row's weights -/
structure IsLeast (ws : List Nat) (i : Nat) : Prop where
  lt : i < ws.length
  le : ∀ j x y : Nat, ws[i]? = some x → ws[j]? = some y → x ≤ y
  first : ∀ j x y : Nat, j < i → ws[i]? = some x → ws[j]? = some y → x < y
def incAll (deep : List Nat) (all : List Nat) : List Nat := all.foldl (fun d j => d.set j (d[j]?.getD 0 + 1)) deep
theorem length_incAll (all : List Nat) : ∀ deep, (incAll deep all).length = deep.length := by
  induction all with
  | nil => intro deep; rfl
  | cons x all ih => intro deep; unfold incAll at *; rw [List.foldl_cons, ih, List.length_set]
theorem incAll_get (all : List Nat) : ∀ (deep : List Nat) (j d : Nat), deep[j]? = some d → (incAll deep all)[j]? = some (d + all.count j) := by
  induction all with
  | nil => intro deep j d h; simpa [incAll] using h
  | cons x all ih =>
    intro deep j d h
    have hj := (List.getElem?_eq_some_iff.1 h).1
    unfold incAll
    rw [List.foldl_cons]
    show (incAll (deep.set x (deep[x]?.getD 0 + 1)) all)[j]? = _
    by_cases e : x = j
    · subst e
      rw [ih _ x (d + 1) (by rw [List.getElem?_set, if_pos rfl, if_pos hj, h]; rfl), List.count_cons]
      simp
      omega
    · rw [ih _ j d (by rw [List.getElem?_set, if_neg e]; exact h), List.count_cons]
      simp [e]
theorem incAll_snoc (deep all : List Nat) (k x : Nat) (h : all[k]? = some x) : incAll deep (all.take (k + 1)) = (incAll deep (all.take k)).set x ((incAll deep (all.take k))[x]?.getD 0 + 1) := by
  unfold incAll
  rw [List.take_add_one, h, List.foldl_append]
  rfl
/-- what is still to be counted for the weight j -/
def restC (n m : Nat) (s : List NP) (R : List TP) (j : Nat) : Nat := (R.map fun t => t.2.count j * depF n s m t.1.2).sum
structure JInv (N B : Nat) (R : List TP) (deep D : List Nat) (m n : Nat) : Prop where
  row : ∃ s, RowP s m ∧ s.Perm (R.map (·.1)) ∧ ∀ (j d : Nat), deep[j]? = some d → D[j]? = some (d + restC n m s R j)
  inc : (R.map (·.1.2)).Pairwise (· < ·)
  few : R.length ≤ n
  len : deep.length = N ∧ D.length = N
  has : ∀ t ∈ R, ∀ j ∈ t.2, j < N
  wsum : (R.map (·.1.1)).sum ≤ B
  hsum : (R.map (·.2.length)).sum ≤ N
theorem erase_perm {α : Type} (l : List α) (i : Nat) (a : α) (h : l[i]? = some a) : l.Perm (a :: l.eraseIdx i) := by
  induction l generalizing i with
  | nil => simp at h
  | cons x l ih =>
    cases i with
    | zero =>
      simp at h
      subst h
      simp
    | succ i =>
      simp at h
      rw [List.eraseIdx_cons_succ]
      exact (((ih i h).cons x)).trans (List.Perm.swap _ _ _)
theorem pair_lt {l : List Nat} (h : l.Pairwise (· < ·)) (i j x y : Nat) (hij : i < j) (hx : l[i]? = some x) (hy : l[j]? = some y) : x < y := by
  have h1 := (List.getElem?_eq_some_iff.1 hx)
  have h2 := (List.getElem?_eq_some_iff.1 hy)
  obtain ⟨a1, rfl⟩ := h1
  obtain ⟨a2, rfl⟩ := h2
  exact List.pairwise_iff_getElem.1 h i j a1 a2 hij
/-- the first least one is the first of those in order -/
theorem least_head {R : List TP} {s : List NP} (hs : SortP s) (hn : NumsP s) (hp : s.Perm (R.map (·.1))) (hinc : (R.map (·.1.2)).Pairwise (· < ·)) {i : Nat} {a : TP} (hl : IsLeast (R.map (·.1.1)) i) (ha : R[i]? = some a) :
    ∃ r, s = a.1 :: r ∧ r.Perm ((R.eraseIdx i).map (·.1)) := by
  have hh : ((a.1 :: (R.eraseIdx i).map (·.1)) : List NP).Perm s := by
    have := (erase_perm R i a ha).map (fun t : TP => t.1)
    rw [List.map_cons] at this
    exact (hp.trans this).symm
  obtain ⟨r, hr⟩ := least_unique (a := a.1) hs hh hn (by simp) (fun j hj => by
    have e0 : gP (a.1 :: (R.eraseIdx i).map (·.1)) 0 = a.1 := rfl
    rw [e0]
    have hm : gP (a.1 :: (R.eraseIdx i).map (·.1)) j ∈ a.1 :: (R.eraseIdx i).map (·.1) := by
      unfold gP
      rw [List.getElem?_eq_getElem hj]
      exact List.getElem_mem _
    have hm2 : gP (a.1 :: (R.eraseIdx i).map (·.1)) j ∈ R.map (·.1) := by
      have h2 := (erase_perm R i a ha).map (fun t : TP => t.1)
      rw [List.map_cons] at h2
      exact h2.mem_iff.2 hm
    generalize gP (a.1 :: (R.eraseIdx i).map (·.1)) j = y at *
    obtain ⟨t, ht, rfl⟩ := List.mem_map.1 hm2
    obtain ⟨k, hk, rfl⟩ := List.getElem_of_mem ht
    have hki : R[k]? = some R[k] := List.getElem?_eq_getElem hk
    have hwi : (R.map (·.1.1))[i]? = some a.1.1 := by simp [ha]
    have hwk : (R.map (·.1.1))[k]? = some R[k].1.1 := by simp [hk]
    have h1 := hl.le k _ _ hwi hwk
    rw [ltP_no]
    rcases Nat.lt_trichotomy k i with h | h | h
    · have := hl.first k _ _ h hwi hwk
      omega
    · subst h
      rw [ha] at hki
      injection hki with hki
      rw [← hki]
      omega
    · have := pair_lt hinc i k a.1.2 R[k].1.2 h (by simp [ha]) (by simp [hk])
      omega)
  have e0 : gP (a.1 :: (R.eraseIdx i).map (·.1)) 0 = a.1 := rfl
  rw [e0] at hr
  refine ⟨r, hr, ?_⟩
  rw [hr] at hh
  exact (hh.cons_inv).symm
theorem pair_erase {l : List Nat} (h : l.Pairwise (· < ·)) (i : Nat) : (l.eraseIdx i).Pairwise (· < ·) := h.sublist (List.eraseIdx_sublist l i)
theorem map_erase {α β : Type} (f : α → β) (l : List α) (i : Nat) : (l.eraseIdx i).map f = (l.map f).eraseIdx i := by
  induction l generalizing i with
  | nil => rfl
  | cons x l ih => cases i with
    | zero => rfl
    | succ i => simp [ih]
/-- one joining -/
theorem JInv.step {N B : Nat} {R : List TP} {deep D : List Nat} {m n i k : Nat} {a b : TP} (h : JInv N B R deep D m (n + 1)) (hl : IsLeast (R.map (·.1.1)) i) (ha : R[i]? = some a) (hk : IsLeast ((R.eraseIdx i).map (·.1.1)) k) (hb : (R.eraseIdx i)[k]? = some b) :
    JInv N B ((R.eraseIdx i).eraseIdx k ++ [((a.1.1 + b.1.1, m), a.2 ++ b.2)]) (incAll deep (a.2 ++ b.2)) D (m + 1) n := by
  obtain ⟨⟨s, hr, hp, hd⟩, hinc, hfew, hlen, hhas, hws, hhs⟩ := h
  obtain ⟨s1, rfl, hp1⟩ := least_head hr.sort hr.nums hp hinc hl ha
  have hinc1 : ((R.eraseIdx i).map (·.1.2)).Pairwise (· < ·) := by rw [map_erase]; exact pair_erase hinc i
  obtain ⟨s2, rfl, hp2⟩ := least_head (List.pairwise_cons.1 hr.sort).2 (NumsP.cons.1 hr.nums).2 hp1 hinc1 hk hb
  have hP : R.Perm (a :: b :: (R.eraseIdx i).eraseIdx k) := (erase_perm R i a ha).trans ((erase_perm _ k b hb).cons a)
  obtain ⟨Q, hQ⟩ : ∃ Q, (R.eraseIdx i).eraseIdx k = Q := ⟨_, rfl⟩
  have hinc2 : (Q.map (·.1.2)).Pairwise (· < ·) := by rw [← hQ, map_erase]; exact pair_erase hinc1 k
  rw [hQ] at hP hp2 ⊢
  have hmem : ∀ t ∈ Q, t ∈ R := fun t ht => hP.mem_iff.2 (by simp [ht])
  have haR : a ∈ R := List.mem_of_getElem? ha
  have hbR : b ∈ R := hP.mem_iff.2 (by simp)
  have hlenP := hP.length_eq
  simp only [List.length_cons] at hlenP
  refine ⟨⟨_, hr.step, ?_, fun j d hj => ?_⟩, ?_, ?_, ⟨by rw [length_incAll]; exact hlen.1, hlen.2⟩, fun t ht j hj => ?_, ?_, ?_⟩
  · refine (insP_perm _ _).trans ?_
    rw [List.map_append]
    exact ((hp2.cons _)).trans (List.perm_append_comm (l₁ := [(a.1.1 + b.1.1, m)]))
  · have hjl : j < deep.length := by rw [← length_incAll (a.2 ++ b.2)]; exact (List.getElem?_eq_some_iff.1 hj).1
    obtain ⟨d0, hd0⟩ : ∃ d0, deep[j]? = some d0 := ⟨_, List.getElem?_eq_getElem hjl⟩
    rw [incAll_get _ _ _ _ hd0] at hj
    injection hj with hj
    rw [hd j d0 hd0]
    congr 1
    subst hj
    unfold restC
    rw [sum_perm _ hP, List.map_cons, List.map_cons, List.sum_cons, List.sum_cons, List.map_append, List.sum_append]
    have hq : (Q.map fun t => t.2.count j * depF (n + 1) (a.1 :: b.1 :: s2) m t.1.2) = Q.map fun t => t.2.count j * depF n (insP (a.1.1 + b.1.1, m) s2) (m + 1) t.1.2 := by
      refine List.map_congr_left fun t ht => ?_
      have htm : t.1 ∈ s2 := hp2.mem_iff.2 (List.mem_map.2 ⟨t, ht, rfl⟩)
      have hna : t.1.2 ≠ a.1.2 := (NumsP.cons.1 hr.nums).1 _ (by simp [htm])
      have hnb : t.1.2 ≠ b.1.2 := (NumsP.cons.1 (NumsP.cons.1 hr.nums).2).1 _ htm
      rw [depF, if_neg (by simp [hna, hnb])]
    rw [hq]
    have e1 : depF (n + 1) (a.1 :: b.1 :: s2) m a.1.2 = depF n (insP (a.1.1 + b.1.1, m) s2) (m + 1) m + 1 := by rw [depF, if_pos (.inl rfl)]
    have e2 : depF (n + 1) (a.1 :: b.1 :: s2) m b.1.2 = depF n (insP (a.1.1 + b.1.1, m) s2) (m + 1) m + 1 := by rw [depF, if_pos (.inr rfl)]
    rw [e1, e2]
    simp only [List.map_cons, List.map_nil, List.sum_cons, List.sum_nil, List.count_append]
    generalize depF n (insP (a.1.1 + b.1.1, m) s2) (m + 1) m = z
    rw [Nat.mul_succ, Nat.mul_succ, Nat.add_mul]
    omega
  · rw [List.map_append]
    refine List.pairwise_append.2 ⟨hinc2, by simp, fun x hx y hy => ?_⟩
    simp at hy
    subst hy
    obtain ⟨t, ht, rfl⟩ := List.mem_map.1 hx
    exact hr.lt t.1 (by
      have : t.1 ∈ s2 := hp2.mem_iff.2 (List.mem_map.2 ⟨t, ht, rfl⟩)
      simp [this])
  · rw [List.length_append, List.length_singleton]
    omega
  · rcases List.mem_append.1 ht with ht | ht
    · exact hhas t (hmem t ht) j hj
    · simp at ht
      subst ht
      rcases List.mem_append.1 hj with hj | hj
      · exact hhas a haR j hj
      · exact hhas b hbR j hj
  · have := sum_perm (fun t : TP => t.1.1) hP
    simp only [List.map_cons, List.sum_cons] at this
    rw [List.map_append, List.sum_append]
    simp only [List.map_cons, List.map_nil, List.sum_cons, List.sum_nil]
    omega
  · have := sum_perm (fun t : TP => t.2.length) hP
    simp only [List.map_cons, List.sum_cons] at this
    rw [List.map_append, List.sum_append]
    simp only [List.map_cons, List.map_nil, List.sum_cons, List.sum_nil, List.length_append]
    omega
/-- what the two that are joined weigh and have -/
theorem JInv.two {N B : Nat} {R : List TP} {deep D : List Nat} {m n i k : Nat} {a b : TP} (h : JInv N B R deep D m n) (ha : R[i]? = some a) (hb : (R.eraseIdx i)[k]? = some b) :
    a.1.1 + b.1.1 ≤ B ∧ a.2.length + b.2.length ≤ N ∧ (∀ j ∈ a.2 ++ b.2, j < N) ∧ ∀ (j d e : Nat), deep[j]? = some d → D[j]? = some e → d ≤ e := by
  have hP : R.Perm (a :: b :: (R.eraseIdx i).eraseIdx k) := (erase_perm R i a ha).trans ((erase_perm _ k b hb).cons a)
  have h1 := sum_perm (fun t : TP => t.1.1) hP
  have h2 := sum_perm (fun t : TP => t.2.length) hP
  simp only [List.map_cons, List.sum_cons] at h1 h2
  have h3 := h.wsum
  have h4 := h.hsum
  refine ⟨by omega, by omega, fun j hj => ?_, fun j d e hd he => ?_⟩
  · rcases List.mem_append.1 hj with hj | hj
    · exact h.has a (List.mem_of_getElem? ha) j hj
    · exact h.has b (hP.mem_iff.2 (by simp)) j hj
  · obtain ⟨s, _, _, hr⟩ := h.row
    rw [hr j d hd] at he
    injection he with he
    omega
/-- where one tree is left, all is counted -/
theorem JInv.done {N B : Nat} {R : List TP} {deep D : List Nat} {m n : Nat} (h : JInv N B R deep D m n) (h1 : R.length ≤ 1) : deep = D := by
  obtain ⟨⟨s, hr, hp, hd⟩, hinc, hfew, hlen, hhas, hws, hhs⟩ := h
  apply List.ext_getElem?
  intro j
  by_cases hj : j < N
  · have hdj : deep[j]? = some deep[j] := List.getElem?_eq_getElem (by omega)
    rw [hd j _ hdj, hdj]
    congr 1
    have hs : s.length ≤ 1 := by have := hp.length_eq; simp at this; omega
    have hz : ∀ x, depF n s m x = 0 := fun x => by
      match n, s, hs with
      | 0, _, _ => rfl
      | _ + 1, [], _ => rfl
      | _ + 1, [_], _ => rfl
    unfold restC
    simp only [hz, Nat.mul_zero]
    have : ∀ l : List TP, (l.map fun _ => 0).sum = 0 := fun l => by induction l with
      | nil => rfl
      | cons x l ih => simpa using ih
    rw [this]
    rfl
  · rw [List.getElem?_eq_none (by omega), List.getElem?_eq_none (by omega)]
/-- the row at the start -/
def startR (w : List Nat) (k : Nat) : List TP := ((leaves w).take k).map fun x => (x, [x.2])
theorem startR_snoc (w : List Nat) (k x : Nat) (h : w[k]? = some x) : startR w (k + 1) = startR w k ++ [((x, k), [k])] := by
  unfold startR leaves
  rw [List.take_add_one, List.getElem?_zipIdx, h]
  simp
theorem JInv.start {w : List Nat} (hw : ∀ x ∈ w, 1 ≤ x) (B : Nat) (hB : w.sum ≤ B) : JInv w.length B (startR w w.length) (List.replicate w.length 0) (depthsF w) w.length w.length := by
  have hf : (startR w w.length).map (·.1) = leaves w := by
    unfold startR
    rw [List.map_map, List.take_of_length_le (by rw [length_leaves]; exact Nat.le_refl _)]
    exact List.map_id _
  have hR : startR w w.length = (leaves w).map fun x => (x, [x.2]) := by unfold startR; rw [List.take_of_length_le (by rw [length_leaves]; exact Nat.le_refl _)]
  refine ⟨⟨sortP (leaves w), leaves_row hw, by rw [hf]; exact sortP_perm _, fun j d hj => ?_⟩, ?_, ?_, ⟨by simp, length_depthsF w⟩, fun t ht j hj => ?_, ?_, ?_⟩
  · have hjl : j < w.length := by have := (List.getElem?_eq_some_iff.1 hj).1; simpa using this
    have hd0 : d = 0 := by rw [List.getElem?_replicate, if_pos hjl] at hj; injection hj with hj; exact hj.symm
    subst hd0
    rw [depthsF_get w j hjl]
    congr 1
    rw [Nat.zero_add]
    unfold restC dpF
    rw [hR, List.map_map]
    generalize depF w.length (sortP (leaves w)) w.length = F
    have key : ∀ (l : List Nat) (a : Nat), ((l.zipIdx a).map fun x => [x.2].count j * F x.2).sum = if a ≤ j ∧ j < a + l.length then F j else 0 := by
      intro l
      induction l with
      | nil => intro a; simp; omega
      | cons y l ih =>
        intro a
        rw [List.zipIdx_cons, List.map_cons, List.sum_cons, ih, List.count_cons]
        simp only [List.count_nil, List.length_cons, Nat.zero_add]
        by_cases e : a = j
        · subst e
          simp
          intro h
          omega
        · simp only [beq_eq_false_iff_ne.2 e, Bool.false_eq_true, if_false, Nat.zero_mul, Nat.zero_add]
          by_cases h : a + 1 ≤ j ∧ j < a + 1 + l.length
          · rw [if_pos h, if_pos (by omega)]
          · rw [if_neg h, if_neg (by omega)]
    have := key w 0
    rw [if_pos ⟨Nat.zero_le _, by omega⟩] at this
    exact this.symm
  · rw [hR, List.map_map]
    show ((leaves w).map fun x => x.2).Pairwise (· < ·)
    unfold leaves
    rw [List.zipIdx_map_snd]
    exact List.pairwise_lt_range'
  · rw [hR, List.length_map, length_leaves]
    exact Nat.le_refl _
  · rw [hR] at ht
    obtain ⟨x, hx, rfl⟩ := List.mem_map.1 ht
    simp at hj
    subst hj
    have := leaves_mem hx
    exact (List.getElem?_eq_some_iff.1 this).1
  · rw [hR, List.map_map]
    show ((leaves w).map fun x => x.1).sum ≤ B
    unfold leaves
    rw [List.zipIdx_map_fst]
    exact hB
  · rw [hR, List.map_map]
    show ((leaves w).map fun x => 1).sum ≤ _
    rw [sum_ones']
    exact Nat.le_of_eq (length_leaves w)
where
  sum_ones' {α : Type} : ∀ l : List α, (l.map fun _ => 1).sum = l.length
    | [] => rfl
    | x :: l => by rw [List.map_cons, List.sum_cons, sum_ones' l, List.length_cons]; omega
end Go.Proofs.Ytodniacnjdnffaa
