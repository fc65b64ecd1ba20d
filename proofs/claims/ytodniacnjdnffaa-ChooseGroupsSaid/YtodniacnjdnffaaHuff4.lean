/- Trees of weights: no lengths that may be cost less. -/
import Derived.Test.YtodniacnjdnffaaHuff3
namespace Go.Proofs.Ytodniacnjdnffaa
open Go.RowKit
set_option linter.unusedVariables false

/-- pairs of a weight and a length: what they use up, what they cost -/
def krP (D : Nat) (l : List NP) : Nat := (l.map fun x => 2 ^ (D - x.2)).sum
def coP (l : List NP) : Nat := (l.map fun x => x.1 * x.2).sum
theorem krP_cons (D : Nat) (x : NP) (l : List NP) : krP D (x :: l) = 2 ^ (D - x.2) + krP D l := by simp [krP]
theorem coP_cons (x : NP) (l : List NP) : coP (x :: l) = x.1 * x.2 + coP l := by simp [coP]
theorem krP_perm {D : Nat} {l m : List NP} (h : l.Perm m) : krP D l = krP D m := sum_perm _ h
theorem coP_perm {l m : List NP} (h : l.Perm m) : coP l = coP m := sum_perm _ h
/-- the greatest length comes first -/
theorem maxP (l : List NP) (h : l ≠ []) : ∃ x r, l.Perm (x :: r) ∧ ∀ y ∈ r, y.2 ≤ x.2 := by
  induction l with
  | nil => exact absurd rfl h
  | cons z l ih =>
    by_cases hl : l = []
    · subst hl; exact ⟨z, [], List.Perm.refl _, fun y hy => by simp at hy⟩
    · obtain ⟨x, r, hp, hx⟩ := ih hl
      by_cases hc : z.2 ≤ x.2
      · exact ⟨x, z :: r, (hp.cons z).trans (List.Perm.swap _ _ _), fun y hy => by
          rcases List.mem_cons.1 hy with rfl | hy
          · exact hc
          · exact hx y hy⟩
      · refine ⟨z, x :: r, hp.cons z, fun y hy => ?_⟩
        rcases List.mem_cons.1 hy with rfl | hy
        · omega
        · have := hx y hy; omega
/-- the weight a may have the greatest length: whoever has it, takes a's -/
theorem take_long {D a : Nat} {l : List NP} (ha : ∃ la, (a, la) ∈ l) (hmin : ∀ x ∈ l, a ≤ x.1) :
    ∃ (L : Nat) (r : List NP), ((((a, L) :: r).map fun x : NP => x.1).Perm (l.map fun x : NP => x.1)) ∧ krP D ((a, L) :: r) = krP D l ∧ coP ((a, L) :: r) ≤ coP l ∧ (∀ y ∈ r, y.2 ≤ L) ∧ (∀ P : Nat → Prop, (∀ y ∈ l, P y.2) → P L ∧ ∀ y ∈ r, P y.2) := by
  obtain ⟨la, ha⟩ := ha
  obtain ⟨x, r, hp, hx⟩ := maxP l (fun e => by rw [e] at ha; simp at ha)
  by_cases hxa : x = (a, la)
  · subst hxa
    refine ⟨la, r, (hp.map (fun x : NP => x.1)).symm, (krP_perm hp).symm, Nat.le_of_eq (coP_perm hp).symm, hx, fun P hP => ⟨hP (a, la) ha, fun y hy => hP y (hp.mem_iff.2 (by simp [hy]))⟩⟩
  · have har : (a, la) ∈ r := by
      rcases List.mem_cons.1 (hp.mem_iff.1 ha) with e | h
      · exact absurd e.symm hxa
      · exact h
    obtain ⟨r2, hr2⟩ : ∃ r2, r.Perm ((a, la) :: r2) := ⟨r.erase (a, la), List.perm_cons_erase har⟩
    have hxl := hx _ har
    have hax := hmin x (hp.mem_iff.2 (by simp))
    have hp2 : l.Perm (x :: (a, la) :: r2) := hp.trans (hr2.cons x)
    refine ⟨x.2, (x.1, la) :: r2, ?_, ?_, ?_, fun y hy => ?_, fun P hP => ⟨hP x (hp.mem_iff.2 (by simp)), fun y hy => ?_⟩⟩
    · refine List.Perm.trans ?_ (hp2.map (fun x : NP => x.1)).symm
      exact List.Perm.swap _ _ _
    · rw [krP_perm hp2, krP_cons, krP_cons, krP_cons, krP_cons]
    · rw [coP_perm hp2, coP_cons, coP_cons, coP_cons, coP_cons]
      simp only
      obtain ⟨e, he⟩ : ∃ e, x.1 = a + e := ⟨x.1 - a, by omega⟩
      obtain ⟨f, hf⟩ : ∃ f, x.2 = la + f := ⟨x.2 - la, by simp only at hxl; omega⟩
      rw [he, hf, Nat.add_mul, Nat.add_mul, Nat.mul_add, Nat.mul_add]
      omega
    · rcases List.mem_cons.1 hy with rfl | hy
      · exact hxl
      · exact hx y (hr2.mem_iff.2 (by simp [hy]))
    · rcases List.mem_cons.1 hy with rfl | hy
      · exact hP (a, la) ha
      · exact hP y (hp2.mem_iff.2 (by simp [hy]))
theorem krP_dvd (D L : Nat) (hL : L ≤ D) (r : List NP) (h : ∀ y ∈ r, y.2 ≤ L) : 2 ^ (D - L) ∣ krP D r := by
  induction r with
  | nil => exact ⟨0, rfl⟩
  | cons y r ih =>
    rw [krP_cons]
    refine Nat.dvd_add ?_ (ih fun z hz => h z (by simp [hz]))
    have := h y (by simp)
    exact Nat.pow_dvd_pow 2 (by omega)
/-- a greatest length that no other one has, may be one less -/
theorem shorten {D L : Nat} (hL1 : 1 ≤ L) (hL : L ≤ D) (a : Nat) (r : List NP) (h : ∀ y ∈ r, y.2 < L) (hk : krP D ((a, L) :: r) ≤ 2 ^ D) : krP D ((a, L - 1) :: r) ≤ 2 ^ D := by
  rw [krP_cons] at hk ⊢
  simp only at hk ⊢
  obtain ⟨q, hq⟩ := krP_dvd D (L - 1) (by omega) r (fun y hy => by have := h y hy; omega)
  have e1 : D - (L - 1) = (D - L) + 1 := by omega
  rw [e1] at hq ⊢
  obtain ⟨P, hP⟩ : ∃ P, 2 ^ (D - L) = P := ⟨_, rfl⟩
  have e2 : (2 : Nat) ^ D = 2 ^ (D - L + 1) * 2 ^ (L - 1) := by rw [← Nat.pow_add]; congr 1; omega
  rw [Nat.pow_succ] at hq e2 ⊢
  rw [hP] at hq e2 hk ⊢
  rw [hq] at hk ⊢
  rw [e2] at hk ⊢
  obtain ⟨T, hT⟩ : ∃ T, 2 ^ (L - 1) = T := ⟨_, rfl⟩
  rw [hT] at hk ⊢
  have hP0 : 0 < P := by rw [← hP]; exact Nat.two_pow_pos _
  have h1 : P * 2 * q < P * 2 * T := by omega
  have h2 : q < T := Nat.lt_of_mul_lt_mul_left h1
  have h3 : P * 2 * (q + 1) ≤ P * 2 * T := Nat.mul_le_mul_left _ h2
  rw [Nat.mul_succ] at h3
  omega
/-- of any lengths that may be: the two least weights have the two greatest ones, alike -/
theorem two_long (D : Nat) (a b : Nat) (n : Nat) : ∀ (r : List NP) (L : Nat), L ≤ n → L ≤ D → (∀ y ∈ r, 1 ≤ y.2 ∧ y.2 ≤ D) → 1 ≤ L → (∃ lb, (b, lb) ∈ r) → (∀ y ∈ r, b ≤ y.1) → a ≤ b → (∀ y ∈ r, y.2 ≤ L) → krP D ((a, L) :: r) ≤ 2 ^ D →
    ∃ (M : Nat) (q : List NP), 1 ≤ M ∧ M ≤ D ∧ (∀ y ∈ q, 1 ≤ y.2 ∧ y.2 ≤ D) ∧ ((b :: q.map (·.1)).Perm (r.map (·.1))) ∧ krP D ((a, M) :: (b, M) :: q) ≤ 2 ^ D ∧ coP ((a, M) :: (b, M) :: q) ≤ coP ((a, L) :: r) := by
  induction n with
  | zero => intro r L h1 _ _ h2; omega
  | succ n ih =>
    intro r L hn hLD hr hL1 hb hmin hab hle hk
    obtain ⟨M, q, h1, h2, h3, h4, h5⟩ := take_long (D := D) hb hmin
    have hP := h5 (fun z => 1 ≤ z ∧ z ≤ D) (fun y hy => hr y hy)
    have hPL := h5 (fun z => z ≤ L) (fun y hy => hle y hy)
    have hk2 : krP D ((a, L) :: (b, M) :: q) ≤ 2 ^ D := by rw [krP_cons, h2, ← krP_cons D (a, L)]; exact hk
    have hc2 : coP ((a, L) :: (b, M) :: q) ≤ coP ((a, L) :: r) := by rw [coP_cons, coP_cons (a, L)]; omega
    by_cases hLM : M = L
    · subst hLM
      exact ⟨M, q, hL1, hLD, hP.2, h1, hk2, hc2⟩
    · have hML : M < L := by have := hPL.1; omega
      have hs := shorten hL1 hLD a ((b, M) :: q) (fun y hy => by
        rcases List.mem_cons.1 hy with rfl | hy
        · exact hML
        · have := h4 y hy; omega) hk2
      have hmem : ∀ y ∈ (b, M) :: q, b ≤ y.1 := fun y hy => by
        have : y.1 ∈ r.map (·.1) := h1.mem_iff.1 (List.mem_map.2 ⟨y, hy, rfl⟩)
        obtain ⟨z, hz, e⟩ := List.mem_map.1 this
        rw [← e]; exact hmin z hz
      obtain ⟨M2, q2, g1, g2, g3, g4, g5, g6⟩ := ih ((b, M) :: q) (L - 1) (by omega) (by omega) (fun y hy => by
        rcases List.mem_cons.1 hy with rfl | hy
        · exact hP.1
        · exact hP.2 y hy) (by have := hP.1.1; omega) ⟨M, by simp⟩ hmem hab (fun y hy => by
        rcases List.mem_cons.1 hy with rfl | hy
        · simp only; omega
        · have := h4 y hy; omega) hs
      refine ⟨M2, q2, g1, g2, g3, g4.trans h1, g5, Nat.le_trans g6 (Nat.le_trans ?_ hc2)⟩
      rw [coP_cons, coP_cons (a, L)]
      simp only
      have : a * (L - 1) ≤ a * L := Nat.mul_le_mul_left _ (by omega)
      omega
/-- no lengths that may be cost less than what is joined -/
theorem newF_least (D n : Nat) : ∀ (s : List NP) (m : Nat), RowP s m → s.length ≤ n → ∀ (l : List NP), (l.map (·.1)).Perm (s.map (·.1)) → (2 ≤ s.length → ∀ y ∈ l, 1 ≤ y.2) → (∀ y ∈ l, y.2 ≤ D) → krP D l ≤ 2 ^ D → ((newF n s m).map (·.1)).sum ≤ coP l := by
  induction n with
  | zero => intro s m _ _ l _ _ _ _; simp [newF]
  | succ n ih =>
    intro s m h h1 l hp hl1 hlD hk
    match s, h, h1, hp, hl1 with
    | [], _, _, _, _ => simp [newF]
    | [z], _, _, _, _ => simp [newF]
    | a :: b :: r, h, h1, hp, hl1 =>
      have hl1 := hl1 (by simp)
      have hlen : (insP (a.1 + b.1, m) r).length = r.length + 1 := length_insP _ _
      have hab : a.1 ≤ b.1 := by
        have := (List.pairwise_cons.1 h.sort).1 b (by simp)
        rw [ltP_iff] at this; omega
      have hbr : ∀ x ∈ r, b.1 ≤ x.1 := fun x hx => (h.least hx).1
      have ham : a.1 ∈ l.map (·.1) := hp.mem_iff.2 (by simp)
      obtain ⟨ya, hya, hya2⟩ := List.mem_map.1 ham
      have hmin : ∀ y ∈ l, a.1 ≤ y.1 := fun y hy => by
        have : y.1 ∈ (a :: b :: r).map (·.1) := hp.mem_iff.1 (List.mem_map.2 ⟨y, hy, rfl⟩)
        obtain ⟨z, hz, e⟩ := List.mem_map.1 this
        rw [← e]
        rcases List.mem_cons.1 hz with rfl | hz
        · exact Nat.le_refl _
        · rcases List.mem_cons.1 hz with rfl | hz
          · exact hab
          · have := hbr z hz; omega
      obtain ⟨L, q, k1, k2, k3, k4, k5⟩ := take_long (D := D) ⟨ya.2, by rw [← hya2]; exact hya⟩ hmin
      have hP := k5 (fun z => 1 ≤ z ∧ z ≤ D) (fun y hy => ⟨hl1 y hy, hlD y hy⟩)
      have hq : (q.map (·.1)).Perm ((b :: r).map (·.1)) := by
        have h3 := k1.trans hp
        rw [List.map_cons, List.map_cons] at h3
        exact h3.cons_inv
      have hbq : b.1 ∈ q.map (·.1) := hq.mem_iff.2 (by simp)
      obtain ⟨yb, hyb, hyb2⟩ := List.mem_map.1 hbq
      obtain ⟨M, q2, g1, g2, g3, g4, g5, g6⟩ := two_long D a.1 b.1 L q L (Nat.le_refl _) hP.1.2 hP.2 hP.1.1 ⟨yb.2, by rw [← hyb2]; exact hyb⟩ (fun y hy => by
        have : y.1 ∈ (b :: r).map (·.1) := hq.mem_iff.1 (List.mem_map.2 ⟨y, hy, rfl⟩)
        obtain ⟨z, hz, e⟩ := List.mem_map.1 this
        rw [← e]
        rcases List.mem_cons.1 hz with rfl | hz
        · exact Nat.le_refl _
        · exact hbr z hz) hab k4 (by rw [k2]; exact hk)
      have hq2 : (q2.map (·.1)).Perm (r.map (·.1)) := by
        have h3 := g4.trans hq
        rw [List.map_cons] at h3
        exact h3.cons_inv
      have hIH := ih _ _ h.step (by rw [hlen]; simp at h1; omega) ((a.1 + b.1, M - 1) :: q2) (by
        refine List.Perm.trans ?_ ((insP_perm _ _).map (fun x : NP => x.1)).symm
        exact hq2.cons _) (fun h2 y hy => by
        rcases List.mem_cons.1 hy with rfl | hy
        · simp only
          rcases Nat.lt_or_ge 1 M with h | h
          · omega
          · exfalso
            obtain rfl : M = 1 := by omega
            rw [hlen] at h2
            have hq0 : 0 < q2.length := by
              have := hq2.length_eq
              rw [List.length_map, List.length_map] at this
              omega
            obtain ⟨y0, q3, rfl⟩ : ∃ y0 q3, q2 = y0 :: q3 := by
              cases q2 with
              | nil => simp at hq0
              | cons y0 q3 => exact ⟨y0, q3, rfl⟩
            rw [krP_cons, krP_cons, krP_cons] at g5
            simp only at g5
            have h5 : 0 < 2 ^ (D - y0.2) := Nat.two_pow_pos _
            have h6 : (2 : Nat) ^ D = 2 ^ (D - 1) * 2 := by rw [← Nat.pow_succ]; congr 1; omega
            omega
        · exact (g3 y hy).1) (fun y hy => by
        rcases List.mem_cons.1 hy with rfl | hy
        · simp only; omega
        · exact (g3 y hy).2) (by
        rw [krP_cons, krP_cons] at g5
        rw [krP_cons]
        simp only at g5 ⊢
        rw [show D - (M - 1) = (D - M) + 1 by omega, Nat.pow_succ]
        omega)
      rw [newF, List.map_cons, List.sum_cons]
      rw [coP_cons, coP_cons] at g6
      rw [coP_cons] at hIH
      simp only at g6 hIH ⊢
      have e : (a.1 + b.1) * (M - 1) + (a.1 + b.1) = a.1 * M + b.1 * M := by
        rw [← Nat.add_mul]
        obtain ⟨d, rfl⟩ : ∃ d, M = d + 1 := ⟨M - 1, by omega⟩
        rw [Nat.add_sub_cancel, Nat.mul_succ]
      omega
end Go.Proofs.Ytodniacnjdnffaa
