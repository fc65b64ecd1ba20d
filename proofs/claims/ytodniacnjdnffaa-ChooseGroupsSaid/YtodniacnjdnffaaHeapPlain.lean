/- Heaps of pairs: the plain law. -/
import Derived.Test.YtodniacnjdnffaaKit
namespace Go.Proofs.Ytodniacnjdnffaa
open Go.RowKit
set_option linter.unusedVariables false

abbrev NP := Nat × Nat
/-- the order of trees: by weight, then by number -/
def ltP (a b : NP) : Bool := decide (a.1 < b.1) || (decide (a.1 = b.1) && decide (a.2 < b.2))
theorem ltP_iff (a b : NP) : ltP a b = true ↔ a.1 < b.1 ∨ a.1 = b.1 ∧ a.2 < b.2 := by simp [ltP]
theorem ltP_no (a b : NP) : ltP a b = false ↔ ¬ (a.1 < b.1 ∨ a.1 = b.1 ∧ a.2 < b.2) := by rw [← ltP_iff]; simp
theorem ltP_anti {a b : NP} (h : ltP a b = true) : ltP b a = false := by
  rw [ltP_iff] at h; rw [ltP_no]; omega
theorem ltP_trans {a b c : NP} (h : ltP a b = true) (g : ltP b c = true) : ltP a c = true := by
  rw [ltP_iff] at h g ⊢; omega
theorem leP_trans {a b c : NP} (h : ltP b a = false) (g : ltP c b = false) : ltP c a = false := by
  rw [ltP_no] at h g ⊢; omega
theorem leP_lt {a b c : NP} (h : ltP b a = false) (g : ltP b c = true) : ltP c a = false := by
  rw [ltP_no] at h ⊢; rw [ltP_iff] at g; omega
/-- an element -/
def gP (h : List NP) (j : Nat) : NP := h[j]?.getD (0, 0)
theorem gP_set (h : List NP) (i j : Nat) (x : NP) (hi : i < h.length) : gP (h.set i x) j = if i = j then x else gP h j := by
  unfold gP
  rw [List.getElem?_set]
  by_cases e : i = j
  · subst e; simp [hi]
  · simp [e]
def swapP (h : List NP) (i k : Nat) : List NP := (h.set i (gP h k)).set k (gP h i)
theorem length_swapP (h : List NP) (i k : Nat) : (swapP h i k).length = h.length := by simp [swapP]
theorem gP_swap (h : List NP) (i k j : Nat) (hi : i < h.length) (hk : k < h.length) : gP (swapP h i k) j = if k = j then gP h i else if i = j then gP h k else gP h j := by
  unfold swapP
  rw [gP_set _ _ _ _ (by rw [List.length_set]; exact hk), gP_set _ _ _ _ hi]
theorem set_perm (h : List NP) (i : Nat) (x : NP) (hi : i < h.length) : (gP h i :: h.set i x).Perm (x :: h) := by
  induction h generalizing i with
  | nil => simp at hi
  | cons y h ih =>
    cases i with
    | zero => simp [gP]; exact List.Perm.swap _ _ _
    | succ i =>
      have := ih i (by simpa using hi)
      have e : gP (y :: h) (i + 1) = gP h i := by simp [gP]
      rw [e, List.set_cons_succ]
      exact (List.Perm.swap _ _ _).trans ((this.cons y).trans (List.Perm.swap _ _ _))
theorem swapP_perm (h : List NP) (i k : Nat) (hi : i < h.length) (hk : k < h.length) (hik : i ≠ k) : (swapP h i k).Perm h := by
  have h1 := set_perm (h.set i (gP h k)) k (gP h i) (by rw [List.length_set]; exact hk)
  have h2 := set_perm h i (gP h k) hi
  have e : gP (h.set i (gP h k)) k = gP h k := by rw [gP_set _ _ _ _ hi, if_neg hik]
  rw [e] at h1
  exact (h1.trans h2).cons_inv
def HeapP (h : List NP) : Prop := ∀ j, 0 < j → j < h.length → ltP (gP h j) (gP h ((j - 1) / 2)) = false
theorem HeapP.least {h : List NP} (hh : HeapP h) : ∀ j, j < h.length → ltP (gP h j) (gP h 0) = false := by
  intro j
  induction j using Nat.strongRecOn with
  | ind j ih =>
    intro hj
    rcases Nat.eq_zero_or_pos j with rfl | h0
    · rw [ltP_no]; omega
    · exact leP_trans (ih ((j - 1) / 2) (by omega) (by omega)) (hh j h0 hj)
/-- on its way up -/
structure UpP (h : List NP) (i : Nat) : Prop where
  lt : i < h.length
  a : ∀ j, 0 < j → j < h.length → j ≠ i → ltP (gP h j) (gP h ((j - 1) / 2)) = false
  b : ∀ j, 0 < j → j < h.length → (j - 1) / 2 = i → 0 < i → ltP (gP h j) (gP h ((i - 1) / 2)) = false
theorem UpP.start {h : List NP} (hh : HeapP h) (x : NP) : UpP (h ++ [x]) h.length := by
  have hg : ∀ j, j < h.length → gP (h ++ [x]) j = gP h j := fun j hj => by unfold gP; rw [List.getElem?_append_left hj]
  refine ⟨by simp, fun j h0 hj hne => ?_, fun j h0 hj hp _ => ?_⟩
  · simp at hj
    rw [hg j (by omega), hg _ (by omega)]
    exact hh j h0 (by omega)
  · simp at hj
    omega
theorem UpP.done {h : List NP} {i : Nat} (hu : UpP h i) (hd : i = 0 ∨ ltP (gP h i) (gP h ((i - 1) / 2)) = false) : HeapP h := by
  intro j h0 hj
  by_cases e : j = i
  · subst e
    rcases hd with hd | hd
    · omega
    · exact hd
  · exact hu.a j h0 hj e
theorem UpP.step {h : List NP} {i : Nat} (hu : UpP h i) (h0 : 0 < i) (hl : ltP (gP h i) (gP h ((i - 1) / 2)) = true) : UpP (swapP h i ((i - 1) / 2)) ((i - 1) / 2) := by
  have hi := hu.lt
  have hk : (i - 1) / 2 < h.length := by omega
  obtain ⟨k, hke⟩ : ∃ k, (i - 1) / 2 = k := ⟨_, rfl⟩
  rw [hke] at hl hk ⊢
  have hki : k < i := by omega
  have hG := fun j => gP_swap h i k j hi hk
  refine ⟨by rw [length_swapP]; exact hk, fun j hj0 hj hne => ?_, fun j hj0 hj hp hk0 => ?_⟩
  · rw [length_swapP] at hj
    rw [hG, hG, if_neg (fun e => hne e.symm)]
    by_cases e1 : i = j
    · subst e1
      rw [if_pos rfl, if_pos hke.symm]
      exact ltP_anti hl
    · rw [if_neg e1]
      by_cases e2 : k = (j - 1) / 2
      · rw [if_pos e2]
        have h1 := hu.a j hj0 hj (fun e => e1 e.symm)
        rw [← e2] at h1
        have := leP_trans (ltP_anti hl) h1
        exact this
      · rw [if_neg e2]
        by_cases e3 : i = (j - 1) / 2
        · rw [if_pos e3]
          have := hu.b j hj0 hj e3.symm h0
          rw [hke] at this
          exact this
        · rw [if_neg e3]
          exact hu.a j hj0 hj (fun e => e1 e.symm)
  · rw [length_swapP] at hj
    have hp2 : ltP (gP h k) (gP h ((k - 1) / 2)) = false := hu.a k hk0 hk (by omega)
    rw [hG j, hG ((k - 1) / 2), if_neg (show ¬ k = j by omega), if_neg (show ¬ k = (k - 1) / 2 by omega), if_neg (show ¬ i = (k - 1) / 2 by omega)]
    by_cases e1 : i = j
    · subst e1
      rw [if_pos rfl]
      exact hp2
    · rw [if_neg e1]
      have h1 := hu.a j hj0 hj (fun e => e1 e.symm)
      rw [hp] at h1
      exact leP_trans hp2 h1
/-- on its way down -/
structure DownP (h : List NP) (i : Nat) : Prop where
  a : ∀ j, 0 < j → j < h.length → (j - 1) / 2 ≠ i → ltP (gP h j) (gP h ((j - 1) / 2)) = false
  b : ∀ j, 0 < j → j < h.length → (j - 1) / 2 = i → 0 < i → ltP (gP h j) (gP h ((i - 1) / 2)) = false
/-- the last comes first, and the row is one shorter -/
def lastP (h : List NP) : List NP := (h.set 0 (gP h (h.length - 1))).take (h.length - 1)
theorem length_lastP (h : List NP) : (lastP h).length = h.length - 1 := by simp [lastP]
theorem gP_last (h : List NP) (j : Nat) (hj : j < h.length - 1) : gP (lastP h) j = if j = 0 then gP h (h.length - 1) else gP h j := by
  have h1 : gP (lastP h) j = gP (h.set 0 (gP h (h.length - 1))) j := by
    unfold lastP gP
    rw [List.getElem?_take_of_lt hj]
  rw [h1, gP_set _ _ _ _ (by omega)]
  by_cases e : j = 0
  · subst e; simp
  · rw [if_neg (fun h => e h.symm), if_neg e]
theorem DownP.start {h : List NP} (hh : HeapP h) (hn : 0 < h.length) : DownP (lastP h) 0 := by
  refine ⟨fun j h0 hj hp => ?_, fun j h0 hj hp hi => by omega⟩
  rw [length_lastP] at hj
  rw [gP_last h j hj, gP_last h _ (by omega), if_neg (by omega), if_neg hp]
  exact hh j h0 (by omega)
theorem lastP_perm (h : List NP) (hn : 0 < h.length) : (gP h 0 :: lastP h).Perm h := by
  have h1 := set_perm h 0 (gP h (h.length - 1)) hn
  have h2 : h.set 0 (gP h (h.length - 1)) = lastP h ++ [gP (h.set 0 (gP h (h.length - 1))) (h.length - 1)] := by
    obtain ⟨s, hs⟩ : ∃ s, h.set 0 (gP h (h.length - 1)) = s := ⟨_, rfl⟩
    have hsl : s.length = h.length := by rw [← hs, List.length_set]
    unfold lastP
    rw [hs]
    have h3 := List.take_succ_eq_append_getElem (l := s) (i := h.length - 1) (by omega)
    rw [show h.length - 1 + 1 = h.length by omega, List.take_of_length_le (by omega)] at h3
    have h4 : gP s (h.length - 1) = s[h.length - 1]'(by omega) := by unfold gP; rw [List.getElem?_eq_getElem (by omega)]; rfl
    rw [h4]
    exact h3
  rcases Nat.lt_or_ge 1 h.length with h5 | h5
  · have h6 : gP (h.set 0 (gP h (h.length - 1))) (h.length - 1) = gP h (h.length - 1) := by rw [gP_set _ _ _ _ hn, if_neg (by omega)]
    rw [h2, h6] at h1
    have h7 : (gP h (h.length - 1) :: (gP h 0 :: lastP h)).Perm (gP h (h.length - 1) :: h) := by
      refine List.Perm.trans ?_ h1
      refine (List.Perm.swap _ _ _).trans (List.Perm.cons _ ?_)
      exact (List.perm_append_comm (l₁ := [gP h (h.length - 1)]) (l₂ := lastP h)).trans (List.Perm.refl _)
    exact h7.cons_inv
  · obtain ⟨x, rfl⟩ : ∃ x, h = [x] := by
      cases h with
      | nil => simp at hn
      | cons x h =>
        cases h with
        | nil => exact ⟨x, rfl⟩
        | cons y h => simp at h5
    simp [lastP, gP]
theorem DownP.done {h : List NP} {i : Nat} (hd : DownP h i) (hc : ∀ j, 0 < j → j < h.length → (j - 1) / 2 = i → ltP (gP h j) (gP h i) = false) : HeapP h := by
  intro j h0 hj
  by_cases e : (j - 1) / 2 = i
  · rw [e]; exact hc j h0 hj e
  · exact hd.a j h0 hj e
theorem DownP.step {h : List NP} {i f : Nat} (hd : DownP h i) (hf0 : 0 < f) (hf : f < h.length) (hfi : (f - 1) / 2 = i) (hl : ltP (gP h f) (gP h i) = true)
    (hm : ∀ j, 0 < j → j < h.length → (j - 1) / 2 = i → ltP (gP h j) (gP h f) = false) : DownP (swapP h i f) f := by
  have hi : i < h.length := by omega
  have hif : i < f := by omega
  have hG := fun j => gP_swap h i f j hi hf
  refine ⟨fun j h0 hj hp => ?_, fun j h0 hj hp hk0 => ?_⟩
  · rw [length_swapP] at hj
    rw [hG j, hG ((j - 1) / 2), if_neg (show ¬ f = (j - 1) / 2 from fun e => hp e.symm)]
    by_cases e1 : f = j
    · subst e1
      rw [if_pos rfl, if_pos hfi.symm]
      exact ltP_anti hl
    · rw [if_neg e1]
      by_cases e2 : i = (j - 1) / 2
      · rw [if_pos e2, if_neg (by omega)]
        exact hm j h0 hj e2.symm
      · rw [if_neg e2]
        by_cases e3 : i = j
        · subst e3
          rw [if_pos rfl]
          exact hd.b f hf0 hf hfi h0
        · rw [if_neg e3]
          exact hd.a j h0 hj (fun e => e2 e.symm)
  · rw [length_swapP] at hj
    rw [hG j, hG ((f - 1) / 2), if_neg (show ¬ f = j by omega), if_neg (show ¬ i = j by omega), if_neg (show ¬ f = (f - 1) / 2 by omega), if_pos hfi.symm]
    have := hd.a j h0 hj (by omega)
    rw [hp] at this
    exact this
end Go.Proofs.Ytodniacnjdnffaa
