/- How deep each weight is, by the tree that has each one: the plain law of the program's two rows. -/
import Derived.Test.YtodniacnjdnffaaHuff2
namespace Go.Proofs.Ytodniacnjdnffaa
open Go.RowKit
set_option linter.unusedVariables false

structure UpI (N : Nat) (D : Nat → Nat) (U : List Nat) (f : Nat) (s : List NP) (n : Nat) : Prop where
  row : RowP s n
  len : s.length + n = 2 * N
  fuel : s.length ≤ f
  ul : U.length = 2 * N - 1
  old : ∀ x, x < n → (∀ y ∈ s, y.2 ≠ x) → ∃ p, U[x]? = some p ∧ x < p ∧ p < n ∧ D x = D p + 1
  now : ∀ x, (n ≤ x ∨ ∃ y ∈ s, y.2 = x) → D x = depF f s n x
  last : N < n → ∃ y ∈ s, y.2 + 1 = n
theorem UpI.start {ws : List Nat} (hw : ∀ x ∈ ws, 1 ≤ x) (U : List Nat) (hU : U.length = 2 * ws.length - 1) : UpI ws.length (dpF ws) U ws.length (sortP (leaves ws)) ws.length := by
  have hl : (sortP (leaves ws)).length = ws.length := by rw [length_sortP, length_leaves]
  refine ⟨leaves_row hw, by omega, by omega, hU, fun x hx hno => ?_, fun x _ => rfl, fun h => by omega⟩
  exfalso
  exact hno (ws[x], x) (leaf_in (List.getElem?_eq_getElem hx)) rfl
theorem UpI.step {N : Nat} {D : Nat → Nat} {U : List Nat} {f : Nat} {a b : NP} {r : List NP} {n : Nat} (h : UpI N D U (f + 1) (a :: b :: r) n) :
    UpI N D ((U.set a.2 n).set b.2 n) f (insP (a.1 + b.1, n) r) (n + 1) ∧ a.2 < U.length ∧ b.2 < U.length ∧ a.2 ≠ b.2 := by
  obtain ⟨hr, hlen, hf, hul, hold, hnow, -⟩ := h
  have ham := hr.lt a (by simp)
  have hbm := hr.lt b (by simp)
  simp only [List.length_cons] at hlen hf
  have hab : b.2 ≠ a.2 := (NumsP.cons.1 hr.nums).1 b (by simp)
  have hl : (insP (a.1 + b.1, n) r).length = r.length + 1 := length_insP _ _
  have hDn : D n = depF f (insP (a.1 + b.1, n) r) (n + 1) n := by
    rw [hnow n (.inl (Nat.le_refl _)), depF, if_neg (by omega)]
  have hau : a.2 < U.length := by omega
  have hbu : b.2 < U.length := by omega
  refine ⟨⟨hr.step, by omega, by omega, by simp [hul], fun x hx hno => ?_, fun x hx => ?_, fun _ => ⟨_, insP_mem.2 (.inl rfl), rfl⟩⟩, hau, hbu, fun e => hab e.symm⟩
  · have hxn : x ≠ n := fun e => hno _ (insP_mem.2 (.inl rfl)) e.symm
    rw [List.getElem?_set, List.getElem?_set]
    by_cases h1 : b.2 = x
    · subst h1
      refine ⟨n, by simp [hbu], by omega, by omega, ?_⟩
      rw [hnow b.2 (.inr ⟨b, by simp, rfl⟩), depF, if_pos (.inr rfl), hDn]
    · by_cases h2 : a.2 = x
      · subst h2
        refine ⟨n, by simp [h1, hau], by omega, by omega, ?_⟩
        rw [hnow a.2 (.inr ⟨a, by simp, rfl⟩), depF, if_pos (.inl rfl), hDn]
      · obtain ⟨p, h3, h4, h5, h6⟩ := hold x (by omega) (fun y hy => by
          rcases List.mem_cons.1 hy with rfl | hy
          · exact h2
          · rcases List.mem_cons.1 hy with rfl | hy
            · exact h1
            · exact hno y (insP_mem.2 (.inr hy)))
        exact ⟨p, by simp [h1, h2, h3], h4, by omega, h6⟩
  · have hxa : x ≠ a.2 ∧ x ≠ b.2 := by
      rcases hx with hx | ⟨y, hy, rfl⟩
      · omega
      · rcases insP_mem.1 hy with rfl | hy
        · simp only; omega
        · exact ⟨(NumsP.cons.1 hr.nums).1 y (by simp [hy]), (NumsP.cons.1 (NumsP.cons.1 hr.nums).2).1 y hy⟩
    have h1 : D x = depF (f + 1) (a :: b :: r) n x := hnow x (by
      rcases hx with hx | ⟨y, hy, rfl⟩
      · exact .inl (by omega)
      · rcases insP_mem.1 hy with rfl | hy
        · exact .inl (Nat.le_refl _)
        · exact .inr ⟨y, by simp [hy], rfl⟩)
    rw [h1, depF, if_neg (by simp [hxa])]
theorem UpI.done {N : Nat} {D : Nat → Nat} {U : List Nat} {f : Nat} {s : List NP} {n : Nat} (h : UpI N D U f s n) (hn : n = 2 * N - 1) (hN : 2 ≤ N) :
    D (2 * N - 2) = 0 ∧ ∀ x, x < 2 * N - 2 → ∃ p, U[x]? = some p ∧ x < p ∧ p ≤ 2 * N - 2 ∧ D x = D p + 1 := by
  obtain ⟨hr, hlen, hf, hul, hold, hnow, hlast⟩ := h
  obtain ⟨z, rfl⟩ : ∃ z, s = [z] := by
    match s, hlen with
    | [], hlen => simp at hlen; omega
    | [z], _ => exact ⟨z, rfl⟩
    | a :: b :: r, hlen => simp at hlen; omega
  obtain ⟨y, hy, hy2⟩ := hlast (by omega)
  clear hlast
  obtain rfl : y = z := by simpa using hy
  have hy3 : y.2 = 2 * N - 2 := by omega
  refine ⟨?_, fun x hx => ?_⟩
  · rw [← hy3, hnow y.2 (.inr ⟨y, by simp, rfl⟩)]
    cases f with
    | zero => rfl
    | succ f => rfl
  · obtain ⟨p, h1, h2, h3, h4⟩ := hold x (by omega) (fun z hz => by
      obtain rfl : z = y := by simpa using hz
      omega)
    exact ⟨p, h1, h2, by omega, h4⟩
/-- what is joined has as much weight together as there was -/
theorem sum_insP (x : NP) (l : List NP) : ((insP x l).map (·.1)).sum = x.1 + (l.map (·.1)).sum := by
  rw [sum_perm (fun y : NP => y.1) (insP_perm x l), List.map_cons, List.sum_cons]
theorem mem_le_sum {x : NP} {l : List NP} (h : x ∈ l) : x.1 ≤ (l.map (·.1)).sum := by
  induction l with
  | nil => simp at h
  | cons y l ih =>
    rw [List.map_cons, List.sum_cons]
    rcases List.mem_cons.1 h with rfl | h
    · omega
    · have := ih h; omega
theorem leaves_take (ws : List Nat) (k x : Nat) (h : ws[k]? = some x) : (leaves ws).take (k + 1) = (leaves ws).take k ++ [(x, k)] := by
  rw [List.take_add_one]
  congr 1
  unfold leaves
  rw [List.getElem?_zipIdx, h]
  simp
theorem leaves_sum (ws : List Nat) : ((leaves ws).map (·.1)).sum = ws.sum := by
  unfold leaves
  rw [show (fun x : NP => x.1) = Prod.fst from rfl, List.zipIdx_map_fst]
end Go.Proofs.Ytodniacnjdnffaa
