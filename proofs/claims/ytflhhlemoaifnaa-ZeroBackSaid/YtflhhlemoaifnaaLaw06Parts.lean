/- ZeroParts: the walk. -/
import Derived.Test.YtflhhlemoaifnaaAwake06
import Derived.Test.YtflhhlemoaifnaaKit2
namespace Go.Proofs.Ytflhhlemoaifnaa
open Go.RowKit
set_option linter.unusedVariables false

theorem aw_ints2 (W : World) (va vb : Value) (xs ys : List Int) (h : xs = ys) (ha : IsInts W W.heap.size va xs) (hb : IsInts W W.heap.size vb ys) (hl : xs.length ≤ 281474976710656) : Calls Try.prog 10 #[va, vb] W fun e w' => e = .returned (.bool true) ∧ Below W.heap.size W w' := by
  subst h
  exact aw_ints W va vb xs ha hb hl
theorem enc_ok (W : World) (v : Value) (xs X : List Int) (hX : enc xs = X) (hx : ∀ x ∈ xs, 0 ≤ x ∧ x ≤ 1099511627776) (hlen : xs.length ≤ 1099511627776) (hv : IsInts W W.heap.size v xs) :
    Calls Try.prog 14 #[v] W fun e w' => ∃ q c, e = .returned (.tuple #[.slice q X.length c, .int .i64 0]) ∧ IsInts w' w'.heap.size (.slice q X.length c) X ∧ Below W.heap.size W w' := by
  subst hX
  have h1 : negF xs = false := by
    unfold negF
    rw [List.any_eq_false]
    intro x hxm
    have := hx x hxm
    simp; omega
  have h2 : bigF xs = false := by
    unfold bigF
    rw [List.any_eq_false]
    intro x hxm
    have := hx x hxm
    simp; omega
  refine (encode_any W v xs hv hlen).mono ?_
  rintro e w' ⟨u, rfl, ho, hB⟩
  have e1 : encE xs = 0 := by rw [encE, h1, h2]; rfl
  have e2 : encV xs = enc xs := by rw [encV, h1, h2]; rfl
  rw [e2] at ho
  rw [e1]
  obtain ⟨q, c, rfl⟩ := ho.shape
  exact ⟨q, c, rfl, ho.is, hB⟩

set_option maxRecDepth 100000 in
set_option maxHeartbeats 1600000 in
theorem zparts_walk (w : World) (v1 v2 : Value) (one two : List Int) (hr1 : IsInts w w.heap.size v1 one) (hb1 : I64s one) (hr2 : IsInts w w.heap.size v2 two) (hb2 : I64s two) :
    Calls Try.prog 6 #[v1, v2] w fun e w' => e = .returned (.bool true) ∧ Below w.heap.size w w' := by
  have HR1 := Lib.hid hr1
  have HR2 := Lib.hid hr2
  obtain ⟨A1, ca1, rfl, hc1, hc2⟩ := hr1.shape
  obtain ⟨A2, ca2, rfl, hc3, hc4⟩ := hr2.shape
  have hfa := fewF_len one 100 4
  have hfb := fewF_len two 100 4
  have hma := fewF_mem (raw := one) (most := 100) (below := 4) (by omega)
  have hmb := fewF_mem (raw := two) (most := 100) (below := 4) (by omega)
  have CF1 : Hid (∀ W, IsInts W W.heap.size (.slice A1 one.length ca1) one → Calls Try.prog 13 #[.slice A1 one.length ca1, .int .i64 100, .int .i64 4] W fun e w' => ∃ u, e = .returned u ∧ OwnInts w' W.heap.size u (fewF one 100 4) ∧ Below W.heap.size W w') := fun W hv =>
    few06_any W _ one 100 4 hv hb1 (by omega) (by omega) (by omega)
  have CF2 : Hid (∀ W, IsInts W W.heap.size (.slice A2 two.length ca2) two → Calls Try.prog 13 #[.slice A2 two.length ca2, .int .i64 100, .int .i64 4] W fun e w' => ∃ q c, e = .returned (.slice q (fewF two 100 4).length c) ∧ IsInts w' w'.heap.size (.slice q (fewF two 100 4).length c) (fewF two 100 4) ∧ Below W.heap.size W w') := fun W hv => by
    refine (few06_any W _ two 100 4 hv hb2 (by omega) (by omega) (by omega)).mono ?_
    rintro e w' ⟨u, rfl, ho, hB⟩
    obtain ⟨q, c, rfl⟩ := ho.shape
    exact ⟨q, c, rfl, ho.is, hB⟩
  generalize fewF one 100 4 = a at *
  generalize fewF two 100 4 = b at *
  have hsplit := enc_append a b 7 (by omega)
  have hA : ∀ x ∈ a ++ [7], 0 ≤ x ∧ x ≤ 1099511627776 := fun x hx => by
    rcases List.mem_append.1 hx with h | h
    · have := hma x h; omega
    · simp at h; omega
  have hBm : ∀ x ∈ b, 0 ≤ x ∧ x ≤ 1099511627776 := fun x hx => by have := hmb x hx; omega
  have hAB : ∀ x ∈ (a ++ [7]) ++ b, 0 ≤ x ∧ x ≤ 1099511627776 := fun x hx => by
    rcases List.mem_append.1 hx with h | h
    · exact hA x h
    · exact hBm x h
  have hlA : (a ++ [7]).length = a.length + 1 := by simp
  have e1 := enc_len (a ++ [7])
  have e2 := enc_len b
  obtain ⟨aa, haa⟩ : ∃ x, a ++ [7] = x := ⟨_, rfl⟩
  rw [haa] at hsplit hA hAB hlA e1
  have Haa := Lib.hid haa
  obtain ⟨X, hX⟩ : ∃ x, enc aa = x := ⟨_, rfl⟩
  obtain ⟨Y, hY⟩ : ∃ x, enc b = x := ⟨_, rfl⟩
  rw [hX, hY] at hsplit
  rw [hX] at e1
  rw [hY] at e2
  have C1 : Hid (∀ (v : Value) W, IsInts W W.heap.size v aa → Calls Try.prog 14 #[v] W fun e w' => ∃ q c, e = .returned (.tuple #[.slice q X.length c, .int .i64 0]) ∧ IsInts w' w'.heap.size (.slice q X.length c) X ∧ Below W.heap.size W w') := fun v W hv => enc_ok W v aa X hX hA (by omega) hv
  have C2 : Hid (∀ (v : Value) W, IsInts W W.heap.size v b → Calls Try.prog 14 #[v] W fun e w' => ∃ q c, e = .returned (.tuple #[.slice q Y.length c, .int .i64 0]) ∧ IsInts w' w'.heap.size (.slice q Y.length c) Y ∧ Below W.heap.size W w') := fun v W hv => enc_ok W v b Y hY hBm (by omega) hv
  obtain ⟨Z, hZ⟩ : ∃ z, X ++ Y = z := ⟨_, rfl⟩
  rw [hZ] at hsplit
  have HZ := Lib.hid hZ
  have C3 : Hid (∀ (v : Value) W, IsInts W W.heap.size v (aa ++ b) → Calls Try.prog 14 #[v] W fun e w' => ∃ q c, e = .returned (.tuple #[.slice q Z.length c, .int .i64 0]) ∧ IsInts w' w'.heap.size (.slice q Z.length c) Z ∧ Below W.heap.size W w') := fun v W hv => enc_ok W v (aa ++ b) Z hsplit hAB (by simp; omega) hv
  clear hZ
  have le1 : X.length ≤ aa.length := e1
  have le2 : Y.length ≤ b.length := e2
  clear hma hmb hsplit hA hAB hBm haa hX hY hr1 hr2 hb1 hb2 e1 e2
  have hal : a.length + 1 = aa.length := hlA.symm
  have hal2 : aa.length ≤ 101 := by omega
  have Hal := Lib.hid hal
  clear hal hlA
  go_enter Try.func6, Try.ntmps6
  have L0 := Lib.hid (Live.nil w)
  go_wp2_with fail
  refine (awake06_any _).mono ?_
  rintro e w1 ⟨rfl, hB⟩
  have L1 := Lib.hid (L0.out.step hB)
  clear L0 hB 
  go_wp2_with fail
  refine (CF1.out _ (L1.out.old HR1.out)).mono ?_
  rintro e wf ⟨vf, rfl, hown0, hB0⟩
  have Hown0 := Lib.hid hown0
  have hz0 := hB0.size
  clear hown0
  go_wp2_with
    (at_builtin
     refine wpList_append_ints rfl _ _ rfl w1.heap.size _ a rfl (Hown0.out.alloc _) (wf.heap.size + 1) _ [7] rfl (IsInts.new wf [7] _ _ _ rfl rfl rfl (by simp [maxLen])) (by simp; omega) (by simp; omega) ?_
     intro q c w2 hown hg hat
     have hB : Below w1.heap.size w1 w2 := (hB0.alloc hz0 _).grown hg (by simp; omega) (fun k hk => own_ge Hown0.out hk)
     rw [Haa.out] at hown
     have hv := hown.is
     have e7 : a.length + ([7] : List Int).length = aa.length := Hal.out
     rw [e7] at hv ⊢
     have L2 := Lib.hid ((L1.out.step hB).add hv)
     clear hown hg hat hB hv Hown0 hB0 hz0 L1 e7)
  go_wp2_with fail
  refine (CF2.out _ (L2.out.old HR2.out)).mono ?_
  rintro e w3 ⟨q3, c3, rfl, hv, hB⟩
  have L3 := Lib.hid ((L2.out.step hB).add hv)
  clear L2 hB hv 
  go_wp2_with fail
  refine (C1.out _ _ (L3.out.get 1 rfl)).mono ?_
  rintro e w4 ⟨q4, c4, rfl, hv, hB⟩
  have L4 := Lib.hid ((L3.out.step hB).add hv)
  clear L3 hB hv 
  go_wp2_with fail
  refine (C2.out _ _ (L4.out.get 1 rfl)).mono ?_
  rintro e w5 ⟨q5, c5, rfl, hv, hB⟩
  have L5 := Lib.hid ((L4.out.step hB).add hv)
  clear L4 hB hv 
  go_wp2_with
    (first
     | (at_builtin
        refine wpList_append_ints rfl _ _ rfl w5.heap.size (.slice none 0 0) [] rfl (OwnInts.nil _ _) _ _ (aa) rfl (L5.out.get 3 rfl) (by first | omega | (simp <;> omega)) (Nat.le_refl _) ?_
        intro qa5 ca5 wa5 hown1 hg1 hat1
        have hB1 : Below w5.heap.size w5 wa5 := (Below.refl _ _).grown hg1 (Nat.le_refl _) (fun k hk => by simp [Value.ownBlock] at hk)
        simp only [List.length_nil, Nat.zero_add, List.nil_append] at hown1
        have Hown1 := Lib.hid hown1
        clear hg1 hat1 hown1)
     | (at_builtin
        refine wpList_append_ints rfl _ _ rfl w5.heap.size _ (aa) rfl Hown1.out _ _ (b) rfl ((L5.out.step hB1).get 2 rfl) (by first | omega | (simp <;> omega)) hB1.size ?_
        intro qb5 cb5 w6 hown2 hg2 hat2
        have hB2 : Below w5.heap.size w5 w6 := hB1.grown hg2 hB1.size (fun k hk => own_ge Hown1.out hk)
        have Hown2 := Lib.hid hown2
        clear hg2 hat2 hown2))
  have hv := Hown2.out.is
  have L6 := Lib.hid ((L5.out.step hB2).add hv)
  clear L5 hB1 Hown1 hB2 Hown2 hv
  refine (C3.out _ _ (L6.out.get 0 rfl)).mono ?_
  rintro e w7 ⟨q7, c7, rfl, hv, hB⟩
  have L7 := Lib.hid ((L6.out.step hB).add hv)
  clear L6 hB hv 
  go_wp2_with
    (first
     | (at_builtin
        refine wpList_append_guarded (by simp [Region.wanted, yielded]) _ _ rfl w7.heap.size (.slice none 0 0) [] rfl (OwnInts.nil _ _) _ _ (X) rfl (L7.out.get 3 rfl) (by first | omega | (simp <;> omega)) (Nat.le_refl _) ?_
        intro qa7 ca7 wa7 hown1 hg1 hat1
        have hB1 : Below w7.heap.size w7 wa7 := (Below.refl _ _).grown hg1 (Nat.le_refl _) (fun k hk => by simp [Value.ownBlock] at hk)
        simp only [List.length_nil, Nat.zero_add, List.nil_append] at hown1
        have Hown1 := Lib.hid hown1
        clear hg1 hat1 hown1)
     | (at_builtin
        refine wpList_append_guarded (by simp [Region.wanted, yielded]) _ _ rfl w7.heap.size _ (X) rfl Hown1.out _ _ (Y) rfl ((L7.out.step hB1).get 2 rfl) (by first | omega | (simp <;> omega)) hB1.size ?_
        intro qb7 cb7 w8 hown2 hg2 hat2
        have hB2 : Below w7.heap.size w7 w8 := hB1.grown hg2 hB1.size (fun k hk => own_ge Hown1.out hk)
        have Hown2 := Lib.hid hown2
        clear hg2 hat2 hown2))
  have hv := Hown2.out.is
  have L8 := Lib.hid ((L7.out.step hB2).add hv)
  clear L7 hB1 Hown1 hB2 Hown2 hv
  refine (aw_ints2 _ _ _ Z (X ++ Y) HZ.out.symm (L8.out.get 1 rfl) (L8.out.get 0 rfl) (by rw [← HZ.out]; simp; omega)).mono ?_
  rintro e w9 ⟨rfl, hB⟩
  have L9 := Lib.hid (L8.out.step hB)
  clear L8 hB 
  go_wp2
  go_ret
  exact ⟨rfl, L9.out.bel⟩
end Go.Proofs.Ytflhhlemoaifnaa
