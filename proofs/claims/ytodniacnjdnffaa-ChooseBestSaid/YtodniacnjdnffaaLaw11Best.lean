/- ChooseBest: the walk. -/
import Derived.Test.YtodniacnjdnffaaBestP
import Derived.Test.YtodniacnjdnffaaAwake11
import Derived.Test.YtodniacnjdnffaaTables
import Derived.Test.YtodniacnjdnffaaSymsK
import Derived.Test.YtodniacnjdnffaaLensK
namespace Go.Proofs.Ytodniacnjdnffaa
open Go.RowKit
set_option linter.unusedVariables false

set_option maxRecDepth 100000 in
set_option maxHeartbeats 6400000 in
theorem cbest_walk (w : World) (v v2 : Value) (raw lens : List Int) (many : Int) (hi : IsInts w w.heap.size v raw) (hr : I64s raw) (hmany : -9223372036854775808 ≤ many) (hmany' : many ≤ 9223372036854775807) (hi2 : IsInts w w.heap.size v2 lens) (hr2 : I64s lens) :
    Calls Try.prog 5 #[v, .int .i64 many, v2] w fun e w' => e = .returned (.bool true) ∧ Below w.heap.size w w' := by
  have hpm := pickF_lt many 19 (by omega)
  obtain ⟨a, ha⟩ : ∃ k : Nat, pickF many 19 = (k : Int) := ⟨(pickF many 19).toNat, by omega⟩
  have HA := Lib.hid ha
  obtain ⟨n, hn⟩ : ∃ n, n = 2 + a := ⟨_, rfl⟩
  have hna : (2 : Int) + (a : Int) = (n : Int) := by omega
  have hn2 : 2 ≤ n := by omega
  have hn20 : n ≤ 20 := by omega
  have HI := Lib.hid hi
  have HI2 := Lib.hid hi2
  have HR2 := Lib.hid hr2
  have CS : Hid (∀ W u, IsInts W W.heap.size u raw → Calls Try.prog 9 #[u, .int .i64 (n : Nat), .int .i64 80] W fun e w' => ∃ q c, e = .returned (.slice q (symsF raw n 80).length c) ∧ IsInts w' w'.heap.size (.slice q (symsF raw n 80).length c) (ints (symsF raw n 80)) ∧ Below W.heap.size W w') := fun W u h => syms_is W u raw n 80 h hr (by omega) (by omega) (by omega)
  have hml := symsF_len raw n 80
  have hms := symsF_lt raw n 80 (by omega)
  generalize symsF raw n 80 = m at *
  obtain ⟨M, hM⟩ : ∃ M, m.length = M := ⟨_, rfl⟩
  rw [hM] at CS hml
  have HM := Lib.hid hM
  have HMS := Lib.hid hms
  obtain ⟨cz, hcz, hmk⟩ := run_make_ints n (by omega)
  have HCZ := Lib.hid hcz
  clear hi hr hi2 hr2 ha hn hpm hM hms hcz
  go_enter Try.func5, Try.ntmps5
  have E0 := Lib.hid (Env.nil w)
  go_wp2_with fail
  refine (awake11_any _).mono ?_
  rintro e w1 ⟨rfl, hB⟩
  have E1 := Lib.hid (E0.out.step hB)
  clear E0 hB  
  go_wp2_with fail
  refine (pick11_any many 19 _ hmany hmany' (by omega) (by omega)).mono ?_
  rintro e w_ ⟨rfl, rfl⟩
  rw [HA.out]
  go_wp2_with fail
  refine (CS.out _ _ (E1.out.old HI.out)).mono ?_
  rintro e w2 ⟨q2, c2, rfl, hv, hB⟩
  have E2 := Lib.hid ((E1.out.step hB).add hv)
  clear E1 hB hv CS HI
  by_cases hM0 : M = 0
  · have hm0 : m = [] := List.eq_nil_of_length_eq_zero (HM.out.trans hM0)
    subst hM0 hm0
    go_wp2_with fail
    refine (tables_nil _ _ n (E2.out.get 0 rfl) hn2 (by omega)).mono ?_
    rintro e w3 ⟨rfl, hB⟩
    have E9 := Lib.hid (E2.out.step hB)
    clear E2 hB
    go_wp2_with fail
    go_ret
    exact ⟨rfl, E9.out.bel⟩
  have hMi : ((M : Int) == 0) = false := by rw [beq_eq_false_iff_ne]; omega
  have hM1 : 0 < M := by omega
  clear hM0
  obtain ⟨G, hG⟩ : ∃ G, cntG M = G := ⟨_, rfl⟩
  have hG9 : G ≤ 8 := by rw [← hG]; unfold cntG; omega
  have hk0 := (tab_ok m n 0 (by rw [HM.out]; omega) hn2 (by omega)).1
  have hk1 := (tab_ok m n 1 (by rw [HM.out]; omega) hn2 (by omega)).1
  have HTA : Hid ((tabF m n 0).length = n) := (tab_ok m n 0 (by rw [HM.out]; omega) hn2 (by omega)).2
  have HTB : Hid ((tabF m n 1).length = n) := (tab_ok m n 1 (by rw [HM.out]; omega) hn2 (by omega)).2
  have CT : Hid (∀ W u, IsInts W W.heap.size u (ints m) → Calls Try.prog 10 #[u, .int .i64 (n : Nat)] W fun e w' => ∃ (va vb : Value) (q : Option Addr) (c : Nat) (q2 : Option Addr) (c2 : Nat), e = .returned (.tuple #[.slice q 2 c, .slice q2 G c2, .int .i64 0]) ∧ IsSl w' w'.heap.size (.slice q 2 c) [(va, ints (tabF m n 0)), (vb, ints (tabF m n 1))] ∧ IsInts w' w'.heap.size (.slice q2 G c2) (ints (chosenF m n)) ∧ Below W.heap.size W w') := fun W u h => by
    have := tables_ok W u m n h (by rw [HM.out]; exact hM1) (by rw [HM.out]; omega) hn2 (by omega) HMS.out
    rw [HM.out, hG] at this
    exact this
  have CG : Hid (∀ W u, IsInts W W.heap.size u (ints m) → Calls Try.prog 13 #[u] W fun e w' => ∃ (L : List SV) (q : Option Addr) (c : Nat), e = .returned (.slice q G c) ∧ IsSl w' w'.heap.size (.slice q G c) L ∧ (∀ i, i < G → ∃ vi, L[i]? = some (vi, ints (grN m i))) ∧ Below W.heap.size W w') := fun W u h => (groups_any W u (ints m) h (by rw [length_ints, HM.out]; omega)).mono fun e w' h => by
    obtain ⟨L, q, c, rfl, h2, h3, h4⟩ := h
    have hLl : L.length = G := by
      have := congrArg List.length h3
      rw [List.length_map] at this
      rw [this]
      simp [groupsF, length_ints, HM.out, hG]
    have hLi : ∀ i, i < G → ∃ vi, L[i]? = some (vi, ints (grN m i)) := fun i hi => by
      have hx : L[i]? = some L[i] := List.getElem?_eq_getElem (by omega)
      have h5 : (L.map (·.2))[i]? = some (grp (ints m) i) := by
        rw [h3]
        unfold groupsF
        rw [length_ints, HM.out, hG, List.getElem?_map, List.getElem?_range hi]
        rfl
      rw [List.getElem?_map, hx] at h5
      injection h5 with h5
      exact ⟨L[i].1, by rw [hx, ← grp_ints, ← h5]⟩
    have h6 := h2.is
    rw [hLl] at h6 ⊢
    exact ⟨L, q, c, rfl, h6, hLi, h4⟩
  have CK0 : Hid (∀ W u, IsInts W W.heap.size u (ints (tabF m n 0)) → Calls Try.prog 14 #[u] W fun e w' => e = .returned (.int .i64 0) ∧ Below W.heap.size W w') := fun W u h => by
    have := check_any W u _ h (by rw [length_ints, HTA.out]; omega)
    rw [hk0.ok] at this
    exact this
  have CK1 : Hid (∀ W u, IsInts W W.heap.size u (ints (tabF m n 1)) → Calls Try.prog 14 #[u] W fun e w' => e = .returned (.int .i64 0) ∧ Below W.heap.size W w') := fun W u h => by
    have := check_any W u _ h (by rw [length_ints, HTB.out]; omega)
    rw [hk1.ok] at this
    exact this
  have hRm : checkF (ints (tabF m n 0) ++ [20]) = 6 := lenF_more (oftF n (parTo m 0 (cntG m.length))) 20 (by rw [length_oftF]; exact hn2) (by rw [length_oftF]; omega) (by omega) (by omega)
  have CM : Hid (∀ W u, IsInts W W.heap.size u (ints (tabF m n 0) ++ [20]) → Calls Try.prog 14 #[u] W fun e w' => e = .returned (.int .i64 6) ∧ Below W.heap.size W w') := fun W u h => by
    have := check_any W u _ h (by rw [List.length_append, length_ints, HTA.out]; simp; omega)
    rw [hRm] at this
    exact this
  have CBa : Hid (∀ W u v i, IsInts W W.heap.size u (ints (tabF m n 0)) → IsInts W W.heap.size v (ints (grN m i)) → Calls Try.prog 15 #[u, v] W fun e w' => e = .returned (.tuple #[.int .i64 (bitsN (tabF m n 0) (grN m i) : Nat), .int .i64 0]) ∧ Below W.heap.size W w') := fun W u v i h1 h2 => cbits_ok W u v _ _ h1 h2 hk0 (by have := length_grN m i; omega) (fun s hs => by rw [HTA.out]; exact HMS.out s (grN_mem hs))
  have CBb : Hid (∀ W u v i, IsInts W W.heap.size u (ints (tabF m n 1)) → IsInts W W.heap.size v (ints (grN m i)) → Calls Try.prog 15 #[u, v] W fun e w' => e = .returned (.tuple #[.int .i64 (bitsN (tabF m n 1) (grN m i) : Nat), .int .i64 0]) ∧ Below W.heap.size W w') := fun W u v i h1 h2 => cbits_ok W u v _ _ h1 h2 hk1 (by have := length_grN m i; omega) (fun s hs => by rw [HTB.out]; exact HMS.out s (grN_mem hs))
  have HCO : Hid (∀ i, i < G → (chosenF m n)[i]? = some (if bitsN (tabF m n 1) (grN m i) < bitsN (tabF m n 0) (grN m i) then 1 else 0)) := fun i hi => by
    unfold chosenF
    rw [HM.out, hG, List.getElem?_map, List.getElem?_range hi]
    rfl
  have HCL : Hid ((chosenF m n).length = G) := by
    show _ = _
    unfold chosenF
    rw [List.length_map, List.length_range, HM.out, hG]
  have HEND : Hid (∀ l : List Nat, Code l → l.length = n → (∀ x ∈ oftF n (parTo m 0 G), 1 ≤ x) → ∃ a b : Nat, costF (ints (tabF m n 0)) (ints (oftF n (parTo m 0 G))) = ((a : Int), 0) ∧ costF (ints l) (ints (oftF n (parTo m 0 G))) = ((b : Int), 0) ∧ a ≤ b) := fun l hc hl hp => by
    have h1 := best_cost (oftF n (parTo m 0 G)) l (by rw [length_oftF]; exact hn2) (by rw [length_oftF]; exact hn20) hp (fun x hx => by
      have h1 := oftF_le n _ x hx
      have h2 := length_parTo m 0 G
      omega) hc (by rw [length_oftF]; exact hl)
    unfold tabF
    rw [HM.out, hG]
    exact h1
  have HPS : Hid (∀ s : Nat, s < n → pickF (s : Int) (n : Nat) = (s : Int)) := fun s hs => by
    unfold pickF
    rw [if_neg (by omega)]
    exact Int.emod_eq_of_lt (by omega) (by omega)
  generalize tabF m n 0 = A0 at *
  generalize tabF m n 1 = A1 at *
  generalize chosenF m n = ch at *
  clear hk0 hk1 hRm hG
  go_wp2_with fail
  refine (CT.out _ _ (E2.out.get 0 rfl)).mono ?_
  rintro e w4 ⟨va, vb, q3, c3, q4, c4, rfl, hT, hC, hB⟩
  have E6 := Lib.hid (E2.out.step hB)
  have HT := Lib.hid hT
  have HC := Lib.hid hC
  clear E2 hT hC hB CT
  go_wp2_with fail
  refine (CG.out _ _ (E6.out.get 0 rfl)).mono ?_
  rintro e W ⟨L, q5, c5, rfl, hGr, hLI, hB⟩
  have HLI := Lib.hid hLI
  have HG := Lib.hid hGr
  have hT := HT.out.up hB
  have HC4 : Hid (IsInts W W.heap.size (.slice q4 G c4) (ints ch)) := ints_up HC.out hB
  have HBf : Hid (Below w.heap.size w W) := (E6.out.step hB).bel
  obtain ⟨gt, ot, hq, hgt, hca, hia⟩ := hT.at 0 _ rfl
  obtain ⟨-, -, -, -, hcb, hib⟩ : ∃ g o, q3 = some ⟨g, o, none⟩ ∧ g < W.heap.size ∧ W.cell? ⟨gt, ot + 1, none⟩ = some vb ∧ IsInts W W.heap.size vb (ints A1) := by
    obtain ⟨g, o, h1, h2, h3, h4⟩ := hT.at 1 _ rfl
    rw [hq] at h1
    injection h1 with h1
    injection h1 with h1 h5
    subst h1 h5
    exact ⟨_, _, hq, h2, h3, h4⟩
  subst hq
  rw [Nat.add_zero] at hca
  dsimp only at hca hcb hia hib
  obtain ⟨qa, da, hva, -, -⟩ := hia.shape
  rw [length_ints, HTA.out] at hva
  subst hva
  obtain ⟨qb, db, hvb, -, -⟩ := hib.shape
  rw [length_ints, HTB.out] at hvb
  subst hvb
  have HIA := Lib.hid hia
  have HIB := Lib.hid hib
  have HkA : Hid (∀ w' : World, Below W.heap.size W w' → w'.cell? ⟨gt, ot, none⟩ = some (.slice qa n da)) := fun w' h => (h.cell (p := ⟨gt, ot, none⟩) hgt).trans hca
  have HkB : Hid (∀ w' : World, Below W.heap.size W w' → w'.cell? ⟨gt, ot + 1, none⟩ = some (.slice qb n db)) := fun w' h => (h.cell (p := ⟨gt, ot + 1, none⟩) hgt).trans hcb
  clear hT hB hia hib HT HC E6 CG hLI hGr
  go_wp2_with fail
  refine (CK0.out _ _ HIA.out).mono ?_
  rintro e w5 ⟨rfl, hB5⟩
  have ka5 := HkA.out w5 hB5
  have kb5 := HkB.out w5 hB5
  have HB5 := Lib.hid hB5
  clear hca hcb hB5 CK0
  go_wp2_with fail
  refine (CK1.out _ _ (ints_up HIB.out HB5.out)).mono ?_
  rintro e w6 ⟨rfl, hB6⟩
  have HB6 : Hid (Below W.heap.size W w6) := bel_call hB6 HB5.out
  have ka6 := HkA.out w6 HB6.out
  have HL6 : Hid (IsInts w6 w6.heap.size (.slice qa n da) (ints A0)) := ints_up HIA.out HB6.out
  have hz6 := HB6.out.size
  clear ka5 kb5 hB6 CK1 HB5
  go_wp2_with
    (at_builtin
     first
       | (refine wpList_append_guarded (by simp [Region.wanted, yielded]) _ _ rfl w6.heap.size (.slice none 0 0) [] rfl (OwnInts.nil _ _) w6.heap.size _ (ints A0) rfl HL6.out (by simp only [List.length_nil, length_ints]; have := HTA.out; omega) (Nat.le_refl _) ?_
          intro qx ca2 wa hown1 hg1 hat1
          rw [show ([] : List Int).length + (ints A0).length = n by rw [length_ints, HTA.out]; exact Nat.zero_add _] at hown1 ⊢
          rw [List.nil_append] at hown1
          have Hown1 := Lib.hid hown1
          have HBa : Hid (Below w6.heap.size w6 wa) := bel_grown hg1 (Below.refl _ _) (fun k hk => by simp [Value.ownBlock] at hk)
          have hza := HBa.out.size
          clear hown1 hat1 hg1)
       | (refine wpList_append_guarded (by simp [Region.wanted, yielded]) _ _ rfl w6.heap.size _ (ints A0) rfl (Hown1.out.alloc _) (wa.heap.size + 1) _ [20] rfl (IsInts.new wa [20] _ _ _ rfl rfl rfl (by simp [maxLen])) (by rw [length_ints, HTA.out]; simp; omega) (by simp; omega) ?_
          intro qy cb wb hown2 hg2 hat2
          rw [show (ints A0).length + [(20 : Int)].length = n + 1 by rw [length_ints, HTA.out]; rfl] at hown2 ⊢
          have Hown2 := Lib.hid hown2
          have HBb : Hid (Below w6.heap.size w6 wb) := bel_grown hg2 (HBa.out.alloc (by omega) _) (fun k hk => own_ge Hown1.out hk)
          have hzb := HBb.out.size
          clear hown2 hat2 hg2))
  refine (CM.out _ _ Hown2.out.is).mono ?_
  rintro e w9 ⟨rfl, hB9⟩
  have HB9 : Hid (Below W.heap.size W w9) := bel_call hB9 (HB6.out.trans (HBb.out.mono hz6))
  have hz9 := HB9.out.size
  clear hB9 Hown2 HBb HBa Hown1 HL6 HB6 CM ka6 hza hzb hz6
  go_wp2_with fail
  go_loopw [15] (fun iv wr => ∃ i : Nat, i ≤ G ∧ iv = .int .i64 i ∧ Hid (NumRow wr w9.heap.size (oftF n (parTo m 0 i))) ∧ Hid (Below W.heap.size W wr)) (fun iv _ => G + 1 - (intOf iv).toNat)
  case atStart => exact ⟨0, Nat.zero_le _, rfl, ⟨cz, heap_new _ _ _ rfl, by rw [HCZ.out]; simp [parTo, oftF, incAll, ints]⟩, HB9.out.alloc hz9 _⟩
  case round =>
    clear hmk HB9
    obtain ⟨i, hi, rfl, HN, HB⟩ := hrel
    have hzr := HB.out.size
    by_cases hlt : i < G
    · obtain ⟨vi, hvi⟩ := HLI.out i hlt
      obtain ⟨gg, og, hqg, hgg, hcg, hig⟩ := HG.out.at i _ hvi
      subst hqg
      dsimp only at hcg hig
      obtain ⟨qi, di, hve, -, -⟩ := hig.shape
      rw [length_ints] at hve
      obtain ⟨T, hT⟩ : ∃ T, (grN m i).length = T := ⟨_, rfl⟩
      rw [hT] at hve
      subst hve
      have hT10 : T ≤ 10 := by rw [← hT]; exact length_grN m i
      have HTT := Lib.hid hT
      have HIG := Lib.hid hig
      have HkG : Hid (∀ w' : World, Below W.heap.size W w' → w'.cell? ⟨gg, og + i, none⟩ = some (.slice qi T di)) := fun w' h => (h.cell (p := ⟨gg, og + i, none⟩) hgg).trans hcg
      obtain ⟨gc, oc, hqc, hgc, hxc⟩ := HC4.out.at i (by rw [length_ints, HCL.out]; exact hlt)
      subst hqc
      have hcx := HCO.out i hlt
      have CX0 : Hid (∀ w', Below W.heap.size W w' → Calls Try.prog 15 #[.slice qa n da, .slice qi T di] w' fun e w'' => e = .returned (.tuple #[.int .i64 (bitsN A0 (grN m i) : Nat), .int .i64 0]) ∧ Below w'.heap.size w' w'') := fun w' h => CBa.out w' _ _ i (ints_up HIA.out h) (ints_up hig h)
      have CX1 : Hid (∀ w', Below W.heap.size W w' → Calls Try.prog 15 #[.slice qb n db, .slice qi T di] w' fun e w'' => e = .returned (.tuple #[.int .i64 (bitsN A1 (grN m i) : Nat), .int .i64 0]) ∧ Below w'.heap.size w' w'') := fun w' h => CBb.out w' _ _ i (ints_up HIB.out h) (ints_up hig h)
      obtain ⟨x0, hx0⟩ : ∃ x, bitsN A0 (grN m i) = x := ⟨_, rfl⟩
      obtain ⟨x1, hx1⟩ : ∃ x, bitsN A1 (grN m i) = x := ⟨_, rfl⟩
      rw [hx0] at CX0
      rw [hx1] at CX1
      rw [hx0, hx1] at hcx
      obtain ⟨z, hz, hzz⟩ : ∃ z : Nat, ch[i]? = some z ∧ (x1 < x0 ∧ z = 1 ∨ x0 ≤ x1 ∧ z = 0) := by
        by_cases h : x1 < x0
        · exact ⟨1, by rw [hcx, if_pos h], .inl ⟨h, rfl⟩⟩
        · exact ⟨0, by rw [hcx, if_neg h], .inr ⟨by omega, rfl⟩⟩
      have HZZ := Lib.hid hzz
      rw [show (ints ch)[i]?.getD 0 = (z : Int) by simp [ints, hz]] at hxc
      have HkC : Hid (∀ w' : World, Below W.heap.size W w' → w'.cell? ⟨gc, oc + i, none⟩ = some (.int .i64 (z : Int))) := fun w' h => (h.cell (p := ⟨gc, oc + i, none⟩) hgc).trans hxc
      have HN0 : Hid (NumRow wr w9.heap.size (oftF n (parAt m 0 i 0))) := by rw [parAt_zero]; exact HN
      have hBr : Below W.heap.size W wr := HB.out
      have ka := HkA.out wr hBr
      have kg := HkG.out wr hBr
      have HkW : Hid (∀ w' : World, Below wr.heap.size wr w' → Below wr.heap.size wr w' ∧ w'.cell? ⟨gt, ot, none⟩ = some (.slice qa n da) ∧ w'.cell? ⟨gg, og + i, none⟩ = some (.slice qi T di)) := fun w' h => ⟨h, HkA.out w' (bel_call h HB.out), HkG.out w' (bel_call h HB.out)⟩
      have HkV : Hid (∀ w' : World, Below wr.heap.size wr w' → Below wr.heap.size wr w' ∧ w'.cell? ⟨gt, ot + 1, none⟩ = some (.slice qb n db) ∧ w'.cell? ⟨gg, og + i, none⟩ = some (.slice qi T di)) := fun w' h => ⟨h, HkB.out w' (bel_call h HB.out), HkG.out w' (bel_call h HB.out)⟩
      have hbr : Below wr.heap.size wr wr := Below.refl _ _
      clear hvi hcg hig hT hxc hx0 hx1 hcx hz hzz HN
      go_wp2_with fail
      go_region_held3 (fun w' => Below wr.heap.size wr w' ∧ w'.cell? ⟨gt, ot, none⟩ = some (.slice qa n da) ∧ w'.cell? ⟨gg, og + i, none⟩ = some (.slice qi T di))
        ((refine HkW.out _ ?_; first | assumption | exact bel_drew (by assumption) | exact bel_call (by assumption) (And.left (by assumption)) | fail))
        ((go_at_call 15
          refine (CX0.out _ (bel_call (And.left (by assumption)) HB.out)).mono ?_
          rintro e w8 ⟨rfl, hB8⟩
          have hW8 : Below wr.heap.size wr w8 := bel_call hB8 (And.left (by assumption))))
      have HB8 := Lib.hid hW8
      have hb8 : Below wr.heap.size wr w8 := hW8
      have kb := HkB.out w8 (bel_call hW8 HB.out)
      have kg8 := HkG.out w8 (bel_call hW8 HB.out)
      clear hW8 ka kg hbr hBr HkW CX0
      go_wp2_with fail
      go_region_held3 (fun w' => Below wr.heap.size wr w' ∧ w'.cell? ⟨gt, ot + 1, none⟩ = some (.slice qb n db) ∧ w'.cell? ⟨gg, og + i, none⟩ = some (.slice qi T di))
        ((refine HkV.out _ ?_; first | assumption | exact bel_drew (by assumption) | exact bel_call (by assumption) (And.left (by assumption)) | fail))
        ((go_at_call 15
          refine (CX1.out _ (bel_call (And.left (by assumption)) HB.out)).mono ?_
          rintro e w7 ⟨rfl, hB7⟩
          have hW7 : Below wr.heap.size wr w7 := bel_call hB7 (And.left (by assumption))))
      have HB7 : Hid (Below W.heap.size W w7) := bel_call hW7 HB.out
      have HN7 : Hid (NumRow w7 w9.heap.size (oftF n (parAt m 0 i 0))) := HN0.out.same (hW7.block _ HN0.out.lt)
      have kc := HkC.out w7 HB7.out
      clear kb kg8 hb8 HB8 hW7 HkV CX1 HN0
      rcases HZZ.out with ⟨hxx, rfl⟩ | ⟨hxx, rfl⟩
      · have d1 : decide ((x0 : Int) ≤ (x1 : Int)) = false := decide_eq_false (by omega)
        have d2 : decide (x0 ≤ x1) = false := decide_eq_false (by omega)
        clear hxx
        rcases Nat.mod_two_eq_zero_or_one i with hpa | hpa
        · have hrem : (i : Int).tmod 2 = 0 := by rw [Int.tmod_eq_emod_of_nonneg (by omega)]; omega
          have HPA := Lib.hid hpa
          clear hpa
          go_wp2_with fail
          go_loopw [20] (fun jv wr => ∃ j : Nat, j ≤ T ∧ jv = .int .i64 j ∧ Hid (NumRow wr w9.heap.size (oftF n (parAt m 0 i j))) ∧ Hid (Below W.heap.size W wr)) (fun jv _ => T + 1 - (intOf jv).toNat)
          case atStart => exact ⟨0, Nat.zero_le _, rfl, HN7, HB7⟩
          case round =>
            clear HN7 HB7 kc
            obtain ⟨j, hj, rfl, HN, HB⟩ := hrel
            have kg := HkG.out wr HB.out
            by_cases hjt : j < T
            · obtain ⟨s, hs⟩ : ∃ s, (grN m i)[j]? = some s := ⟨_, List.getElem?_eq_getElem (by rw [HTT.out]; exact hjt)⟩
              have hsn := HMS.out s (grN_mem (List.mem_of_getElem? hs))
              obtain ⟨g7, o7, hq7, hg7, hx7⟩ := (ints_up HIG.out HB.out).at j (by rw [length_ints, HTT.out]; exact hjt)
              subst hq7
              rw [show (ints (grN m i))[j]?.getD 0 = (s : Int) by simp [ints, hs]] at hx7
              obtain ⟨x, hx⟩ : ∃ x, (parAt m 0 i j).count s = x := ⟨_, rfl⟩
              have hxl : x ≤ 200000 := by
                have h1 : (parAt m 0 i j).count s ≤ (parAt m 0 i j).length := List.count_le_length
                have h2 := length_parAt m 0 i j
                omega
              have hcx := HN.out.cell s x (by rw [oftF_get n _ s hsn, hx])
              have hfx := HN.out.frozen s
              have HN2 : Hid (NumRow (wr.setCell ⟨w9.heap.size, s, none⟩ (.int .i64 ((x + 1 : Nat) : Int))) w9.heap.size (oftF n (parAt m 0 i (j + 1)))) := by
                have := HN.out.set s (x + 1)
                rw [← hx, ← oftF_snoc n _ s hsn, ← parAt_yes m 0 i j s HPA.out hs, hx] at this
                exact this
              have HB2 : Hid (Below W.heap.size W (wr.setCell ⟨w9.heap.size, s, none⟩ (.int .i64 ((x + 1 : Nat) : Int)))) := HB.out.setCell (p := ⟨w9.heap.size, s, none⟩) hz9 _
              have hyw : Hid (((x + 1 : Nat) : Int) = (x : Int) + 1) := by show _ = _; omega
              have HPK := Lib.hid (pick11_any (s : Int) (n : Nat) wr (by omega) (by omega) (by omega) (by omega))
              rw [HPS.out s hsn] at HPK
              clear hx hs
              go_wp2_with fail
              refine HPK.out.mono ?_
              rintro e w_ ⟨rfl, rfl⟩
              go_wp2_with fail
              go_roundw
              case rel => exact ⟨j + 1, by omega, by go_num, by rw [← hyw.out]; exact HN2, by rw [← hyw.out]; exact HB2⟩
              case measure => simp [intOf]; omega
            · obtain rfl : j = T := by omega
              have HNe : Hid (NumRow wr w9.heap.size (oftF n (parTo m 0 (i + 1)))) := by rw [← parAt_all, HTT.out]; exact HN
              go_wp2_with fail
              go_roundw
              case rel => exact ⟨i + 1, by omega, by go_num, HNe, HB⟩
              case measure => simp [intOf]; omega
        · have hrem : (i : Int).tmod 2 = 1 := by rw [Int.tmod_eq_emod_of_nonneg (by omega)]; omega
          have HPA := Lib.hid hpa
          clear hpa
          go_wp2_with fail
          go_loopw [20] (fun jv wr => ∃ j : Nat, j ≤ T ∧ jv = .int .i64 j ∧ Hid (NumRow wr w9.heap.size (oftF n (parAt m 0 i j))) ∧ Hid (Below W.heap.size W wr)) (fun jv _ => T + 1 - (intOf jv).toNat)
          case atStart => exact ⟨0, Nat.zero_le _, rfl, HN7, HB7⟩
          case round =>
            clear HN7 HB7 kc
            obtain ⟨j, hj, rfl, HN, HB⟩ := hrel
            have kg := HkG.out wr HB.out
            by_cases hjt : j < T
            · have HNe : Hid (NumRow wr w9.heap.size (oftF n (parTo m 0 (i + 1)))) := by
                rw [← parAt_all, parAt_no m 0 i _ (by have := HPA.out; omega), ← parAt_no m 0 i j (by have := HPA.out; omega)]
                exact HN
              go_wp2_with fail
              go_roundw
              case rel => exact ⟨i + 1, by omega, by go_num, HNe, HB⟩
              case measure => simp [intOf]; omega
            · have HNe : Hid (NumRow wr w9.heap.size (oftF n (parTo m 0 (i + 1)))) := by
                rw [← parAt_all, parAt_no m 0 i _ (by have := HPA.out; omega), ← parAt_no m 0 i j (by have := HPA.out; omega)]
                exact HN
              go_wp2_with fail
              go_roundw
              case rel => exact ⟨i + 1, by omega, by go_num, HNe, HB⟩
              case measure => simp [intOf]; omega
      · have d1 : decide ((x1 : Int) < (x0 : Int)) = false := decide_eq_false (by omega)
        have d2 : decide (x1 < x0) = false := decide_eq_false (by omega)
        clear hxx
        rcases Nat.mod_two_eq_zero_or_one i with hpa | hpa
        · have hrem : (i : Int).tmod 2 = 0 := by rw [Int.tmod_eq_emod_of_nonneg (by omega)]; omega
          have HPA := Lib.hid hpa
          clear hpa
          go_wp2_with fail
          go_loopw [20] (fun jv wr => ∃ j : Nat, j ≤ T ∧ jv = .int .i64 j ∧ Hid (NumRow wr w9.heap.size (oftF n (parAt m 0 i j))) ∧ Hid (Below W.heap.size W wr)) (fun jv _ => T + 1 - (intOf jv).toNat)
          case atStart => exact ⟨0, Nat.zero_le _, rfl, HN7, HB7⟩
          case round =>
            clear HN7 HB7 kc
            obtain ⟨j, hj, rfl, HN, HB⟩ := hrel
            have kg := HkG.out wr HB.out
            by_cases hjt : j < T
            · obtain ⟨s, hs⟩ : ∃ s, (grN m i)[j]? = some s := ⟨_, List.getElem?_eq_getElem (by rw [HTT.out]; exact hjt)⟩
              have hsn := HMS.out s (grN_mem (List.mem_of_getElem? hs))
              obtain ⟨g7, o7, hq7, hg7, hx7⟩ := (ints_up HIG.out HB.out).at j (by rw [length_ints, HTT.out]; exact hjt)
              subst hq7
              rw [show (ints (grN m i))[j]?.getD 0 = (s : Int) by simp [ints, hs]] at hx7
              obtain ⟨x, hx⟩ : ∃ x, (parAt m 0 i j).count s = x := ⟨_, rfl⟩
              have hxl : x ≤ 200000 := by
                have h1 : (parAt m 0 i j).count s ≤ (parAt m 0 i j).length := List.count_le_length
                have h2 := length_parAt m 0 i j
                omega
              have hcx := HN.out.cell s x (by rw [oftF_get n _ s hsn, hx])
              have hfx := HN.out.frozen s
              have HN2 : Hid (NumRow (wr.setCell ⟨w9.heap.size, s, none⟩ (.int .i64 ((x + 1 : Nat) : Int))) w9.heap.size (oftF n (parAt m 0 i (j + 1)))) := by
                have := HN.out.set s (x + 1)
                rw [← hx, ← oftF_snoc n _ s hsn, ← parAt_yes m 0 i j s HPA.out hs, hx] at this
                exact this
              have HB2 : Hid (Below W.heap.size W (wr.setCell ⟨w9.heap.size, s, none⟩ (.int .i64 ((x + 1 : Nat) : Int)))) := HB.out.setCell (p := ⟨w9.heap.size, s, none⟩) hz9 _
              have hyw : Hid (((x + 1 : Nat) : Int) = (x : Int) + 1) := by show _ = _; omega
              have HPK := Lib.hid (pick11_any (s : Int) (n : Nat) wr (by omega) (by omega) (by omega) (by omega))
              rw [HPS.out s hsn] at HPK
              clear hx hs
              go_wp2_with fail
              refine HPK.out.mono ?_
              rintro e w_ ⟨rfl, rfl⟩
              go_wp2_with fail
              go_roundw
              case rel => exact ⟨j + 1, by omega, by go_num, by rw [← hyw.out]; exact HN2, by rw [← hyw.out]; exact HB2⟩
              case measure => simp [intOf]; omega
            · obtain rfl : j = T := by omega
              have HNe : Hid (NumRow wr w9.heap.size (oftF n (parTo m 0 (i + 1)))) := by rw [← parAt_all, HTT.out]; exact HN
              go_wp2_with fail
              go_roundw
              case rel => exact ⟨i + 1, by omega, by go_num, HNe, HB⟩
              case measure => simp [intOf]; omega
        · have hrem : (i : Int).tmod 2 = 1 := by rw [Int.tmod_eq_emod_of_nonneg (by omega)]; omega
          have HPA := Lib.hid hpa
          clear hpa
          go_wp2_with fail
          go_loopw [20] (fun jv wr => ∃ j : Nat, j ≤ T ∧ jv = .int .i64 j ∧ Hid (NumRow wr w9.heap.size (oftF n (parAt m 0 i j))) ∧ Hid (Below W.heap.size W wr)) (fun jv _ => T + 1 - (intOf jv).toNat)
          case atStart => exact ⟨0, Nat.zero_le _, rfl, HN7, HB7⟩
          case round =>
            clear HN7 HB7 kc
            obtain ⟨j, hj, rfl, HN, HB⟩ := hrel
            have kg := HkG.out wr HB.out
            by_cases hjt : j < T
            · have HNe : Hid (NumRow wr w9.heap.size (oftF n (parTo m 0 (i + 1)))) := by
                rw [← parAt_all, parAt_no m 0 i _ (by have := HPA.out; omega), ← parAt_no m 0 i j (by have := HPA.out; omega)]
                exact HN
              go_wp2_with fail
              go_roundw
              case rel => exact ⟨i + 1, by omega, by go_num, HNe, HB⟩
              case measure => simp [intOf]; omega
            · have HNe : Hid (NumRow wr w9.heap.size (oftF n (parTo m 0 (i + 1)))) := by
                rw [← parAt_all, parAt_no m 0 i _ (by have := HPA.out; omega), ← parAt_no m 0 i j (by have := HPA.out; omega)]
                exact HN
              go_wp2_with fail
              go_roundw
              case rel => exact ⟨i + 1, by omega, by go_num, HNe, HB⟩
              case measure => simp [intOf]; omega
    · obtain rfl : i = G := by omega
      have HNr : Hid (NumRow wr w9.heap.size (oftF n (parTo m 0 i))) := HN
      have HBr : Hid (Below W.heap.size W wr) := HB
      have HXle : Hid (∀ x ∈ oftF n (parTo m 0 i), x ≤ 1048576) := fun x hx => by
        have h1 := oftF_le n _ x hx
        have h2 := length_parTo m 0 i
        omega
      have HXL : Hid ((oftF n (parTo m 0 i)).length = n) := length_oftF _ _
      generalize oftF n (parTo m 0 i) = X at *
      clear HN HB
      go_wp2_with fail
      refine (lens08_any _ _ lens n (ints_up HI2.out (HBf.out.trans (HBr.out.mono HBf.out.size))) HR2.out (by omega)).mono ?_
      rintro e w8 ⟨u, l, rfl, ho, hcode, -, hB⟩
      obtain ⟨q8, c8, rfl⟩ := ho.shape
      rw [length_ints] at ho ⊢
      obtain ⟨Ll, hLl⟩ : ∃ x, l.length = x := ⟨_, rfl⟩
      have hl2 := hcode.two
      have hl258 := hcode.most
      rw [hLl] at ho hl2 hl258 ⊢
      have HLL := Lib.hid hLl
      have HCD := Lib.hid hcode
      have HLI8 := Lib.hid ho.is
      have HN8 : Hid (NumRow w8 w9.heap.size X) := HNr.out.same (hB.block _ HNr.out.lt)
      have HB8 : Hid (Below W.heap.size W w8) := bel_call hB HBr.out
      clear ho hcode hLl hB HNr HBr HI2 HR2
      obtain ⟨p0, hp0⟩ : ∃ p : Bool, p = ((Ll : Int) == (n : Int)) := ⟨_, rfl⟩
      have HP0 : Hid (p0 = true → Ll = n ∧ ∀ x ∈ X.take 0, 1 ≤ x) := fun h => by
        rw [hp0, beq_iff_eq] at h
        exact ⟨by omega, fun x hx => by simp at hx⟩
      have hp1 : ((Ll : Int) == (n : Int)) = p0 := hp0.symm
      clear hp0
      go_wp2_with fail
      go_loopw [22, 23] (fun av iv wr => ∃ (p : Bool) (k : Nat), k ≤ n ∧ av = .bool p ∧ iv = .int .i64 k ∧ Hid (p = true → Ll = n ∧ ∀ x ∈ X.take k, 1 ≤ x) ∧ Hid (wr = w8)) (fun _ iv _ => n + 1 - (intOf iv).toNat)
      case atStart => exact ⟨p0, 0, Nat.zero_le _, rfl, rfl, HP0, rfl⟩
      case round =>
        obtain ⟨p, k, hk, rfl, rfl, HP, HW⟩ := hrel
        have hww : wr = w8 := HW
        subst hww
        clear HP0 hp1 HW
        by_cases hkn : k < n
        · obtain ⟨x, hx⟩ : ∃ x, X[k]? = some x := ⟨_, List.getElem?_eq_getElem (by rw [HXL.out]; exact hkn)⟩
          have hcx := HN8.out.cell k x hx
          have hts : X.take (k + 1) = X.take k ++ [x] := by rw [List.take_add_one, hx]; rfl
          have HTS := Lib.hid hts
          clear hx hts
          cases p with
          | false =>
            go_wp2_with fail
            go_roundw
            case rel => exact ⟨false, k + 1, by omega, rfl, by go_num, (fun h => by cases h), (by first | rfl | exact True.intro)⟩
            case measure => simp [intOf]; omega
          | true =>
            by_cases hx0 : 0 < x
            · have d1 : decide (0 < (x : Int)) = true := decide_eq_true (by omega)
              have d2 : decide (0 < x) = true := decide_eq_true hx0
              go_wp2_with fail
              go_roundw
              case rel =>
                refine ⟨true, k + 1, by omega, rfl, by go_num, (fun _ => ⟨(HP.out rfl).1, fun y hy => ?_⟩), (by first | rfl | exact True.intro)⟩
                rw [HTS.out] at hy
                rcases List.mem_append.1 hy with h | h
                · exact (HP.out rfl).2 y h
                · rw [List.mem_singleton.1 h]; exact hx0
              case measure => simp [intOf]; omega
            · have d1 : decide (0 < (x : Int)) = false := decide_eq_false (by omega)
              have d2 : decide (0 < x) = false := decide_eq_false hx0
              clear hx0
              go_wp2_with fail
              go_roundw
              case rel => exact ⟨false, k + 1, by omega, rfl, by go_num, (fun h => by cases h), (by first | rfl | exact True.intro)⟩
              case measure => simp [intOf]; omega
        · obtain rfl : k = n := by omega
          cases p with
          | false =>
            go_wp2_with fail
            go_ret
            exact ⟨rfl, HBf.out.trans (HB8.out.mono HBf.out.size)⟩
          | true =>
            obtain ⟨hln, hpos⟩ := HP.out rfl
            obtain rfl : k = Ll := hln.symm
            rw [List.take_of_length_le (by rw [HXL.out]; exact Nat.le_refl _)] at hpos
            obtain ⟨ca1, cb1, hc1, hc2, hle⟩ := HEND.out l HCD.out HLL.out hpos
            have HX8 : Hid (IsInts wr wr.heap.size (.slice (some ⟨w9.heap.size, 0, none⟩) k k) (ints X)) := by
              have := HN8.out.ints k k (Nat.le_refl _) (by simp [maxLen]; omega) (by rw [HXL.out]; exact Nat.le_refl _)
              rw [List.take_of_length_le (by rw [HXL.out]; exact Nat.le_refl _)] at this
              exact this
            have ka := HkA.out wr HB8.out
            have CC0 := Lib.hid (cost_any wr _ _ _ _ (ints_up HIA.out HB8.out) HX8.out (by rw [length_ints, HTA.out]; omega) (by rw [length_ints, HXL.out]; omega))
            have CC1 : Hid (∀ w', Below wr.heap.size wr w' → Calls Try.prog 17 #[.slice q8 k c8, .slice (some ⟨w9.heap.size, 0, none⟩) k k] w' fun e w'' => e = .returned (.tuple #[.int .i64 (cb1 : Int), .int .i64 0]) ∧ Below w'.heap.size w' w'') := fun w' h => by
              have := cost_any w' _ _ _ _ (ints_up HLI8.out h) (ints_up HX8.out h) (by rw [length_ints, HLL.out]; omega) (by rw [length_ints, HXL.out]; omega)
              rw [hc2] at this
              dsimp only at this
              exact this
            rw [hc1] at CC0
            dsimp only at CC0
            have d1 : decide ((ca1 : Int) ≤ (cb1 : Int)) = true := decide_eq_true (by omega)
            have d2 : decide (ca1 ≤ cb1) = true := decide_eq_true hle
            clear hc1 hc2 hle hpos HP hln
            go_wp2_with fail
            have CC2 : Calls Try.prog _ _ _ _ := CC0.out
            clear HEND HkA HkB HCO HPS HLI HG HC4 CBa CBb HN8 HX8 CC0
            refine CC2.mono ?_
            rintro e w10 ⟨rfl, hB10⟩
            have HC10 := Lib.hid (CC1.out w10 hB10)
            have HB10 := Lib.hid (bel_call hB10 HB8.out)
            clear hB10 CC1 CC2 ka
            go_wp2_with fail
            have CC3 : Calls Try.prog _ _ _ _ := HC10.out
            clear HC10
            refine CC3.mono ?_
            rintro e w11 ⟨rfl, hB11⟩
            have HB11 : Hid (Below W.heap.size W w11) := bel_call hB11 HB10.out
            clear hB11 HB10 CC3
            go_wp2_with fail
            go_ret
            exact ⟨rfl, HBf.out.trans (HB11.out.mono HBf.out.size)⟩
end Go.Proofs.Ytodniacnjdnffaa
