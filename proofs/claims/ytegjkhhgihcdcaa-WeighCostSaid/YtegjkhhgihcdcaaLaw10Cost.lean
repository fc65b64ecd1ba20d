/- WeighCost: the walk. -/
import Derived.Test.YtegjkhhgihcdcaaWeights
import Derived.Test.YtegjkhhgihcdcaaWLaws
import Derived.Test.YtegjkhhgihcdcaaLensK
import Derived.Deep.RegionHeld3
import Derived.Deep.DeepCutAuto
namespace Go.Proofs.Ytegjkhhgihcdcaa
open Go.RowKit
set_option linter.unusedVariables false

theorem may_nat (l : List Nat) (h : ∀ x ∈ l, x ≤ 1048576) : mayW (ints l) = true := (mayW_iff _).2 fun x hx => by
  simp only [ints, List.mem_map] at hx
  obtain ⟨y, hy, rfl⟩ := hx
  have := h y hy
  omega
theorem dotI_append (a b c d : List Int) (h : a.length = c.length) : dotI (a ++ b) (c ++ d) = dotI a c + dotI b d := by
  unfold dotI
  rw [List.zipWith_append h, List.sum_append]
theorem dotI_nonneg (a b : List Int) (ha : mayW a = true) (hb : mayW b = true) (h : a.length = b.length) : 0 ≤ dotI a b ∧ dotI a b ≤ 1099511627776 * (a.length : Int) := by
  have := dotI_bound a b ha hb h a.length (Nat.le_refl _)
  rw [List.take_length, h, List.take_length] at this
  rw [h]
  exact this
/-- what lengths cost is what their parts cost -/
theorem cost_parts (l w : List Nat) (h : l.length = w.length) (hl : ∀ x ∈ l, x ≤ 1048576) (hw : ∀ x ∈ w, x ≤ 1048576) (hn : l.length ≤ 60) (k : Nat) :
    ∃ a b c : Nat, costF (ints l) (ints w) = ((a : Int), 0) ∧ costF (ints (l.take k)) (ints (w.take k)) = ((b : Int), 0) ∧ costF (ints (l.drop k)) (ints (w.drop k)) = ((c : Int), 0) ∧ costF (ints (l.drop k) ++ ints (l.take k)) (ints (w.drop k) ++ ints (w.take k)) = ((a : Int), 0) ∧ a = b + c ∧ a ≤ 1099511627776 * l.length := by
  have m1 := may_nat l hl
  have m2 := may_nat w hw
  have m3 := may_nat (l.take k) fun x hx => hl x (List.mem_of_mem_take hx)
  have m4 := may_nat (w.take k) fun x hx => hw x (List.mem_of_mem_take hx)
  have m5 := may_nat (l.drop k) fun x hx => hl x (List.mem_of_mem_drop hx)
  have m6 := may_nat (w.drop k) fun x hx => hw x (List.mem_of_mem_drop hx)
  have e1 : (ints (l.take k)).length = (ints (w.take k)).length := by rw [length_ints, length_ints, List.length_take, List.length_take, h]
  have e2 : (ints (l.drop k)).length = (ints (w.drop k)).length := by rw [length_ints, length_ints, List.length_drop, List.length_drop, h]
  have e0 : (ints l).length = (ints w).length := by rw [length_ints, length_ints, h]
  have hA := dotI_nonneg _ _ m1 m2 e0
  have hB := dotI_nonneg _ _ m3 m4 e1
  have hC := dotI_nonneg _ _ m5 m6 e2
  have s1 : dotI (ints l) (ints w) = dotI (ints (l.take k)) (ints (w.take k)) + dotI (ints (l.drop k)) (ints (w.drop k)) := by
    rw [← dotI_append _ _ _ _ e1]
    congr 1
    · unfold ints; rw [← List.map_append, List.take_append_drop]
    · unfold ints; rw [← List.map_append, List.take_append_drop]
  have s2 : dotI (ints (l.drop k) ++ ints (l.take k)) (ints (w.drop k) ++ ints (w.take k)) = dotI (ints (l.drop k)) (ints (w.drop k)) + dotI (ints (l.take k)) (ints (w.take k)) := dotI_append _ _ _ _ e2
  have m7 : mayW (ints (l.drop k) ++ ints (l.take k)) = true := (mayW_iff _).2 fun x hx => by
    rcases List.mem_append.1 hx with hx | hx
    · exact (mayW_iff _).1 m5 x hx
    · exact (mayW_iff _).1 m3 x hx
  have m8 : mayW (ints (w.drop k) ++ ints (w.take k)) = true := (mayW_iff _).2 fun x hx => by
    rcases List.mem_append.1 hx with hx | hx
    · exact (mayW_iff _).1 m6 x hx
    · exact (mayW_iff _).1 m4 x hx
  refine ⟨(dotI (ints l) (ints w)).toNat, (dotI (ints (l.take k)) (ints (w.take k))).toNat, (dotI (ints (l.drop k)) (ints (w.drop k))).toNat, ?_, ?_, ?_, ?_, by omega, ?_⟩
  · unfold costF; rw [if_pos ⟨e0, m1, m2⟩, Int.toNat_of_nonneg hA.1]
  · unfold costF; rw [if_pos ⟨e1, m3, m4⟩, Int.toNat_of_nonneg hB.1]
  · unfold costF; rw [if_pos ⟨e2, m5, m6⟩, Int.toNat_of_nonneg hC.1]
  · unfold costF; rw [if_pos ⟨by rw [List.length_append, List.length_append, e1, e2], m7, m8⟩, Int.toNat_of_nonneg hA.1, s2, s1, Int.add_comm]
  · have := hA.2
    rw [length_ints] at this
    omega

set_option maxRecDepth 100000 in
set_option maxHeartbeats 6400000 in
theorem wcost_walk (w : World) (v v2 : Value) (raw lens : List Int) (at0 : Int) (hv : IsInts w w.heap.size v raw) (hr : I64s raw) (hv2 : IsInts w w.heap.size v2 lens) (hr2 : I64s lens) (hat : -9223372036854775808 ≤ at0) (hat' : at0 ≤ 9223372036854775807) :
    Calls Try.prog 6 #[v, v2, .int .i64 at0] w fun e w' => e = .returned (.bool true) ∧ Below w.heap.size w w' := by
  obtain ⟨A, ca, rfl, hc1, hc2⟩ := hv.shape
  obtain ⟨A2, ca2, rfl, hd1, hd2⟩ := hv2.shape
  have HV := Lib.hid hv
  have HV2 := Lib.hid hv2
  have HR := Lib.hid hr
  have HR2 := Lib.hid hr2
  clear hv hv2 hr hr2
  go_enter Try.func6, Try.ntmps6
  have E0 := Lib.hid (Env.nil w)
  go_wp2_with fail
  refine (awake10_any _).mono ?_
  rintro e w1 ⟨rfl, hB⟩
  have E1 := Lib.hid (E0.out.step hB)
  clear E0 hB  
  go_wp2_with fail
  refine (weights_is _ _ raw 60 (E1.out.old HV.out) HR.out (by omega)).mono ?_
  rintro e w2 ⟨q1, c1, rfl, hv, hB⟩
  have hW2 := wF_two raw 60
  have hW60 : (wF raw 60).length ≤ 60 := by rw [length_wF]; omega
  have hWle := wF_le raw 60
  generalize wF raw 60 = ws at *
  obtain ⟨M, hM⟩ : ∃ M, ws.length = M := ⟨_, rfl⟩
  have HM := Lib.hid hM
  rw [hM] at hv hW2 hW60 ⊢
  have E2 := Lib.hid ((E1.out.step hB).add hv)
  have HWL := Lib.hid hWle
  clear hM hv hB hWle E1
  go_wp2_with fail
  refine (lens08_any _ _ lens 60 (E2.out.old HV2.out) HR2.out (by omega)).mono ?_
  rintro e w3 ⟨u, l, rfl, ho, hcode, hl, hB⟩
  obtain ⟨q2, c2, rfl⟩ := ho.shape
  rw [length_ints] at ho ⊢
  have hv := ho.is
  have E3 := Lib.hid ((E2.out.step hB).add hv)
  obtain ⟨L, hL⟩ : ∃ L, l.length = L := ⟨_, rfl⟩
  have HL := Lib.hid hL
  have HF := Lib.hid hcode.fits
  have hL2 := hcode.two
  rw [hL] at E3 hl hL2 ⊢
  have hl60 : L ≤ 60 := by omega
  clear hL hcode hv hB ho E2 hl
  obtain ⟨n, hn⟩ : ∃ n, min L M = n := ⟨_, rfl⟩
  have hn2 : 2 ≤ n := by omega
  have hnL : n ≤ L := by omega
  have hnM : n ≤ M := by omega
  have hn60 : n ≤ 60 := by omega
  have hpk := pickF_lt at0 ((n : Int) + 1) (by omega)
  obtain ⟨k, hk⟩ : ∃ k : Nat, pickF at0 ((n : Int) + 1) = (k : Int) := ⟨(pickF at0 ((n : Int) + 1)).toNat, by omega⟩
  have hkn : k ≤ n := by omega
  have HK := Lib.hid hk
  obtain ⟨n1, hn1⟩ : ∃ n1, n - 1 = n1 := ⟨_, rfl⟩
  have hn1n : n1 < n := by omega
  have hwn1 : IntKind.i64.wrap ((n : Int) - 1) = (n1 : Int) := by rw [IntWalk.i64_in _ (by omega)]; omega
  have hln : (l.take n).length = n := by rw [List.length_take, HL.out]; omega
  have hwln : (ws.take n).length = n := by rw [List.length_take, HM.out]; omega
  have hlf : ∀ x ∈ l.take n, x ≤ 1048576 := fun x hx => by have := HF.out x (List.mem_of_mem_take hx); omega
  have hwf : ∀ x ∈ ws.take n, x ≤ 1048576 := fun x hx => HWL.out x (List.mem_of_mem_take hx)
  have hparts := cost_parts (l.take n) (ws.take n) (by rw [hln, hwln]) hlf hwf (by omega) k
  obtain ⟨a, b, c, cA, cB, cC, cD, hab, ha0⟩ := hparts
  rw [hln] at ha0
  have cI : costF (ints (l.take n)) (ints (ws.take n1)) = (0, 1) := if_neg (fun h => by
    have := h.1
    rw [length_ints, length_ints, hln, List.length_take, HM.out] at this
    omega)
  rw [show (l.take n).take k = l.take k by rw [List.take_take, Nat.min_eq_left hkn], show (ws.take n).take k = ws.take k by rw [List.take_take, Nat.min_eq_left hkn]] at cB cD
  have CA : Hid (∀ W u v, IsInts W W.heap.size u (ints (l.take n)) → IsInts W W.heap.size v (ints (ws.take n)) → Calls Try.prog 15 #[u, v] W fun e w' => e = .returned (.tuple #[.int .i64 (a : Nat), .int .i64 0]) ∧ Below W.heap.size W w') := fun W u v h1 h2 => cost_is W u v _ _ _ h1 h2 (by rw [length_ints]; omega) (by rw [length_ints]; omega) cA
  have CB : Hid (∀ W u v, IsInts W W.heap.size u (ints (l.take k)) → IsInts W W.heap.size v (ints (ws.take k)) → Calls Try.prog 15 #[u, v] W fun e w' => e = .returned (.tuple #[.int .i64 (b : Nat), .int .i64 0]) ∧ Below W.heap.size W w') := fun W u v h1 h2 => cost_is W u v _ _ _ h1 h2 (by rw [length_ints, List.length_take]; omega) (by rw [length_ints, List.length_take]; omega) cB
  have CC : Hid (∀ W u v, IsInts W W.heap.size u (ints ((l.take n).drop k)) → IsInts W W.heap.size v (ints ((ws.take n).drop k)) → Calls Try.prog 15 #[u, v] W fun e w' => e = .returned (.tuple #[.int .i64 (c : Nat), .int .i64 0]) ∧ Below W.heap.size W w') := fun W u v h1 h2 => cost_is W u v _ _ _ h1 h2 (by rw [length_ints, List.length_drop]; omega) (by rw [length_ints, List.length_drop]; omega) cC
  have CD : Hid (∀ W u v, IsInts W W.heap.size u (ints ((l.take n).drop k) ++ ints (l.take k)) → IsInts W W.heap.size v (ints ((ws.take n).drop k) ++ ints (ws.take k)) → Calls Try.prog 15 #[u, v] W fun e w' => e = .returned (.tuple #[.int .i64 (a : Nat), .int .i64 0]) ∧ Below W.heap.size W w') := fun W u v h1 h2 => cost_is W u v _ _ _ h1 h2 (by rw [List.length_append, length_ints, length_ints, List.length_drop, hln, List.length_take]; omega) (by rw [List.length_append, length_ints, length_ints, List.length_drop, hwln, List.length_take]; omega) cD
  have CI : Hid (∀ W u v, IsInts W W.heap.size u (ints (l.take n)) → IsInts W W.heap.size v (ints (ws.take n1)) → Calls Try.prog 15 #[u, v] W fun e w' => e = .returned (.tuple #[.int .i64 0, .int .i64 1]) ∧ Below W.heap.size W w') := fun W u v h1 h2 => cost_is W u v _ _ _ h1 h2 (by rw [length_ints]; omega) (by rw [length_ints, List.length_take]; omega) cI
  have hwab : IntKind.i64.wrap ((b : Int) + (c : Int)) = (a : Int) := by rw [IntWalk.i64_in _ (by omega)]; omega
  have Hln := Lib.hid hln
  have Hwln := Lib.hid hwln
  clear hpk hk hn1 hlf hwf cA cB cC cD cI hab ha0 hln hwln
  rcases Nat.lt_or_ge M L with hML | hML
  · obtain rfl : n = M := by omega
    clear hn
    go_wp2_with fail
    refine (pick10_any at0 _ _ hat hat' (by omega) (by omega)).mono ?_
    rintro e w_ ⟨rfl, rfl⟩
    rw [HK.out]
    obtain ⟨va, hva, ⟨qa, da, ea⟩, -, -, sa⟩ := (E3.out.get 0 rfl).cut 0 n (Nat.zero_le _) hnL
    obtain ⟨vb, hvb, ⟨qb, db, eb⟩, -, -, sb⟩ := (E3.out.get 1 rfl).cut 0 n (Nat.zero_le _) hnM
    obtain ⟨vc, hvc, ⟨qc, dc, ec⟩, -, -, sc⟩ := (E3.out.get 0 rfl).cut 0 k (Nat.zero_le _) (by omega)
    obtain ⟨vd, hvd, ⟨qd, dd, ed⟩, -, -, sd⟩ := (E3.out.get 1 rfl).cut 0 k (Nat.zero_le _) (by omega)
    obtain ⟨ve, hve, ⟨qe, de, ee⟩, se, -, -⟩ := (E3.out.get 0 rfl).cut k n hkn hnL
    obtain ⟨vf, hvf, ⟨qf, df, ef⟩, sf, -, -⟩ := (E3.out.get 1 rfl).cut k n hkn hnM
    obtain ⟨vg, hvg, ⟨qg, dg, eg⟩, -, -, sg⟩ := (E3.out.get 1 rfl).cut 0 n1 (Nat.zero_le _) (by omega)
    subst ea eb ec ed ee ef eg
    have sa := sa rfl
    have sb := sb rfl
    have sc := sc rfl
    have sd := sd rfl
    have sg := sg rfl
    rw [List.drop_zero, show (ints l).take n = ints (l.take n) by simp [ints, List.map_take]] at hva
    rw [List.drop_zero, show (ints ws).take n = ints (ws.take n) by simp [ints, List.map_take]] at hvb
    rw [List.drop_zero, show (ints l).take k = ints (l.take k) by simp [ints, List.map_take]] at hvc
    rw [List.drop_zero, show (ints ws).take k = ints (ws.take k) by simp [ints, List.map_take]] at hvd
    rw [show ((ints l).take n).drop k = ints ((l.take n).drop k) by simp [ints, List.map_take, List.map_drop]] at hve
    rw [show ((ints ws).take n).drop k = ints ((ws.take n).drop k) by simp [ints, List.map_take, List.map_drop]] at hvf
    rw [List.drop_zero, show (ints ws).take n1 = ints (ws.take n1) by simp [ints, List.map_take]] at hvg
    have EA := Lib.hid (((((((E3.out.add hva).add hvb).add hvc).add hvd).add hve).add hvf).add hvg)
    clear hva hvb hvc hvd hve hvf hvg E3
    go_wp2_with fail
    have hx1 := EA.out.get 6 rfl
    have hx2 := EA.out.get 5 rfl
    have hbW : Below w3.heap.size w3 w3 := Below.refl _ _
    go_region_held3 (fun w' => Below w3.heap.size w3 w')
      ((first | assumption | exact bel_drew (by assumption)))
      ((first
        | (go_at_call 15
           refine (CA.out _ _ _ (ints_up hx1 (by assumption)) (ints_up hx2 (by assumption))).mono ?_
           rintro e w4 ⟨rfl, hB8⟩
           have hW8 : Below w3.heap.size w3 w4 := bel_call hB8 (by assumption)
           clear hB8)
        | fail))
    have EB := Lib.hid (EA.out.step hW8)
    clear hx1 hx2 hbW hW8 EA CA sb
    go_wp2_with fail
    have hx1 := EB.out.get 4 rfl
    have hx2 := EB.out.get 3 rfl
    have hbW : Below w4.heap.size w4 w4 := Below.refl _ _
    go_region_held3 (fun w' => Below w4.heap.size w4 w')
      ((first | assumption | exact bel_drew (by assumption)))
      ((first
        | (go_at_call 15
           refine (CB.out _ _ _ (ints_up hx1 (by assumption)) (ints_up hx2 (by assumption))).mono ?_
           rintro e w5 ⟨rfl, hB8⟩
           have hW8 : Below w4.heap.size w4 w5 := bel_call hB8 (by assumption)
           clear hB8)
        | fail))
    have EB2 := Lib.hid (EB.out.step hW8)
    clear hx1 hx2 hbW hW8 EB CB 
    go_wp2_with fail
    have hx1 := EB2.out.get 2 rfl
    have hx2 := EB2.out.get 1 rfl
    have hbW : Below w5.heap.size w5 w5 := Below.refl _ _
    go_region_held3 (fun w' => Below w5.heap.size w5 w')
      ((first | assumption | exact bel_drew (by assumption)))
      ((first
        | (go_at_call 15
           refine (CC.out _ _ _ (ints_up hx1 (by assumption)) (ints_up hx2 (by assumption))).mono ?_
           rintro e w6 ⟨rfl, hB8⟩
           have hW8 : Below w5.heap.size w5 w6 := bel_call hB8 (by assumption)
           clear hB8)
        | fail))
    have EC := Lib.hid (EB2.out.step hW8)
    clear hx1 hx2 hbW hW8 EB2 CC 
    go_wp2_with fail
    have hle := EC.out.get 2 rfl
    have hlc := EC.out.get 4 rfl
    have hwe := EC.out.get 1 rfl
    have hwc := EC.out.get 3 rfl
    have hbW : Below w6.heap.size w6 w6 := Below.refl _ _
    go_region_held3 (fun w' => Below w6.heap.size w6 w')
      ((first | assumption | exact bel_drew (by assumption)))
      ((first
        | (refine step_append_ints (by rfl) _ _ (by rfl) w6.heap.size (.slice none 0 0) [] (by rfl) (OwnInts.nil _ _) _ _ (ints ((l.take n).drop k)) (by rfl) (ints_up hle (by assumption)) (by simp only [List.length_nil, length_ints, List.length_drop]; have := Hln.out; omega) (bel_size (by assumption)) ?_
           intro q7 d7 wa hown1 hg1 hat1
           have hWa : Below w6.heap.size w6 wa := bel_grown hg1 (by assumption) (fun k hk => by simp [Value.ownBlock] at hk)
           have Hown1 := Lib.hid hown1
           clear hg1 hat1 hown1)
        | (refine step_append_ints (by rfl) _ _ (by rfl) w6.heap.size _ _ (by rfl) Hown1.out _ _ (ints (l.take k)) (by rfl) (ints_up hlc (by assumption)) (by simp only [List.length_append, List.length_nil, length_ints, List.length_drop, List.length_take]; have := Hln.out; omega) (bel_size (by assumption)) ?_
           intro q8 d8 wb hown2 hg2 hat2
           have hWb : Below w6.heap.size w6 wb := bel_grown hg2 (by assumption) (fun k hk => own_ge Hown1.out hk)
           have Hown2 := Lib.hid hown2
           clear hg2 hat2 hown2)
        | (refine step_append_ints (by rfl) _ _ (by rfl) wb.heap.size (.slice none 0 0) [] (by rfl) (OwnInts.nil _ _) _ _ (ints ((ws.take n).drop k)) (by rfl) (ints_up hwe (by assumption)) (by simp only [List.length_nil, length_ints, List.length_drop]; have := Hwln.out; omega) (Nat.le_refl _) ?_
           intro q9 d9 wc hown3 hg3 hat3
           have hBc : Below wb.heap.size wb wc := bel_grown hg3 (Below.refl _ _) (fun k hk => by simp [Value.ownBlock] at hk)
           have hWc : Below w6.heap.size w6 wc := bel_call hBc hWb
           have Hown3 := Lib.hid hown3
           clear hg3 hat3 hown3)
        | (refine step_append_ints (by rfl) _ _ (by rfl) wb.heap.size _ _ (by rfl) Hown3.out _ _ (ints (ws.take k)) (by rfl) (ints_up hwc (by assumption)) (by simp only [List.length_append, List.length_nil, length_ints, List.length_drop, List.length_take]; have := Hwln.out; omega) hBc.size ?_
           intro q10 d10 wd hown4 hg4 hat4
           have hBd : Below wb.heap.size wb wd := bel_grown hg4 hBc (fun k hk => own_ge Hown3.out hk)
           have hWd : Below w6.heap.size w6 wd := bel_call hBd hWb
           have Hown4 := Lib.hid hown4
           clear hg4 hat4 hown4)
        | (go_at_call 15
           refine (CD.out _ _ _ (by have := (Hown2.out.below hBd).is; rw [List.nil_append] at this; exact this) (by have := Hown4.out.is; rw [List.nil_append] at this; exact this)).mono ?_
           rintro e w7 ⟨rfl, hB8⟩
           have hW8 : Below w6.heap.size w6 w7 := bel_call hB8 hWd
           clear hB8)
        | fail))
    have ED := Lib.hid (EC.out.step hW8)
    clear hle hlc hwe hwc hbW hW8 EC CD se sf sc sd
    go_wp2_with fail
    have hx1 := ED.out.get 6 rfl
    have hx2 := ED.out.get 0 rfl
    have hbW : Below w7.heap.size w7 w7 := Below.refl _ _
    go_region_held3 (fun w' => Below w7.heap.size w7 w')
      ((first | assumption | exact bel_drew (by assumption)))
      ((first
        | (go_at_call 15
           refine (CI.out _ _ _ (ints_up hx1 (by assumption)) (ints_up hx2 (by assumption))).mono ?_
           rintro e w9 ⟨rfl, hB8⟩
           have hW8 : Below w7.heap.size w7 w9 := bel_call hB8 (by assumption)
           clear hB8)
        | fail))
    have EF := Lib.hid (ED.out.step hW8)
    clear hx1 hx2 hbW hW8 ED CI sa sg
    go_wp2_with fail
    go_ret
    exact ⟨rfl, EF.out.bel⟩
  · obtain rfl : n = L := by omega
    clear hn
    go_wp2_with fail
    refine (pick10_any at0 _ _ hat hat' (by omega) (by omega)).mono ?_
    rintro e w_ ⟨rfl, rfl⟩
    rw [HK.out]
    obtain ⟨va, hva, ⟨qa, da, ea⟩, -, -, sa⟩ := (E3.out.get 0 rfl).cut 0 n (Nat.zero_le _) hnL
    obtain ⟨vb, hvb, ⟨qb, db, eb⟩, -, -, sb⟩ := (E3.out.get 1 rfl).cut 0 n (Nat.zero_le _) hnM
    obtain ⟨vc, hvc, ⟨qc, dc, ec⟩, -, -, sc⟩ := (E3.out.get 0 rfl).cut 0 k (Nat.zero_le _) (by omega)
    obtain ⟨vd, hvd, ⟨qd, dd, ed⟩, -, -, sd⟩ := (E3.out.get 1 rfl).cut 0 k (Nat.zero_le _) (by omega)
    obtain ⟨ve, hve, ⟨qe, de, ee⟩, se, -, -⟩ := (E3.out.get 0 rfl).cut k n hkn hnL
    obtain ⟨vf, hvf, ⟨qf, df, ef⟩, sf, -, -⟩ := (E3.out.get 1 rfl).cut k n hkn hnM
    obtain ⟨vg, hvg, ⟨qg, dg, eg⟩, -, -, sg⟩ := (E3.out.get 1 rfl).cut 0 n1 (Nat.zero_le _) (by omega)
    subst ea eb ec ed ee ef eg
    have sa := sa rfl
    have sb := sb rfl
    have sc := sc rfl
    have sd := sd rfl
    have sg := sg rfl
    rw [List.drop_zero, show (ints l).take n = ints (l.take n) by simp [ints, List.map_take]] at hva
    rw [List.drop_zero, show (ints ws).take n = ints (ws.take n) by simp [ints, List.map_take]] at hvb
    rw [List.drop_zero, show (ints l).take k = ints (l.take k) by simp [ints, List.map_take]] at hvc
    rw [List.drop_zero, show (ints ws).take k = ints (ws.take k) by simp [ints, List.map_take]] at hvd
    rw [show ((ints l).take n).drop k = ints ((l.take n).drop k) by simp [ints, List.map_take, List.map_drop]] at hve
    rw [show ((ints ws).take n).drop k = ints ((ws.take n).drop k) by simp [ints, List.map_take, List.map_drop]] at hvf
    rw [List.drop_zero, show (ints ws).take n1 = ints (ws.take n1) by simp [ints, List.map_take]] at hvg
    have EA := Lib.hid (((((((E3.out.add hva).add hvb).add hvc).add hvd).add hve).add hvf).add hvg)
    clear hva hvb hvc hvd hve hvf hvg E3
    go_wp2_with fail
    have hx1 := EA.out.get 6 rfl
    have hx2 := EA.out.get 5 rfl
    have hbW : Below w3.heap.size w3 w3 := Below.refl _ _
    go_region_held3 (fun w' => Below w3.heap.size w3 w')
      ((first | assumption | exact bel_drew (by assumption)))
      ((first
        | (go_at_call 15
           refine (CA.out _ _ _ (ints_up hx1 (by assumption)) (ints_up hx2 (by assumption))).mono ?_
           rintro e w4 ⟨rfl, hB8⟩
           have hW8 : Below w3.heap.size w3 w4 := bel_call hB8 (by assumption)
           clear hB8)
        | fail))
    have EB := Lib.hid (EA.out.step hW8)
    clear hx1 hx2 hbW hW8 EA CA sb
    go_wp2_with fail
    have hx1 := EB.out.get 4 rfl
    have hx2 := EB.out.get 3 rfl
    have hbW : Below w4.heap.size w4 w4 := Below.refl _ _
    go_region_held3 (fun w' => Below w4.heap.size w4 w')
      ((first | assumption | exact bel_drew (by assumption)))
      ((first
        | (go_at_call 15
           refine (CB.out _ _ _ (ints_up hx1 (by assumption)) (ints_up hx2 (by assumption))).mono ?_
           rintro e w5 ⟨rfl, hB8⟩
           have hW8 : Below w4.heap.size w4 w5 := bel_call hB8 (by assumption)
           clear hB8)
        | fail))
    have EB2 := Lib.hid (EB.out.step hW8)
    clear hx1 hx2 hbW hW8 EB CB 
    go_wp2_with fail
    have hx1 := EB2.out.get 2 rfl
    have hx2 := EB2.out.get 1 rfl
    have hbW : Below w5.heap.size w5 w5 := Below.refl _ _
    go_region_held3 (fun w' => Below w5.heap.size w5 w')
      ((first | assumption | exact bel_drew (by assumption)))
      ((first
        | (go_at_call 15
           refine (CC.out _ _ _ (ints_up hx1 (by assumption)) (ints_up hx2 (by assumption))).mono ?_
           rintro e w6 ⟨rfl, hB8⟩
           have hW8 : Below w5.heap.size w5 w6 := bel_call hB8 (by assumption)
           clear hB8)
        | fail))
    have EC := Lib.hid (EB2.out.step hW8)
    clear hx1 hx2 hbW hW8 EB2 CC 
    go_wp2_with fail
    have hle := EC.out.get 2 rfl
    have hlc := EC.out.get 4 rfl
    have hwe := EC.out.get 1 rfl
    have hwc := EC.out.get 3 rfl
    have hbW : Below w6.heap.size w6 w6 := Below.refl _ _
    go_region_held3 (fun w' => Below w6.heap.size w6 w')
      ((first | assumption | exact bel_drew (by assumption)))
      ((first
        | (refine step_append_ints (by rfl) _ _ (by rfl) w6.heap.size (.slice none 0 0) [] (by rfl) (OwnInts.nil _ _) _ _ (ints ((l.take n).drop k)) (by rfl) (ints_up hle (by assumption)) (by simp only [List.length_nil, length_ints, List.length_drop]; have := Hln.out; omega) (bel_size (by assumption)) ?_
           intro q7 d7 wa hown1 hg1 hat1
           have hWa : Below w6.heap.size w6 wa := bel_grown hg1 (by assumption) (fun k hk => by simp [Value.ownBlock] at hk)
           have Hown1 := Lib.hid hown1
           clear hg1 hat1 hown1)
        | (refine step_append_ints (by rfl) _ _ (by rfl) w6.heap.size _ _ (by rfl) Hown1.out _ _ (ints (l.take k)) (by rfl) (ints_up hlc (by assumption)) (by simp only [List.length_append, List.length_nil, length_ints, List.length_drop, List.length_take]; have := Hln.out; omega) (bel_size (by assumption)) ?_
           intro q8 d8 wb hown2 hg2 hat2
           have hWb : Below w6.heap.size w6 wb := bel_grown hg2 (by assumption) (fun k hk => own_ge Hown1.out hk)
           have Hown2 := Lib.hid hown2
           clear hg2 hat2 hown2)
        | (refine step_append_ints (by rfl) _ _ (by rfl) wb.heap.size (.slice none 0 0) [] (by rfl) (OwnInts.nil _ _) _ _ (ints ((ws.take n).drop k)) (by rfl) (ints_up hwe (by assumption)) (by simp only [List.length_nil, length_ints, List.length_drop]; have := Hwln.out; omega) (Nat.le_refl _) ?_
           intro q9 d9 wc hown3 hg3 hat3
           have hBc : Below wb.heap.size wb wc := bel_grown hg3 (Below.refl _ _) (fun k hk => by simp [Value.ownBlock] at hk)
           have hWc : Below w6.heap.size w6 wc := bel_call hBc hWb
           have Hown3 := Lib.hid hown3
           clear hg3 hat3 hown3)
        | (refine step_append_ints (by rfl) _ _ (by rfl) wb.heap.size _ _ (by rfl) Hown3.out _ _ (ints (ws.take k)) (by rfl) (ints_up hwc (by assumption)) (by simp only [List.length_append, List.length_nil, length_ints, List.length_drop, List.length_take]; have := Hwln.out; omega) hBc.size ?_
           intro q10 d10 wd hown4 hg4 hat4
           have hBd : Below wb.heap.size wb wd := bel_grown hg4 hBc (fun k hk => own_ge Hown3.out hk)
           have hWd : Below w6.heap.size w6 wd := bel_call hBd hWb
           have Hown4 := Lib.hid hown4
           clear hg4 hat4 hown4)
        | (go_at_call 15
           refine (CD.out _ _ _ (by have := (Hown2.out.below hBd).is; rw [List.nil_append] at this; exact this) (by have := Hown4.out.is; rw [List.nil_append] at this; exact this)).mono ?_
           rintro e w7 ⟨rfl, hB8⟩
           have hW8 : Below w6.heap.size w6 w7 := bel_call hB8 hWd
           clear hB8)
        | fail))
    have ED := Lib.hid (EC.out.step hW8)
    clear hle hlc hwe hwc hbW hW8 EC CD se sf sc sd
    go_wp2_with fail
    have hx1 := ED.out.get 6 rfl
    have hx2 := ED.out.get 0 rfl
    have hbW : Below w7.heap.size w7 w7 := Below.refl _ _
    go_region_held3 (fun w' => Below w7.heap.size w7 w')
      ((first | assumption | exact bel_drew (by assumption)))
      ((first
        | (go_at_call 15
           refine (CI.out _ _ _ (ints_up hx1 (by assumption)) (ints_up hx2 (by assumption))).mono ?_
           rintro e w9 ⟨rfl, hB8⟩
           have hW8 : Below w7.heap.size w7 w9 := bel_call hB8 (by assumption)
           clear hB8)
        | fail))
    have EF := Lib.hid (ED.out.step hW8)
    clear hx1 hx2 hbW hW8 ED CI sa sg
    go_wp2_with fail
    go_ret
    exact ⟨rfl, EF.out.bel⟩
end Go.Proofs.Ytegjkhhgihcdcaa
