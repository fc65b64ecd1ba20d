/- ChooseTurned: the walk. -/
import Derived.Test.YtodniacnjdnffaaTurnP
import Derived.Test.YtodniacnjdnffaaAwake11
import Derived.Test.YtodniacnjdnffaaTables
import Derived.Test.YtodniacnjdnffaaSymsK
namespace Go.Proofs.Ytodniacnjdnffaa
open Go.RowKit
set_option linter.unusedVariables false

set_option maxRecDepth 100000 in
set_option maxHeartbeats 6400000 in
theorem cturned_walk (w : World) (v : Value) (raw : List Int) (many : Int) (hi : IsInts w w.heap.size v raw) (hr : I64s raw) (hmany : -9223372036854775808 ≤ many) (hmany' : many ≤ 9223372036854775807) :
    Calls Try.prog 4 #[v, .int .i64 many] w fun e w' => e = .returned (.bool true) ∧ Below w.heap.size w w' := by
  have hpm := pickF_lt many 19 (by omega)
  obtain ⟨a, ha⟩ : ∃ k : Nat, pickF many 19 = (k : Int) := ⟨(pickF many 19).toNat, by omega⟩
  have HA := Lib.hid ha
  obtain ⟨n, hn⟩ : ∃ n, n = 2 + a := ⟨_, rfl⟩
  have hna : (2 : Int) + (a : Int) = (n : Int) := by omega
  have hn2 : 2 ≤ n := by omega
  have hn20 : n ≤ 20 := by omega
  have HI := Lib.hid hi
  have CS : Hid (∀ W u, IsInts W W.heap.size u raw → Calls Try.prog 9 #[u, .int .i64 (n : Nat), .int .i64 80] W fun e w' => ∃ q c, e = .returned (.slice q (symsF raw n 80).length c) ∧ IsInts w' w'.heap.size (.slice q (symsF raw n 80).length c) (ints (symsF raw n 80)) ∧ Below W.heap.size W w') := fun W u h => syms_is W u raw n 80 h hr (by omega) (by omega) (by omega)
  have hml := symsF_len raw n 80
  have hms := symsF_lt raw n 80 (by omega)
  generalize symsF raw n 80 = m0 at *
  obtain ⟨N, hN⟩ : ∃ N, m0.length = N := ⟨_, rfl⟩
  rw [hN] at CS hml
  obtain ⟨H, hH⟩ : ∃ H, H = N / 20 := ⟨_, rfl⟩
  obtain ⟨T, hT⟩ : ∃ T, T = 20 * H := ⟨_, rfl⟩
  have hTN : T ≤ N := by omega
  have hdv : (N : Int) / 20 = (H : Int) := by omega
  have hmu : (H : Int) * 20 = (T : Int) := by omega
  obtain ⟨m, hm⟩ : ∃ m, m0.take T = m := ⟨_, rfl⟩
  have hmT : m.length = T := by rw [← hm, List.length_take]; omega
  have hmn : ∀ s ∈ m, s < n := fun s hs => hms s (List.mem_of_mem_take (by rw [hm]; exact hs))
  have HM0 := Lib.hid hm
  have HM := Lib.hid hmT
  have HMS := Lib.hid hmn
  have HTH := Lib.hid hT
  have hH4 : H ≤ 4 := by omega
  obtain ⟨cz, hcz, hmk⟩ := run_make_ints n (by omega)
  have HCZ := Lib.hid hcz
  clear hi hr ha hn hpm hN hms hcz hm hmT hmn hH hT
  go_enter Try.func4, Try.ntmps4
  have E0 := Lib.hid (Env.nil w)
  go_wp2_with fail
  refine (awake11_any _).mono ?_
  rintro e w1 ⟨rfl, hB⟩
  have E1 := Lib.hid (E0.out.step hB)
  clear E0 hB  
  go_wp2_with fail
  refine (pick11_any many 19 _ hmany hmany' (by omega) (by omega)).mono ?_
  rintro e w_ ⟨rfl, rfl⟩
  rw [HA.out]
  go_wp2_with fail
  refine (CS.out _ _ (E1.out.old HI.out)).mono ?_
  rintro e w2 ⟨q2, c2, rfl, hv2, hB⟩
  have E3 := Lib.hid (E1.out.step hB)
  clear E1 hB CS HI
  obtain ⟨vk, hk1, ⟨qk, ck, hk2⟩, -, -, hk5⟩ := hv2.cut 0 T (Nat.zero_le _) hTN
  subst hk2
  rw [Nat.sub_zero] at hk1 hk5
  have hcut := hk5 rfl
  have hEq : (ints m0).take T = ints m := by rw [← HM0.out]; simp [ints, List.map_take]
  rw [List.drop_zero, hEq] at hk1
  have HV := Lib.hid hk1
  clear hk1 hk5 hEq hv2
  by_cases hT0 : T = 0
  · have hTi : ((T : Int) == 0) = true := by rw [beq_iff_eq]; omega
    clear hT0
    go_wp2_with fail
    go_ret
    exact ⟨rfl, E3.out.bel⟩
  have hTi : ((T : Int) == 0) = false := by rw [beq_eq_false_iff_ne]; omega
  have HMO : Hid (∀ i k x y a b, (oftF n (parTo m 0 (2 * H)))[i]? = some x → (oftF n (parTo m 0 (2 * H)))[k]? = some y → (tabF m n 0)[i]? = some a → (tabF m n 0)[k]? = some b → max y 1 < max x 1 → a ≤ b) := fun i k x y a b h1 h2 h3 h4 h5 => by
    have hc : cntG m.length = 2 * H := by unfold cntG; rw [HM.out]; have := HTH.out; omega
    unfold tabF at h3 h4
    rw [hc] at h3 h4
    exact lenF_mono _ (by rw [length_oftF]; exact hn2) (by rw [length_oftF]; exact hn20) i k x y a b h1 h2 h3 h4 h5
  have HTA : Hid ((tabF m n 0).length = n) := (tab_ok m n 0 (by rw [HM.out]; omega) hn2 (by omega)).2
  have HTB : Hid ((tabF m n 1).length = n) := (tab_ok m n 1 (by rw [HM.out]; omega) hn2 (by omega)).2
  have CT : Hid (∀ W u, IsInts W W.heap.size u (ints m) → Calls Try.prog 10 #[u, .int .i64 (n : Nat)] W fun e w' => ∃ (va vb : Value) (q : Option Addr) (c : Nat) (q2 : Option Addr) (n2 c2 : Nat), e = .returned (.tuple #[.slice q 2 c, .slice q2 n2 c2, .int .i64 0]) ∧ IsSl w' w'.heap.size (.slice q 2 c) [(va, ints (tabF m n 0)), (vb, ints (tabF m n 1))] ∧ Below W.heap.size W w') := fun W u h => (tables_ok W u m n h (by rw [HM.out]; omega) (by rw [HM.out]; omega) hn2 (by omega) HMS.out).mono fun e w' h => by
    obtain ⟨va, vb, q, c, q2, c2, h1, h2, _, h3⟩ := h
    exact ⟨va, vb, q, c, q2, _, c2, h1, h2, h3⟩
  have CU : Hid (∀ W u, IsInts W W.heap.size u (ints (turnTo m H)) → Calls Try.prog 10 #[u, .int .i64 (n : Nat)] W fun e w' => ∃ (va vb : Value) (q : Option Addr) (c : Nat) (q2 : Option Addr) (n2 c2 : Nat), e = .returned (.tuple #[.slice q 2 c, .slice q2 n2 c2, .int .i64 0]) ∧ IsSl w' w'.heap.size (.slice q 2 c) [(va, ints (tabF m n 1)), (vb, ints (tabF m n 0))] ∧ Below W.heap.size W w') := fun W u h => (tables_ok W u (turnTo m H) n h (by rw [length_turnTo m H (by rw [HM.out, HTH.out]; exact Nat.le_refl _)]; omega) (by rw [length_turnTo m H (by rw [HM.out, HTH.out]; exact Nat.le_refl _)]; omega) hn2 (by omega) (fun s hs => HMS.out s (turnTo_mem hs))).mono fun e w' h => by
    obtain ⟨va, vb, q, c, q2, c2, h1, h2, _, h3⟩ := h
    obtain ⟨e1, e2⟩ := tabF_turn m n H (by rw [HM.out]; exact HTH.out)
    rw [e1, e2] at h2
    exact ⟨va, vb, q, c, q2, _, c2, h1, h2, h3⟩
  generalize tabF m n 0 = A0 at *
  generalize tabF m n 1 = A1 at *
  have HEV := Lib.hid (evF_all m H (by rw [HM.out]; exact HTH.out))
  have HEN := Lib.hid (evF_yes m)
  have HEO := Lib.hid (evF_no m)
  have HEL := Lib.hid (length_evF m)
  have HTS := Lib.hid (fun h => turnTo_succ m h)
  have hB0 : Below w2.heap.size w2 w2 := Below.refl _ _
  have HB2 := Lib.hid hB0
  have hN80 : T ≤ 80 := by omega
  clear hB0 HM0
  go_wp2_with fail
  go_loopw [8, 9] (fun sv iv wr => ∃ (h t : Nat) (q : Option Addr) (c : Nat), h ≤ H ∧ iv = .int .i64 (t : Nat) ∧ sv = .slice q t c ∧ Hid (t = 20 * h) ∧ Hid (OwnInts wr w2.heap.size (.slice q t c) (ints (turnTo m h))) ∧ Hid (Below w2.heap.size w2 wr)) (fun _ iv _ => T + 1 - (intOf iv).toNat)
  case atStart => exact ⟨0, 0, none, 0, Nat.zero_le _, rfl, rfl, rfl, OwnInts.nil _ _, HB2.out⟩
  case round =>
    obtain ⟨h, t, q, c, hh, rfl, rfl, HT2, HOw, HB⟩ := hrel
    have hz0 := HB.out.size
    clear HB2
    by_cases hlt : t < T
    · obtain ⟨hb1, hb2⟩ : t + 20 ≤ T ∧ h + 1 ≤ H := by
        have h1 := HT2.out
        have h2 := HTH.out
        omega
      obtain ⟨v1, hc1, ⟨q1, c1, rfl⟩, hk1, -, -⟩ := HV.out.cut (t + 10) (t + 20) (by omega) hb1
      obtain ⟨v2, hc2, ⟨q5, c5, rfl⟩, hk2, -, -⟩ := HV.out.cut t (t + 10) (by omega) (by omega)
      rw [show t + 20 - (t + 10) = 10 by omega] at hc1 hk1
      rw [show t + 10 - t = 10 by omega] at hc2 hk2
      rw [show ((t + 20 : Nat) : Int) = (t : Int) + 20 by omega, show ((t + 10 : Nat) : Int) = (t : Int) + 10 by omega] at hk1
      rw [show ((t + 10 : Nat) : Int) = (t : Int) + 10 by omega] at hk2
      obtain ⟨L1, hL1⟩ : ∃ L1, ((ints m).take (t + 20)).drop (t + 10) = L1 := ⟨_, rfl⟩
      obtain ⟨L2, hL2⟩ : ∃ L2, ((ints m).take (t + 10)).drop t = L2 := ⟨_, rfl⟩
      rw [hL1] at hc1
      rw [hL2] at hc2
      have hl1 : L1.length = 10 := by rw [← hL1, List.length_drop, List.length_take, length_ints, HM.out]; omega
      have hl2 : L2.length = 10 := by rw [← hL2, List.length_drop, List.length_take, length_ints, HM.out]; omega
      obtain ⟨X, hX⟩ : ∃ X, ints (turnTo m h) = X := ⟨_, rfl⟩
      have hXl : X.length = t := by rw [← hX, length_ints, length_turnTo m h (by rw [HM.out, HTH.out]; omega)]; exact HT2.out.symm
      have hXX : ints (turnTo m (h + 1)) = X ++ L1 ++ L2 := by
        rw [HTS.out h, List.append_assoc]
        simp only [ints, List.map_append] at hX ⊢
        rw [hX]
        have e1 : List.map (fun a : Nat => (a : Int)) (grN m (2 * h + 1)) = L1 := by
          rw [← hL1, HT2.out]
          have := grp_ints m (2 * h + 1)
          unfold grp ints at this
          rw [← this]
          unfold ints
          rw [show 10 * (2 * h + 1) + 10 = 20 * h + 20 by omega, show 10 * (2 * h + 1) = 20 * h + 10 by omega]
        have e2 : List.map (fun a : Nat => (a : Int)) (grN m (2 * h)) = L2 := by
          rw [← hL2, HT2.out]
          have := grp_ints m (2 * h)
          unfold grp ints at this
          rw [← this]
          unfold ints
          rw [show 10 * (2 * h) = 20 * h by omega]
        rw [e1, e2]
      rw [hX] at HOw
      have HXX := Lib.hid hXX
      have H1 := Lib.hid hc1
      have H2 := Lib.hid hc2
      have HXL := Lib.hid hXl
      have HL1 := Lib.hid hl1
      have HL2 := Lib.hid hl2
      have hw1 : IntKind.i64.wrap ((t : Int) + 10) = (t : Int) + 10 := IntWalk.i64_in _ (by omega)
      have hw2 : IntKind.i64.wrap ((t : Int) + 20) = (t : Int) + 20 := IntWalk.i64_in _ (by omega)
      have hB0 : Below w2.heap.size w2 wr := HB.out
      clear hXX hc1 hc2 hXl hl1 hl2 hX hL1 hL2
      go_wp2_with fail
      go_region_held3 (fun w' => Below w2.heap.size w2 w')
        ((first | assumption | exact Below.drew (by assumption) | fail))
        ((first
          | (refine step_append_ints (by rfl) _ _ (by rfl) w2.heap.size (.slice q t c) X (by rfl) HOw.out _ _ L1 (by rfl) (ints_up H1.out (by assumption)) (by rw [HXL.out, HL1.out]; omega) (Below.size (by assumption)) ?_
             intro qa ca wa hown1 hg1 hat1
             have hWa : Below w2.heap.size w2 wa := bel_grown hg1 (by assumption) (fun k hk => own_ge HOw.out hk)
             rw [HXL.out, HL1.out] at hown1 ⊢
             have Hown1 := Lib.hid hown1
             clear hg1 hat1 hown1)
          | (refine step_append_ints (by rfl) _ _ (by rfl) w2.heap.size (.slice qa (t + 10) ca) (X ++ L1) (by rfl) Hown1.out _ _ L2 (by rfl) (ints_up H2.out (by assumption)) (by rw [List.length_append, HXL.out, HL1.out, HL2.out]; omega) (Below.size (by assumption)) ?_
             intro qb cb wb hown2 hg2 hat2
             have hWb : Below w2.heap.size w2 wb := bel_grown hg2 (by assumption) (fun k hk => own_ge Hown1.out hk)
             rw [show (X ++ L1).length + L2.length = t + 20 by rw [List.length_append, HXL.out, HL1.out, HL2.out] <;> omega] at hown2 ⊢
             have Hown2 := Lib.hid hown2
             clear hg2 hat2 hown2)
          | fail))
      all_goals
        go_wp2_with fail
        go_roundw
        case rel => exact ⟨h + 1, t + 20, _, _, hb2, by go_num, rfl, by show t + 20 = 20 * (h + 1); rw [HT2.out, Nat.mul_add], by show OwnInts _ _ _ (ints (turnTo m (h + 1))); rw [HXX.out]; exact Hown2.out, hWb⟩
        case measure => simp [intOf]; omega
    · obtain rfl : t = T := by
        have h1 := HT2.out
        have h2 := HTH.out
        omega
      obtain rfl : h = H := by
        have h1 := HT2.out
        have h2 := HTH.out
        omega
      have HVr : Hid (IsInts wr wr.heap.size (.slice qk t ck) (ints m)) := ints_up HV.out HB.out
      have HBr : Hid (Below w.heap.size w wr) := E3.out.bel.trans (HB.out.mono E3.out.bel.size)
      clear HV HB E3
      go_wp2_with fail
      refine (CT.out _ _ HVr.out).mono ?_
      rintro e w3 ⟨va, vb, q3, c3, q4, n4, c4, rfl, hTa, hB3⟩
      have HTa := Lib.hid hTa
      have HSw : Hid (IsInts w3 w3.heap.size (.slice q t c) (ints (turnTo m h))) := ints_up HOw.out.is hB3
      have HV3 : Hid (IsInts w3 w3.heap.size (.slice qk t ck) (ints m)) := ints_up HVr.out hB3
      have HB3 : Hid (Below w.heap.size w w3) := HBr.out.trans (hB3.mono HBr.out.size)
      clear hTa hB3 HOw HVr HBr CT
      go_wp2_with fail
      refine (CU.out _ _ HSw.out).mono ?_
      rintro e W ⟨va2, vb2, q6, c6, q7, n7, c7, rfl, hTb, hB4⟩
      have hTa := HTa.out.up hB4
      have HV4 : Hid (IsInts W W.heap.size (.slice qk t ck) (ints m)) := ints_up HV3.out hB4
      have HBf : Hid (Below w.heap.size w W) := HB3.out.trans (hB4.mono HB3.out.size)
      obtain ⟨g5, o5, hq, hg5, hca, hia⟩ := hTa.at 0 _ rfl
      obtain ⟨-, -, -, -, hcb, hib⟩ : ∃ g o, q3 = some ⟨g, o, none⟩ ∧ g < W.heap.size ∧ W.cell? ⟨g5, o5 + 1, none⟩ = some vb ∧ IsInts W W.heap.size vb (ints A1) := by
        obtain ⟨g, o, h1, h2, h3, h4⟩ := hTa.at 1 _ rfl
        rw [hq] at h1
        injection h1 with h1
        injection h1 with h1 h5
        subst h1 h5
        exact ⟨_, _, hq, h2, h3, h4⟩
      obtain ⟨g6, o6, hq6, hg6, hcc, hic⟩ := hTb.at 0 _ rfl
      obtain ⟨-, -, -, -, hcd, hid⟩ : ∃ g o, q6 = some ⟨g, o, none⟩ ∧ g < W.heap.size ∧ W.cell? ⟨g6, o6 + 1, none⟩ = some vb2 ∧ IsInts W W.heap.size vb2 (ints A0) := by
        obtain ⟨g, o, h1, h2, h3, h4⟩ := hTb.at 1 _ rfl
        rw [hq6] at h1
        injection h1 with h1
        injection h1 with h1 h5
        subst h1 h5
        exact ⟨_, _, hq6, h2, h3, h4⟩
      subst hq hq6
      rw [Nat.add_zero] at hca hcc
      dsimp only at hca hcc hia hic
      obtain ⟨qa, da, hva, -, -⟩ := hia.shape
      rw [length_ints, HTA.out] at hva
      subst hva
      obtain ⟨gm, om, hqm, hgm, -⟩ := HV4.out.at 0 (by rw [length_ints, HM.out]; omega)
      subst hqm
      have HIA := Lib.hid hia
      have HIB := Lib.hid hib
      have HIC := Lib.hid hic
      have HID := Lib.hid hid
      have HCA := Lib.hid hca
      have HkW : Hid (∀ w' : World, Below W.heap.size W w' → Below W.heap.size W w' ∧ w'.cell? ⟨g5, o5, none⟩ = some (.slice qa n da) ∧ w'.cell? ⟨g5, o5 + 1, none⟩ = some vb ∧ w'.cell? ⟨g6, o6, none⟩ = some va2 ∧ w'.cell? ⟨g6, o6 + 1, none⟩ = some vb2) := fun w' h => ⟨h, (h.cell (p := ⟨g5, o5, none⟩) hg5).trans hca, (h.cell (p := ⟨g5, o5 + 1, none⟩) hg5).trans hcb, (h.cell (p := ⟨g6, o6, none⟩) hg6).trans hcc, (h.cell (p := ⟨g6, o6 + 1, none⟩) hg6).trans hcd⟩
      have hbW : Below W.heap.size W W := Below.refl _ _
      obtain ⟨-, k0, k1, k2, k3⟩ := HkW.out W hbW
      clear hTa hTb hia hib hic hid hB4 hca hcb hcc hcd HSw HV3 HB3 HTa CU hg6
      go_wp2_with fail
      go_region_held3 (fun w' => Below W.heap.size W w' ∧ w'.cell? ⟨g5, o5, none⟩ = some (.slice qa n da) ∧ w'.cell? ⟨g5, o5 + 1, none⟩ = some vb ∧ w'.cell? ⟨g6, o6, none⟩ = some va2 ∧ w'.cell? ⟨g6, o6 + 1, none⟩ = some vb2)
        ((refine HkW.out _ ?_; first | assumption | exact bel_drew (by assumption) | exact bel_call (by assumption) (And.left (by assumption)) | fail))
        ((go_at_call 12
          first
          | (with_reducible show Calls Try.prog _ #[.slice qa n da, vb2] _ _
             refine (aw11_ints _ (.slice qa n da) vb2 (ints A0) ?_ ?_ (by rw [length_ints, HTA.out]; omega)).mono ?_
             · exact ints_up HIA.out (And.left (by assumption))
             · exact ints_up HID.out (And.left (by assumption))
             rintro e w8 ⟨rfl, hB8⟩
             have hW8 : Below W.heap.size W w8 := bel_call hB8 (And.left (by assumption))
             have hz8 := hW8.size)
          | (with_reducible show Calls Try.prog _ #[vb, va2] _ _
             refine (aw11_ints _ vb va2 (ints A1) ?_ ?_ (by rw [length_ints, HTB.out]; omega)).mono ?_
             · exact ints_up HIB.out (And.left (by assumption))
             · exact ints_up HIC.out (And.left (by assumption))
             rintro e w9 ⟨rfl, hB9⟩
             have hW9 : Below W.heap.size W w9 := bel_call hB9 (And.left (by assumption))
             have hz9 := hW9.size)
          | fail))
      have HB9 : Hid (Below W.heap.size W w9) := hW9
      clear HkW hbW k0 k1 k2 k3 HIB HIC HID HTB hW9 hW8
      go_wp2_with fail
      go_loopw [17] (fun iv wr => ∃ p : Nat, p ≤ t ∧ iv = .int .i64 p ∧ Hid (NumRow wr w9.heap.size (oftF n (evF m p))) ∧ Hid (Below W.heap.size W wr)) (fun iv _ => t + 1 - (intOf iv).toNat)
      case atStart => exact ⟨0, Nat.zero_le _, rfl, ⟨cz, heap_new _ _ _ rfl, by rw [HCZ.out]; simp [evF, parAt, parTo, oftF, incAll, ints]⟩, HB9.out.alloc hz9 _⟩
      case round =>
        clear hmk HB9
        obtain ⟨p, hp, rfl, HN, HB⟩ := hrel
        have hzr := HB.out.size
        by_cases hpt : p < t
        · obtain ⟨s, hs⟩ : ∃ s, m[p]? = some s := ⟨_, List.getElem?_eq_getElem (by rw [HM.out]; exact hpt)⟩
          have hsn := HMS.out s (List.mem_of_getElem? hs)
          obtain ⟨g7, o7, hq7, hg7, hx7⟩ := HV4.out.at p (by rw [length_ints, HM.out]; exact hpt)
          injection hq7 with hq7
          injection hq7 with e1 e2
          subst e1 e2
          rw [show (ints m)[p]?.getD 0 = (s : Int) by simp [ints, hs]] at hx7
          have hx8 := (HB.out.cell (p := ⟨gm, om + p, none⟩) hg7).trans hx7
          obtain ⟨dq, hdq⟩ : ∃ dq, p / 10 = dq := ⟨_, rfl⟩
          have hd1 : (p : Int).tdiv 10 = (dq : Int) := by rw [Int.tdiv_eq_ediv_of_nonneg (by omega)]; omega
          have hd2 : (p : Int) / 10 = (dq : Int) := by omega
          have hdl : dq ≤ 8 := by omega
          obtain ⟨x, hx⟩ : ∃ x, (evF m p).count s = x := ⟨_, rfl⟩
          have hxl : x ≤ 200 := by
            have h1 : (evF m p).count s ≤ (evF m p).length := List.count_le_length
            have h2 := HEL.out p
            omega
          have hcx := HN.out.cell s x (by rw [oftF_get n _ s hsn, hx])
          have hfx := HN.out.frozen s
          clear hx7
          rcases Nat.mod_two_eq_zero_or_one dq with hpa | hpa
          · have hrem : (dq : Int).tmod 2 = 0 := by rw [Int.tmod_eq_emod_of_nonneg (by omega)]; omega
            have HN2 : Hid (NumRow (wr.setCell ⟨w9.heap.size, s, none⟩ (.int .i64 ((x + 1 : Nat) : Int))) w9.heap.size (oftF n (evF m (p + 1)))) := by
              have := HN.out.set s (x + 1)
              rw [← hx, ← oftF_snoc n _ s hsn, ← HEN.out p s (by rw [hdq]; exact hpa) hs, hx] at this
              exact this
            have HB2 : Hid (Below W.heap.size W (wr.setCell ⟨w9.heap.size, s, none⟩ (.int .i64 ((x + 1 : Nat) : Int)))) := HB.out.setCell (p := ⟨w9.heap.size, s, none⟩) hz9 _
            have hyw : Hid (((x + 1 : Nat) : Int) = (x : Int) + 1) := by show _ = _; omega
            clear hx hs hdq hpa
            go_wp2_with fail
            go_roundw
            case rel => exact ⟨p + 1, by omega, by go_num, by rw [← hyw.out]; exact HN2, by rw [← hyw.out]; exact HB2⟩
            case measure => simp [intOf]; omega
          · have hrem : (dq : Int).tmod 2 = 1 := by rw [Int.tmod_eq_emod_of_nonneg (by omega)]; omega
            have HN2 : Hid (NumRow wr w9.heap.size (oftF n (evF m (p + 1)))) := by
              rw [HEO.out p (by rw [hdq]; omega)]
              exact HN
            clear hx hs hdq hpa
            go_wp2_with fail
            go_roundw
            case rel => exact ⟨p + 1, by omega, by go_num, HN2, HB⟩
            case measure => simp [intOf]; omega
        · obtain rfl : p = t := by omega
          have HX : Hid (IsInts wr wr.heap.size (.slice (some ⟨w9.heap.size, 0, none⟩) n n) (ints (oftF n (parTo m 0 (2 * h))))) := by
            have := HN.out.ints n n (Nat.le_refl _) (by simp [maxLen]; omega) (by rw [length_oftF]; exact Nat.le_refl _)
            have h1 := HEV.out
            rw [HM.out] at h1
            rw [List.take_of_length_le (by rw [length_oftF]; exact Nat.le_refl _), h1] at this
            exact this
          have hXl : (oftF n (parTo m 0 (2 * h))).length = n := length_oftF _ _
          have HAr : Hid (IsInts wr wr.heap.size (.slice qa n da) (ints A0)) := ints_up HIA.out HB.out
          have HCr := Lib.hid ((HB.out.cell (p := ⟨g5, o5, none⟩) hg5).trans HCA.out)
          have hg5r : g5 < wr.heap.size := by omega
          have HBr : Hid (Below w.heap.size w wr) := HBf.out.trans (HB.out.mono HBf.out.size)
          generalize oftF n (parTo m 0 (2 * h)) = X at *
          have HXL := Lib.hid hXl
          obtain ⟨Y, hY⟩ : ∃ Y, wr = Y := ⟨_, rfl⟩
          rw [hY] at HX HAr HCr hg5r HBr ⊢
          have hbY : Below Y.heap.size Y Y := Below.refl _ _
          have HbY := Lib.hid hbY
          clear hXl HN HB hY hbY HEV HEN HEO HEL HV4 HIA HCA HBf HM HMS hzr
          go_wp2_with fail
          go_loopw [18] (fun iv wr => ∃ i : Nat, i ≤ n ∧ iv = .int .i64 i ∧ Hid (Below Y.heap.size Y wr)) (fun iv _ => n + 1 - (intOf iv).toNat)
          case atStart => exact ⟨0, Nat.zero_le _, rfl, HbY⟩
          case round =>
            obtain ⟨i, hi, rfl, HBi⟩ := hrel
            clear HbY
            by_cases hin : i < n
            · obtain ⟨x, hx⟩ : ∃ x, X[i]? = some x := ⟨_, List.getElem?_eq_getElem (by rw [HXL.out]; exact hin)⟩
              obtain ⟨a, ha⟩ : ∃ a, A0[i]? = some a := ⟨_, List.getElem?_eq_getElem (by rw [HTA.out]; exact hin)⟩
              have HXI := Lib.hid hx
              have HAI := Lib.hid ha
              clear hx ha
              go_wp2_with fail
              go_loopw [19] (fun kv wr => ∃ k : Nat, k ≤ n ∧ kv = .int .i64 k ∧ Hid (Below Y.heap.size Y wr)) (fun kv _ => n + 1 - (intOf kv).toNat)
              case atStart => exact ⟨0, Nat.zero_le _, rfl, HBi⟩
              case round =>
                obtain ⟨k, hk, rfl, HBk⟩ := hrel
                clear HBi
                by_cases hkn : k < n
                · obtain ⟨y, hy⟩ : ∃ y, X[k]? = some y := ⟨_, List.getElem?_eq_getElem (by rw [HXL.out]; exact hkn)⟩
                  obtain ⟨b, hb⟩ : ∃ b, A0[k]? = some b := ⟨_, List.getElem?_eq_getElem (by rw [HTA.out]; exact hkn)⟩
                  have hmo := HMO.out k i y x b a hy HXI.out hb HAI.out
                  obtain ⟨g1, o1, e1, hg1, hx1⟩ := (ints_up HX.out HBk.out).at i (by rw [length_ints, HXL.out]; exact hin)
                  obtain ⟨g2, o2, e2, hg2, hx2⟩ := (ints_up HX.out HBk.out).at k (by rw [length_ints, HXL.out]; exact hkn)
                  obtain ⟨g3, o3, e3, hg3, hx3⟩ := (ints_up HAr.out HBk.out).at i (by rw [length_ints, HTA.out]; exact hin)
                  obtain ⟨g4, o4, e4, hg4, hx4⟩ := (ints_up HAr.out HBk.out).at k (by rw [length_ints, HTA.out]; exact hkn)
                  injection e1 with e1
                  injection e1 with e1 e1'
                  subst e1 e1'
                  injection e2 with e2
                  injection e2 with e2 e2'
                  subst e2 e2'
                  subst e3
                  injection e4 with e4
                  injection e4 with e4 e4'
                  subst e4 e4'
                  rw [show (ints X)[i]?.getD 0 = (x : Int) by simp [ints, HXI.out], Nat.zero_add] at hx1
                  rw [show (ints X)[k]?.getD 0 = (y : Int) by simp [ints, hy], Nat.zero_add] at hx2
                  rw [show (ints A0)[i]?.getD 0 = (a : Int) by simp [ints, HAI.out]] at hx3
                  rw [show (ints A0)[k]?.getD 0 = (b : Int) by simp [ints, hb]] at hx4
                  have hcr := (HBk.out.cell (p := ⟨g5, o5, none⟩) hg5r).trans HCr.out
                  clear hy hb
                  by_cases hx0 : x = 0
                  · subst hx0
                    by_cases hy1 : 1 < y
                    · have d1 : decide (1 < (y : Int)) = true := decide_eq_true (by omega)
                      have d2 : decide (1 < y) = true := decide_eq_true hy1
                      have hab : b ≤ a := hmo (by omega)
                      have d3 : decide ((a : Int) < (b : Int)) = false := decide_eq_false (by omega)
                      have d4 : decide (a < b) = false := decide_eq_false (by omega)
                      clear hmo hy1 hab
                      go_wp2_with fail
                      go_quiet (fail)
                      go_wp2_with fail
                      go_roundw
                      case rel => exact ⟨k + 1, by omega, by go_num, below_drewN HBk.out _⟩
                      case measure => simp [intOf]; omega
                    · have d1 : decide (1 < (y : Int)) = false := decide_eq_false (by omega)
                      have d2 : decide (1 < y) = false := decide_eq_false hy1
                      clear hmo hy1
                      go_wp2_with fail
                      go_quiet (fail)
                      go_wp2_with fail
                      go_roundw
                      case rel => exact ⟨k + 1, by omega, by go_num, below_drewN HBk.out _⟩
                      case measure => simp [intOf]; omega
                  · have d1 : ((x : Int) == 0) = false := by rw [beq_eq_false_iff_ne]; omega
                    have d2 : (x == 0) = false := by rw [beq_eq_false_iff_ne]; exact hx0
                    clear hmo hx0
                    go_wp2_with fail
                    go_quiet (fail)
                    go_wp2_with fail
                    go_roundw
                    case rel => exact ⟨k + 1, by omega, by go_num, below_drewN HBk.out _⟩
                    case measure => simp [intOf]; omega
                · obtain rfl : k = n := by omega
                  go_wp2_with fail
                  go_roundw
                  case rel => exact ⟨i + 1, by omega, by go_num, HBk⟩
                  case measure => simp [intOf]; omega
            · go_wp2_with fail
              go_ret
              exact ⟨rfl, HBr.out.trans (HBi.out.mono HBr.out.size)⟩
end Go.Proofs.Ytodniacnjdnffaa
