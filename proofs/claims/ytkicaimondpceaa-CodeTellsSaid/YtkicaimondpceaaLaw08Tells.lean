/- CodeTells: the walk. -/
import Derived.Test.YtkicaimondpceaaTells08
import Derived.Test.YtkicaimondpceaaAwake08
import Derived.Deep.CutRange
import Derived.Deep.DeepCutAuto
namespace Go.Proofs.Ytkicaimondpceaa
open Go.RowKit
set_option linter.unusedVariables false

set_option maxRecDepth 100000 in
set_option maxHeartbeats 12800000 in
theorem ctells_walk (w : World) (u v y : Value) (sm raw sy : List Int) (s : ByteArray) (which x at0 : Int) (hu : IsInts w w.heap.size u sm) (hv : IsInts w w.heap.size v raw) (hr : I64s raw) (hy : IsInts w w.heap.size y sy) (hsy : I64s sy) (hs : s.size ≤ 9223372036854775807) (hk : -9223372036854775808 ≤ which) (hk' : which ≤ 9223372036854775807) (hx : -9223372036854775808 ≤ x) (hx' : x ≤ 9223372036854775807) (hat : -9223372036854775808 ≤ at0) (hat' : at0 ≤ 9223372036854775807) :
    Calls Try.prog 3 #[u, v, .int .i64 which, .int .i64 x, y, .string s, .int .i64 at0] w fun e w' => e = .returned (.bool true) ∧ Below w.heap.size w w' := by
  have HUW := Lib.hid hu
  have HRW := Lib.hid hv
  have HYW := Lib.hid hy
  have HR := Lib.hid hr
  obtain ⟨L, hL⟩ : ∃ L : Nat, L = min s.size 20 := ⟨_, rfl⟩
  have hL1 : (if (20 : Int) < s.size then 20 else (s.size : Int)) = L := by rw [hL]; split <;> omega
  have hL2 : L ≤ s.size := by omega
  have hL3 : L ≤ 20 := by omega
  have hfr := front_size s L hL2
  unfold front at hfr
  obtain ⟨As, cas, rfl, hcs1, hcs2⟩ := hu.shape
  unfold maxLen at hcs2
  obtain ⟨NS, hNS⟩ : ∃ n, sm.length = n := ⟨_, rfl⟩
  rw [hNS] at HUW hcs1 ⊢
  obtain ⟨K, hK⟩ : ∃ K : Nat, K = min NS 300 := ⟨_, rfl⟩
  have hK1 : (if (300 : Int) < NS then 300 else (NS : Int)) = K := by rw [hK]; split <;> omega
  have hKn : K ≤ NS := by omega
  have hK3 : K ≤ 300 := by omega
  obtain ⟨P1, hP1⟩ : ∃ P, sm.take K = P := ⟨_, rfl⟩
  have hPl : P1.length = K := by rw [← hP1, List.length_take]; omega
  obtain ⟨Ay, cay, rfl, hcy1, hcy2⟩ := hy.shape
  unfold maxLen at hcy2
  obtain ⟨NY, hNY⟩ : ∃ n, sy.length = n := ⟨_, rfl⟩
  rw [hNY] at HYW hcy1 ⊢
  obtain ⟨M, hM⟩ : ∃ K : Nat, K = min NY 20 := ⟨_, rfl⟩
  have hM1 : (if (20 : Int) < NY then 20 else (NY : Int)) = M := by rw [hM]; split <;> omega
  have hMn : M ≤ NY := by omega
  have hM3 : M ≤ 20 := by omega
  obtain ⟨Q1, hQ1⟩ : ∃ P, sy.take M = P := ⟨_, rfl⟩
  have hQl : Q1.length = M := by rw [← hQ1, List.length_take]; omega
  have hQr : I64s Q1 := by rw [← hQ1]; exact hsy.take M
  have HP1 := Lib.hid hP1
  have HQ1 := Lib.hid hQ1
  have HQr := Lib.hid hQr
  obtain ⟨b, hb⟩ : ∃ k : Nat, pickF at0 180 = (k : Int) := ⟨(pickF at0 180).toNat, by have := pickF_lt at0 180 (by omega); omega⟩
  have hb20 : b < 180 := by have := pickF_lt at0 180 (by omega); omega
  have CB : Hid (∀ W, Calls Try.prog 12 #[.int .i64 at0, .int .i64 180] W fun e w' => e = .returned (.int .i64 (b : Nat)) ∧ W = w') := fun W => by
    have := pick08_any at0 180 W hat hat' (by omega) (by omega)
    rw [hb] at this; exact this
  obtain ⟨z, hz⟩ : ∃ k : Nat, pickF x 20 = (k : Int) := ⟨(pickF x 20).toNat, by have := pickF_lt x 20 (by omega); omega⟩
  have hz20 : z < 20 := by have := pickF_lt x 20 (by omega); omega
  have CZ : Hid (∀ W, Calls Try.prog 12 #[.int .i64 x, .int .i64 20] W fun e w' => e = .returned (.int .i64 (z : Nat)) ∧ W = w') := fun W => by
    have := pick08_any x 20 W hx hx' (by omega) (by omega)
    rw [hz] at this; exact this
  clear hu hv hr hy hsy hL hNS hK hP1 hNY hM hQ1 hQr hb hz
  go_enter Try.func3, Try.ntmps3
  have E0 := Lib.hid (Env.nil w)
  go_wp2_with fail
  refine (awake08_any _).mono ?_
  rintro e w1 ⟨rfl, hB⟩
  have E1 := Lib.hid (E0.out.step hB)
  clear E0 hB
  go_wp2_with fail
  refine (lens08_is _ _ raw 40 (E1.out.old HRW.out) HR.out (by omega) (by omega)).mono ?_
  rintro e w2 ⟨l, q1, c1, rfl, hv, hcode, hl40, hB⟩
  have E2 := Lib.hid ((E1.out.step hB).add hv)
  clear E1 hB hv
  obtain ⟨n, hn⟩ : ∃ n, l.length = n := ⟨_, rfl⟩
  have HN := Lib.hid hn
  have Hcode := Lib.hid hcode
  have hn2 := hcode.two
  rw [hn] at E2 hl40 hn2 ⊢
  clear hn hcode
  obtain ⟨p, hp⟩ : ∃ k : Nat, pickF which n = (k : Int) := ⟨(pickF which n).toNat, by have := pickF_lt which n (by omega); omega⟩
  have hpn : p < n := by have := pickF_lt which n (by omega); omega
  have CP : Hid (∀ W, Calls Try.prog 12 #[.int .i64 which, .int .i64 (n : Int)] W fun e w' => e = .returned (.int .i64 (p : Nat)) ∧ W = w') := fun W => by
    have := pick08_any which n W hk hk' (by omega) (by omega)
    rw [hp] at this; exact this
  clear hp
  go_wp2_with
    (at_builtin
     refine wpList_append_ints rfl _ _ rfl w2.heap.size (.slice none 0 0) [] rfl (OwnInts.nil _ _) w2.heap.size _ (ints l) rfl (E2.out.get 0 rfl) (by rw [length_ints, HN.out]; simp; omega) (Nat.le_refl _) ?_
     intro q2 c2 w3 hown1 hg1 hat1
     rw [show ([] : List Int).length + (ints l).length = n by rw [length_ints, HN.out]; exact Nat.zero_add _] at hown1 ⊢
     rw [List.nil_append] at hown1
     have Hown1 := Lib.hid hown1
     have HB1 : Hid (Below w2.heap.size w2 w3) := bel_grown hg1 (Below.refl _ _) (fun k hk => by simp [Value.ownBlock] at hk)
     clear hown1 hat1 hg1)
  refine (CP.out _).mono ?_
  rintro e w_ ⟨rfl, rfl⟩
  obtain ⟨tb, tcap, he, ht1, ht2, ht3, ht4, ht5⟩ := Hown1.out.place (by rw [length_ints, HN.out]; omega)
  rw [length_ints, HN.out] at he
  injection he with he1 he2 he3
  subst he1
  subst he3
  have hcc := ht3 p (by rw [length_ints, HN.out]; omega)
  have hff := ht4 p
  have H5 := ht5 p x
  rw [length_ints, HN.out] at H5
  have E3 : Hid (Env w (w3.setCell ⟨tb, p, none⟩ (.int .i64 x)) [(.slice (some ⟨tb, 0, none⟩) n c2, (ints l).set p x), (.slice q1 n c1, ints l)] []) := (E2.out.step (OwnInts.set_below HB1.out ht1 p _)).add H5.1.is
  clear ht3 ht4 ht5 H5 CP
  go_wp2_with fail
  generalize w3.setCell ⟨tb, p, none⟩ (.int .i64 x) = W at *
  clear hcc hff ht1 ht2 Hown1 HB1 E2
  obtain ⟨vk, hk1, ⟨qk, ck, hk2⟩, hk3, hk4, hk5⟩ := (E3.out.old HUW.out).cut 0 K (Nat.zero_le _) hKn
  subst hk2
  rw [Nat.sub_zero] at hk1 hk3 hk4 hk5
  have hcut := hk5 rfl
  have E4 := Lib.hid (E3.out.add (by rw [List.drop_zero, HP1.out] at hk1; exact hk1))
  clear hk1 hk3 hk4 hk5 E3 HUW
  have hbW : Below W.heap.size W W := Below.refl _ _
  have hwz : IntKind.i64.wrap (1 + (z : Int)) = 1 + (z : Int) := IntWalk.i64_in _ (by omega)
  go_cut [71, 72, 73] (fun sa sb sc wx => ∃ (k nb : Nat) (qb : Option Addr) (cb : Nat), nb = n + 1 ∧ sa = .slice (some ⟨k, 0, none⟩) 4 4 ∧ sb = .int .i64 4 ∧ sc = .int .i64 0 ∧ Env w wx [(.slice qb nb cb, ints l ++ [1 + (z : Int)]), (.slice qk K ck, P1), (.slice (some ⟨tb, 0, none⟩) n c2, (ints l).set p x), (.slice q1 n c1, ints l)] [(k, #[.slice qk K ck, .slice q1 n c1, .slice (some ⟨tb, 0, none⟩) n c2, .slice qb nb cb], 22)])
  case first =>
    go_region_held3 (fun w' => Below W.heap.size W w')
      ((first | assumption | exact bel_drew (by assumption) | exact bel_alloc (by assumption) _ | fail))
      ((first
        | (go_at_call 12
           refine (CZ.out _).mono ?_
           rintro e w_ ⟨rfl, rfl⟩)
        | (refine step_append_ints (by rfl) _ _ (by rfl) W.heap.size (.slice none 0 0) [] (by rfl) (OwnInts.nil _ _) _ _ (ints l) (by rfl) (ints_up (E4.out.get 2 rfl) (by assumption)) (by rw [length_ints, HN.out]; simp; omega) (bel_size (by assumption)) ?_
           intro qa ca wa hown1 hg1 hat1
           have hWa : Below W.heap.size W wa := bel_grown hg1 (by assumption) (fun k hk => by simp [Value.ownBlock] at hk)
           have hza := hWa.size
           simp only [List.length_nil, Nat.zero_add, List.nil_append] at hown1
           rw [show ([] : List Int).length + (ints l).length = (ints l).length from Nat.zero_add _]
           have Hown1 := Lib.hid hown1
           clear hg1 hat1 hown1)
        | (refine step_append_two (by rfl) _ _ (by rfl) W.heap.size _ (ints l) (by rfl) (Hown1.out.alloc _) [1 + (z : Int)] ⟨_, _, rfl, lit_of_heap (heap_new wa _ _ rfl)⟩ (by rw [length_ints, HN.out]; simp; omega) (bel_size (by assumption)) ?_
           intro qb cb wb hown2 hg2 hat2
           have hWb : Below W.heap.size W wb := bel_grown hg2 (by assumption) (fun k hk => own_ge Hown1.out hk)
           have hzb := hWb.size
           have Hown2 := Lib.hid hown2
           clear hg2 hat2 hown2)
        | fail))
    all_goals
      go_wp2_with fail
      go_meet
      exact ⟨_, (ints l).length + 1, _, _, by rw [length_ints, HN.out], rfl, rfl, rfl, ((E4.out.step hWb).add Hown2.out.is).box _ _ _ rfl⟩
  case rest =>
    obtain ⟨bl, nb, qb, cb, rfl, rfl, rfl, rfl, hE⟩ := hcut
    have E5 := Lib.hid hE
    clear hE E4 hcut CZ hbW hwz
    go_wp2_with fail
    have CS : Hid (∀ W, IsInts W W.heap.size v raw → Calls Try.prog 17 #[v, .int .i64 (n : Nat), .int .i64 20] W fun e w' => ∃ q c, e = .returned (.slice q (symsF raw n 20).length c) ∧ IsInts w' w'.heap.size (.slice q (symsF raw n 20).length c) (ints (symsF raw n 20)) ∧ Below W.heap.size W w') := fun W h => syms_is W v raw n 20 h HR.out (by omega) (by omega) (by omega)
    have hSl := symsF_len raw n 20
    have hSr : I64s (ints (symsF raw n 20)) := fun a ha => by
      simp only [ints, List.mem_map] at ha
      obtain ⟨b, hb, rfl⟩ := ha
      have := symsF_lt raw n 20 (by omega) b hb
      omega
    have HSr := Lib.hid hSr
    obtain ⟨Y, hY⟩ : ∃ Y, ints (symsF raw n 20) = Y := ⟨_, rfl⟩
    obtain ⟨ny, hny⟩ : ∃ ny, (symsF raw n 20).length = ny := ⟨_, rfl⟩
    have hYl : Y.length = ny := by rw [← hY, length_ints, hny]
    rw [hY] at CS HSr
    rw [hny] at CS hSl
    have HYl := Lib.hid hYl
    obtain ⟨t, ht⟩ : ∃ t, s.extract 0 L = t := ⟨_, rfl⟩
    rw [ht] at hfr ⊢
    have htl : t.size ≤ 20 := by omega
    clear hSr hY hny ht hYl
    go_loopw [73] (fun iv wr => ∃ j : Nat, j ≤ 4 ∧ iv = .int .i64 j ∧ Env w wr [(.slice qb (n + 1) cb, ints l ++ [1 + (z : Int)]), (.slice qk K ck, P1), (.slice (some ⟨tb, 0, none⟩) n c2, (ints l).set p x), (.slice q1 n c1, ints l)] [(bl, #[.slice qk K ck, .slice q1 n c1, .slice (some ⟨tb, 0, none⟩) n c2, .slice qb (n + 1) cb], 22)]) (fun iv _ => 5 - (intOf iv).toNat)
    case atStart => exact ⟨0, by omega, rfl, E5.out⟩
    case round =>
      obtain ⟨j, hj, rfl, hE⟩ := hrel
      have HE := Lib.hid hE
      clear hE E5
      by_cases hlt : j < 4
      · obtain ⟨q, k, c, X, hcell, hI, hXl⟩ : ∃ (q : Option Addr) (k c : Nat) (X : List Int), wr.cell? ⟨bl, j, none⟩ = some (.slice q k c) ∧ IsInts wr wr.heap.size (.slice q k c) X ∧ X.length ≤ 1000 := by
          rcases (show j = 0 ∨ j = 1 ∨ j = 2 ∨ j = 3 by omega) with rfl | rfl | rfl | rfl
          · exact ⟨_, _, _, _, HE.out.cellv 0 rfl 0 _ rfl, HE.out.get 1 rfl, by omega⟩
          · exact ⟨_, _, _, _, HE.out.cellv 0 rfl 1 _ rfl, HE.out.get 3 rfl, by rw [length_ints, HN.out]; omega⟩
          · exact ⟨_, _, _, _, HE.out.cellv 0 rfl 2 _ rfl, HE.out.get 2 rfl, by rw [List.length_set, length_ints, HN.out]; omega⟩
          · exact ⟨_, _, _, _, HE.out.cellv 0 rfl 3 _ rfl, HE.out.get 0 rfl, by rw [List.length_append, length_ints, HN.out]; simp; omega⟩
        obtain ⟨nw, La, Lb, e0, hnw, CW1, CW2, CC1, CC2⟩ := words8 X (by omega)
        obtain ⟨d1, n1, e1, CP1, CR1⟩ := puts8 X Q1 (by omega) (by omega) HQr.out
        obtain ⟨d2, n2, e2, CP2, CR2⟩ := puts8 X Y (by omega) (by rw [HYl.out]; omega) HSr.out
        have HT := Lib.hid (fun i : Int => takes8 X t i (by omega) (by omega))
        have CW1 := Lib.hid CW1
        have CW2 := Lib.hid CW2
        have CC1 := Lib.hid CC1
        have CC2 := Lib.hid CC2
        have HP1 := Lib.hid CP1
        have HP2 := Lib.hid CP2
        have HR1 := Lib.hid CR1
        have HR2 := Lib.hid CR2
        clear CP1 CP2 CR1 CR2
        have E11 := Lib.hid (HE.out.add hI)
        clear HE hI
        go_wp2_with fail
        refine (CW1.out _ _ (E11.out.get 0 rfl)).mono ?_
        rintro en w4 ⟨u1, rfl, hu1, hB⟩
        have E12 := Lib.hid (E11.out.step hB)
        obtain ⟨A1, cc1, rfl, hw1⟩ := hu1
        have HU1 : Hid (WRow w4 (.slice A1 nw cc1) nw La Lb) := ⟨A1, cc1, rfl, hw1⟩
        clear hB E11 hcell hw1 CW1
        go_wp2_with fail
        refine (CW2.out _ _ (E12.out.get 0 rfl)).mono ?_
        rintro en w5 ⟨u2, rfl, hu2, hB⟩
        have E13 := Lib.hid (E12.out.step hB)
        obtain ⟨A2, cc2, rfl, hw2⟩ := hu2
        have HU2 : Hid (WRow w5 (.slice A2 nw cc2) nw La Lb) := ⟨A2, cc2, rfl, hw2⟩
        have HU3 := Lib.hid (HU1.out.up hB)
        clear hB E12 hw2 CW2 HU1
        go_wp2_with fail
        refine (CC1.out _ _ (E13.out.get 0 rfl)).mono ?_
        rintro en w6 ⟨rfl, hB⟩
        have E14 := Lib.hid (E13.out.step hB)
        have HU4 := Lib.hid (HU2.out.up hB)
        have HU5 := Lib.hid (HU3.out.up hB)
        clear hB E13 CC1 HU2 HU3
        go_wp2_with fail
        refine (CC2.out _ _ (E14.out.get 0 rfl)).mono ?_
        rintro en w_ ⟨rfl, rfl⟩
        clear CC2
        go_wp2_with fail
        go_loopw [25] (fun iv wr => ∃ i : Nat, i ≤ nw ∧ iv = .int .i64 i ∧ Hid (WRow wr (.slice A1 nw cc1) nw La Lb) ∧ Hid (WRow wr (.slice A2 nw cc2) nw La Lb) ∧ Hid (Env w wr [(.slice q k c, X), (.slice qb (n + 1) cb, ints l ++ [1 + (z : Int)]), (.slice qk K ck, P1), (.slice (some ⟨tb, 0, none⟩) n c2, (ints l).set p x), (.slice q1 n c1, ints l)] [(bl, #[.slice qk K ck, .slice q1 n c1, .slice (some ⟨tb, 0, none⟩) n c2, .slice qb (n + 1) cb], 22)])) (fun iv _ => nw + 1 - (intOf iv).toNat)
        case atStart => exact ⟨0, Nat.zero_le _, rfl, HU5, HU4, E14⟩
        case round =>
          clear HU5 HU4 E14
          obtain ⟨i, hi, rfl, H1, H2, HE⟩ := hrel
          by_cases hit : i < nw
          · obtain ⟨_, _, he, hw⟩ := H1.out
            injection he with he1 he2 he3
            obtain ⟨g1, hg1, hz1, k10, k11⟩ := hw i hit
            rw [← he1] at hg1
            subst hg1
            obtain ⟨_, _, he', hw'⟩ := H2.out
            injection he' with he1' he2' he3'
            obtain ⟨g2, hg2, hz2, k20, k21⟩ := hw' i hit
            rw [← he1'] at hg2
            subst hg2
            clear hw hw' he1 he2 he3 he1' he2' he3'
            go_wp2_with fail
            go_quiet (fail)
            go_wp2_with fail
            go_roundw
            case rel => exact ⟨i + 1, by omega, by go_num, H1.out.up (below_drewN (Below.refl _ _) _), H2.out.up (below_drewN (Below.refl _ _) _), HE.out.drewN _⟩
            case measure => simp [intOf]; omega
          · obtain rfl : i = nw := by omega
            clear H1 H2
            go_wp2_with fail
            obtain ⟨vk, hk1, ⟨qm, cm, hk2⟩, hk3, hk4, hk5⟩ := (HE.out.old HYW.out).cut 0 M (Nat.zero_le _) hMn
            subst hk2
            rw [Nat.sub_zero] at hk1 hk3 hk4 hk5
            have hcut := hk5 rfl
            have E4 := Lib.hid (HE.out.add (by rw [List.drop_zero, HQ1.out] at hk1; exact hk1))
            clear hk1 hk3 hk4 hk5 HE
            have hbW : Below wr.heap.size wr wr := Below.refl _ _
            go_cut [128, 129, 130] (fun sa sb sc wx => ∃ (bm : Nat) (q9 : Option Addr) (c9 : Nat), sa = .slice (some ⟨bm, 0, none⟩) 2 2 ∧ sb = .int .i64 2 ∧ sc = .int .i64 0 ∧ Env w wx [(.slice q9 ny c9, Y), (.slice qm M cm, Q1), (.slice q k c, X), (.slice qb (n + 1) cb, ints l ++ [1 + (z : Int)]), (.slice qk K ck, P1), (.slice (some ⟨tb, 0, none⟩) n c2, (ints l).set p x), (.slice q1 n c1, ints l)] [(bm, #[.slice qm M cm, .slice q9 ny c9], 22), (bl, #[.slice qk K ck, .slice q1 n c1, .slice (some ⟨tb, 0, none⟩) n c2, .slice qb (n + 1) cb], 22)])
            case first =>
              go_region_held3 (fun w' => Below wr.heap.size wr w')
                ((first | assumption | exact bel_drew (by assumption) | exact bel_alloc (by assumption) _ | exact hW9 | fail))
                ((first
                  | (go_at_call 17
                     refine (CS.out _ (ints_up (E4.out.old HRW.out) (by assumption))).mono ?_
                     rintro e w9 ⟨q9, c9, rfl, hv9, hB9⟩
                     have hW9 : Below wr.heap.size wr w9 := bel_call hB9 (by assumption)
                     have E9 := Lib.hid ((E4.out.step hW9).add hv9)
                     clear hv9 hB9)
                  | fail))
              all_goals
                go_wp2_with fail
                go_meet
                exact ⟨_, _, _, rfl, rfl, rfl, E9.out.box _ _ _ rfl⟩
            case rest =>
              obtain ⟨bm, q9, c9, rfl, rfl, rfl, hE⟩ := hcut
              have E5 := Lib.hid hE
              clear hE E4 hcut hbW
              go_wp2_with fail
              go_loopw [130] (fun iv wr => ∃ j2 : Nat, j2 ≤ 2 ∧ iv = .int .i64 j2 ∧ Env w wr [(.slice q9 ny c9, Y), (.slice qm M cm, Q1), (.slice q k c, X), (.slice qb (n + 1) cb, ints l ++ [1 + (z : Int)]), (.slice qk K ck, P1), (.slice (some ⟨tb, 0, none⟩) n c2, (ints l).set p x), (.slice q1 n c1, ints l)] [(bm, #[.slice qm M cm, .slice q9 ny c9], 22), (bl, #[.slice qk K ck, .slice q1 n c1, .slice (some ⟨tb, 0, none⟩) n c2, .slice qb (n + 1) cb], 22)]) (fun iv _ => 3 - (intOf iv).toNat)
              case atStart => exact ⟨0, by omega, rfl, E5.out⟩
              case round =>
                clear E5
                obtain ⟨j2, hj2, rfl, hE⟩ := hrel
                have HE := Lib.hid hE
                clear hE
                by_cases hlt2 : j2 < 2
                · obtain ⟨q7, k7, c7, X7, d, nn, e, hcell, hI, CP, CR⟩ : ∃ (q7 : Option Addr) (k7 c7 : Nat) (X7 : List Int) (d : ByteArray) (nn e : Int), wr.cell? ⟨bm, j2, none⟩ = some (.slice q7 k7 c7) ∧ IsInts wr wr.heap.size (.slice q7 k7 c7) X7 ∧
                      Hid (∀ (W : World) (v u : Value), IsInts W W.heap.size v X → IsInts W W.heap.size u X7 → Calls Try.prog 18 #[v, u] W fun en w' => en = .returned (.tuple #[.agg #[.string d, .int .i64 nn], .int .i64 e]) ∧ Below W.heap.size W w') ∧
                      Hid (∀ (W : World) (v u : Value), IsInts W W.heap.size v X → IsInts W W.heap.size u X7 → Calls Try.prog 19 #[v, u] W fun en w' => en = .returned (.tuple #[.agg #[.string d, .int .i64 nn], .int .i64 e]) ∧ Below W.heap.size W w') := by
                    rcases (show j2 = 0 ∨ j2 = 1 by omega) with rfl | rfl
                    · exact ⟨_, _, _, _, _, _, _, HE.out.cellv 0 rfl 0 _ rfl, HE.out.get 1 rfl, HP1, HR1⟩
                    · exact ⟨_, _, _, _, _, _, _, HE.out.cellv 0 rfl 1 _ rfl, HE.out.get 0 rfl, HP2, HR2⟩
                  have E11 := Lib.hid (HE.out.add hI)
                  clear HE hI
                  go_wp2_with fail
                  refine (CP.out _ _ _ (E11.out.get 3 rfl) (E11.out.get 0 rfl)).mono ?_
                  rintro en w4 ⟨rfl, hB⟩
                  have E12 := Lib.hid ((E11.out.step hB).box #[.string d, .int .i64 nn] 37 w4.heap.size rfl)
                  clear hB E11 hcell CP
                  go_wp2_with fail
                  refine (CR.out _ _ _ (E12.out.get 3 rfl) (E12.out.get 0 rfl)).mono ?_
                  rintro en w5 ⟨rfl, hB⟩
                  have E13 := Lib.hid ((E12.out.step hB).box #[.string d, .int .i64 nn] 37 w5.heap.size rfl)
                  have k00 := E13.out.cellv 1 rfl 0 _ rfl
                  have k01 := E13.out.cellv 1 rfl 1 _ rfl
                  have k10 := E13.out.cellv 0 rfl 0 _ rfl
                  have k11 := E13.out.cellv 0 rfl 1 _ rfl
                  clear hB E12 CR
                  go_wp2_with fail
                  go_roundw
                  case rel => exact ⟨j2 + 1, by omega, by go_num, E13.out.drop (by simp) (by simp)⟩
                  case measure => simp [intOf]; omega
                · obtain rfl : j2 = 2 := by omega
                  have E14 := Lib.hid (HE.out.drop (m := [(.slice q k c, X), (.slice qb (n + 1) cb, ints l ++ [1 + (z : Int)]), (.slice qk K ck, P1), (.slice (some ⟨tb, 0, none⟩) n c2, (ints l).set p x), (.slice q1 n c1, ints l)]) (cs := [(bl, #[.slice qk K ck, .slice q1 n c1, .slice (some ⟨tb, 0, none⟩) n c2, .slice qb (n + 1) cb], 22)]) (by simp) (by simp))
                  clear HE HP1 HP2 HR1 HR2
                  go_wp2_with fail
                  refine (CB.out _).mono ?_
                  rintro en w_ ⟨rfl, rfl⟩
                  go_wp2_with fail
                  obtain ⟨wi, hwi⟩ : ∃ x, wr.alloc (.cells #[.int .i64 at0, .int .i64 (b : Int)] 3) = x := ⟨_, rfl⟩
                  have EI : Hid (Env w wi [(.slice q k c, X), (.slice qb (n + 1) cb, ints l ++ [1 + (z : Int)]), (.slice qk K ck, P1), (.slice (some ⟨tb, 0, none⟩) n c2, (ints l).set p x), (.slice q1 n c1, ints l)] [(wr.heap.size, #[.int .i64 at0, .int .i64 (b : Int)], 3), (bl, #[.slice qk K ck, .slice q1 n c1, .slice (some ⟨tb, 0, none⟩) n c2, .slice qb (n + 1) cb], 22)]) := by
                    show Env _ _ _ _
                    rw [← hwi]
                    exact E14.out.box _ _ _ rfl
                  rw [hwi]
                  obtain ⟨bi, hbi⟩ : ∃ x, wr.heap.size = x := ⟨_, rfl⟩
                  rw [hbi] at EI ⊢
                  clear hwi E14 hbi
                  go_loopw [160] (fun iv wr => ∃ j3 : Nat, j3 ≤ 2 ∧ iv = .int .i64 j3 ∧ Env w wr [(.slice q k c, X), (.slice qb (n + 1) cb, ints l ++ [1 + (z : Int)]), (.slice qk K ck, P1), (.slice (some ⟨tb, 0, none⟩) n c2, (ints l).set p x), (.slice q1 n c1, ints l)] [(bi, #[.int .i64 at0, .int .i64 (b : Int)], 3), (bl, #[.slice qk K ck, .slice q1 n c1, .slice (some ⟨tb, 0, none⟩) n c2, .slice qb (n + 1) cb], 22)]) (fun iv _ => 3 - (intOf iv).toNat)
                  case atStart => exact ⟨0, by omega, rfl, EI.out⟩
                  case round =>
                    clear EI
                    obtain ⟨j3, hj3, rfl, hE⟩ := hrel
                    have HE := Lib.hid hE
                    clear hE
                    by_cases hlt3 : j3 < 2
                    · obtain ⟨i0, hcell⟩ : ∃ i0 : Int, wr.cell? ⟨bi, j3, none⟩ = some (.int .i64 i0) := by
                        rcases (show j3 = 0 ∨ j3 = 1 by omega) with rfl | rfl
                        · exact ⟨at0, HE.out.cellv 0 rfl 0 _ rfl⟩
                        · exact ⟨(b : Int), HE.out.cellv 0 rfl 1 _ rfl⟩
                      obtain ⟨x7, n7, e7, CT, CU⟩ := HT.out i0
                      have CT := Lib.hid CT
                      have CU := Lib.hid CU
                      go_wp2_with fail
                      refine (CT.out _ _ (HE.out.get 0 rfl)).mono ?_
                      rintro en w5 ⟨rfl, hB⟩
                      have E5 := Lib.hid (HE.out.step hB)
                      clear HE hB hcell CT
                      go_wp2_with fail
                      refine (CU.out _ _ (E5.out.get 0 rfl)).mono ?_
                      rintro en w6 ⟨rfl, hB⟩
                      have E6 := Lib.hid (E5.out.step hB)
                      clear E5 hB CU
                      go_wp2_with fail
                      go_roundw
                      case rel => exact ⟨j3 + 1, by omega, by go_num, E6.out⟩
                      case measure => simp [intOf]; omega
                    · obtain rfl : j3 = 2 := by omega
                      go_wp2_with fail
                      go_roundw
                      case rel => exact ⟨j + 1, by omega, by go_num, HE.out.drop (by simp) (by simp)⟩
                      case measure => simp [intOf]; omega
      · obtain rfl : j = 4 := by omega
        go_wp2_with fail
        go_ret
        exact ⟨rfl, HE.out.bel⟩
end Go.Proofs.Ytkicaimondpceaa
