/- WeighTells: the walk. -/
import Derived.Test.YtegjkhhgihcdcaaRefLenN
namespace Go.Proofs.Ytegjkhhgihcdcaa
open Go.RowKit
set_option linter.unusedVariables false

set_option maxRecDepth 100000 in
set_option maxHeartbeats 6400000 in
theorem wtells_walk (w : World) (u v v3 : Value) (sm raw lens : List Int) (most : Int) (hso : IsInts w w.heap.size u sm) (hv : IsInts w w.heap.size v raw) (hr : I64s raw) (hle : IsInts w w.heap.size v3 lens) (hmost : -9223372036854775808 ≤ most) (hmost' : most ≤ 9223372036854775807) :
    Calls Try.prog 3 #[u, v, .int .i64 most, v3] w fun e w' => e = .returned (.bool true) ∧ Below w.heap.size w w' := by
  have HSO := Lib.hid hso
  have HRW := Lib.hid hv
  have HLS := Lib.hid hle
  obtain ⟨As, cas, rfl, hcs1, hcs2⟩ := hso.shape
  obtain ⟨Al, cal, rfl, hcl1, hcl2⟩ := hle.shape
  unfold maxLen at hcs2 hcl2
  obtain ⟨NS, hNS⟩ : ∃ n, sm.length = n := ⟨_, rfl⟩
  rw [hNS] at HSO hcs1 ⊢
  obtain ⟨K, hK⟩ : ∃ K : Nat, K = min NS 300 := ⟨_, rfl⟩
  have hK1 : (if (300 : Int) < NS then 300 else (NS : Int)) = K := by rw [hK]; split <;> omega
  have hKn : K ≤ NS := by omega
  have hK3 : K ≤ 300 := by omega
  obtain ⟨NL, hNL⟩ : ∃ n, lens.length = n := ⟨_, rfl⟩
  rw [hNL] at HLS hcl1 ⊢
  obtain ⟨J, hJ⟩ : ∃ J : Nat, J = min NL 60 := ⟨_, rfl⟩
  have hJ1 : (if (60 : Int) < NL then 60 else (NL : Int)) = J := by rw [hJ]; split <;> omega
  have hJn : J ≤ NL := by omega
  have hJ3 : J ≤ 60 := by omega
  obtain ⟨P1, hP1⟩ : ∃ P, sm.take K = P := ⟨_, rfl⟩
  have hPl : P1.length = K := by rw [← hP1, List.length_take]; omega
  obtain ⟨P2, hP2⟩ : ∃ P, lens.take J = P := ⟨_, rfl⟩
  have hPl2 : P2.length = J := by rw [← hP2, List.length_take]; omega
  have hp := pickF_lt most 16 (by omega)
  obtain ⟨a, ha⟩ : ∃ k : Nat, pickF most 16 = (k : Int) := ⟨(pickF most 16).toNat, by omega⟩
  have ha16 : a < 16 := by omega
  have HA := Lib.hid ha
  have hm60 : (wF raw 60).length ≤ 60 := by rw [length_wF]; omega
  have CWt : Hid (∀ W u, IsInts W W.heap.size u raw → Calls Try.prog 10 #[u, .int .i64 60] W fun e w' => ∃ q c, e = .returned (.slice q (wF raw 60).length c) ∧ IsInts w' w'.heap.size (.slice q (wF raw 60).length c) (ints (wF raw 60)) ∧ Below W.heap.size W w') := fun W u h => weights_is W u raw 60 h hr (by omega)
  obtain ⟨ow, how⟩ : ∃ ow, ints (wF raw 60) = ow := ⟨_, rfl⟩
  have hol : ow.length = (wF raw 60).length := by rw [← how, length_ints]
  rw [how] at CWt
  obtain ⟨M, hM⟩ : ∃ M, (wF raw 60).length = M := ⟨_, rfl⟩
  rw [hM] at CWt hm60 hol
  have HP1 := Lib.hid hP1
  have HP2 := Lib.hid hP2
  have HPL := Lib.hid hPl
  have HPL2 := Lib.hid hPl2
  have HOL := Lib.hid hol
  clear hv hso hle hr hK hJ hNS hNL hP1 hP2 hPl hPl2 hp ha how hol hM
  go_enter Try.func3, Try.ntmps3
  have E0 := Lib.hid (Env.nil w)
  go_wp2_with fail
  refine (awake10_any _).mono ?_
  rintro e w1 ⟨rfl, hB⟩
  have E1 := Lib.hid (E0.out.step hB)
  clear E0 hB  
  go_wp2_with fail
  refine (CWt.out _ _ (E1.out.old HRW.out)).mono ?_
  rintro e w2 ⟨q1, c1, rfl, hv, hB⟩
  have E2 := Lib.hid ((E1.out.step hB).add hv)
  clear E1 hB hv CWt
  obtain ⟨vk, hk1, ⟨qk, ck, hk2⟩, -, -, hk5⟩ := (E2.out.old HSO.out).cut 0 K (Nat.zero_le _) hKn
  obtain ⟨vl, hl1, ⟨ql, cl, hl2⟩, -, -, hl5⟩ := (E2.out.old HLS.out).cut 0 J (Nat.zero_le _) hJn
  subst hk2 hl2
  rw [Nat.sub_zero] at hk1 hk5 hl1 hl5
  have hcut := hk5 rfl
  have hcut2 := hl5 rfl
  rw [List.drop_zero, HP1.out] at hk1
  rw [List.drop_zero, HP2.out] at hl1
  have E9 := Lib.hid ((E2.out.add hl1).add hk1)
  clear hk1 hk5 hl1 hl5 E2 HSO HRW HLS
  go_wp2_with fail
  obtain ⟨wl, hwl⟩ : ∃ x, w2.alloc (.cells #[.slice qk K ck, .slice q1 M c1] 22) = x := ⟨_, rfl⟩
  have E10 : Hid (Env w wl [(.slice qk K ck, P1), (.slice ql J cl, P2), (.slice q1 M c1, ow)] [(w2.heap.size, #[.slice qk K ck, .slice q1 M c1], 22)]) := by
    show Env _ _ _ _
    rw [← hwl]
    exact E9.out.box _ _ _ rfl
  rw [hwl]
  obtain ⟨bl, hbl⟩ : ∃ x, w2.heap.size = x := ⟨_, rfl⟩
  rw [hbl] at E10 ⊢
  clear hwl E9 hbl hcut
  go_loopw [36] (fun iv wr => ∃ j : Nat, j ≤ 2 ∧ iv = .int .i64 j ∧ Env w wr [(.slice qk K ck, P1), (.slice ql J cl, P2), (.slice q1 M c1, ow)] [(bl, #[.slice qk K ck, .slice q1 M c1], 22)]) (fun iv _ => 3 - (intOf iv).toNat)
  case atStart => exact ⟨0, by omega, rfl, E10.out⟩
  case round =>
    obtain ⟨j, hj, rfl, hE⟩ := hrel
    have HE := Lib.hid hE
    clear hE E10
    by_cases hlt : j < 2
    · obtain ⟨q, k, c, X, hcell, hI, hX⟩ : ∃ (q : Option Addr) (k c : Nat) (X : List Int), wr.cell? ⟨bl, j, none⟩ = some (.slice q k c) ∧ IsInts wr wr.heap.size (.slice q k c) X ∧ X.length ≤ 300 := by
        rcases (show j = 0 ∨ j = 1 by omega) with rfl | rfl
        · exact ⟨_, _, _, _, HE.out.cellv 0 rfl 0 _ rfl, HE.out.get 0 rfl, by rw [HPL.out]; exact hK3⟩
        · exact ⟨_, _, _, _, HE.out.cellv 0 rfl 1 _ rfl, HE.out.get 2 rfl, by rw [HOL.out]; omega⟩
      have E11 := Lib.hid (HE.out.add hI)
      clear HE hI
      go_wp2_with fail
      refine (pick10_any most 16 _ hmost hmost' (by omega) (by omega)).mono ?_
      rintro e w_ ⟨rfl, rfl⟩
      rw [HA.out]
      clear hcell
      go_wp2_with fail
      obtain ⟨wi, hwi⟩ : ∃ x, wr.alloc (.cells #[.int .i64 most, .int .i64 (7 + (a : Int))] 3) = x := ⟨_, rfl⟩
      have EI : Hid (Env w wi ((.slice q k c, X) :: [(.slice qk K ck, P1), (.slice ql J cl, P2), (.slice q1 M c1, ow)]) [(wr.heap.size, #[.int .i64 most, .int .i64 (7 + (a : Int))], 3), (bl, #[.slice qk K ck, .slice q1 M c1], 22)]) := by
        show Env _ _ _ _
        rw [← hwi]
        exact E11.out.box _ _ _ rfl
      rw [hwi]
      obtain ⟨bi, hbi⟩ : ∃ x, wr.heap.size = x := ⟨_, rfl⟩
      rw [hbi] at EI ⊢
      clear hwi E11 hbi
      go_loopw [46] (fun iv wr => ∃ t : Nat, t ≤ 2 ∧ iv = .int .i64 t ∧ Env w wr ((.slice q k c, X) :: [(.slice qk K ck, P1), (.slice ql J cl, P2), (.slice q1 M c1, ow)]) [(bi, #[.int .i64 most, .int .i64 (7 + (a : Int))], 3), (bl, #[.slice qk K ck, .slice q1 M c1], 22)]) (fun iv _ => 3 - (intOf iv).toNat)
      case atStart => exact ⟨0, by omega, rfl, EI.out⟩
      case round =>
        obtain ⟨t, htt, rfl, hE⟩ := hrel
        have HE := Lib.hid hE
        clear hE EI
        by_cases hlt2 : t < 2
        · obtain ⟨m0, hz⟩ : ∃ m0 : Int, wr.cell? ⟨bi, t, none⟩ = some (.int .i64 m0) := by
            rcases (show t = 0 ∨ t = 1 by omega) with rfl | rfl
            · exact ⟨_, HE.out.cellv 0 rfl 0 _ rfl⟩
            · exact ⟨_, HE.out.cellv 0 rfl 1 _ rfl⟩
          obtain ⟨R, ee, hR, CT, CR⟩ := lenIs X m0 (by omega)
          have CT := Lib.hid CT
          have CR := Lib.hid CR
          have CI : Hid (∀ W (u1 u2 : Value), IsInts W W.heap.size u1 R → IsInts W W.heap.size u2 R → Calls Try.prog 14 #[u1, u2] W fun e w' => e = .returned (.bool true) ∧ Below W.heap.size W w') := fun W u1 u2 h1 h2 => aw10_ints W u1 u2 R h1 h2 (by omega)
          obtain ⟨rl, hrl⟩ : ∃ x, R.length = x := ⟨_, rfl⟩
          rw [hrl] at CT CR hR
          clear hrl
          go_wp2_with fail
          refine (CT.out _ _ (HE.out.get 0 rfl)).mono ?_
          rintro en w5 ⟨q5, c5, rfl, hv, hB⟩
          have E5 := Lib.hid ((HE.out.step hB).add hv)
          clear HE hB hv hz CT
          go_wp2_with fail
          refine (CR.out _ _ (E5.out.get 1 rfl)).mono ?_
          rintro en w6 ⟨q6, c6, rfl, hv, hB⟩
          have E6 := Lib.hid ((E5.out.step hB).add hv)
          clear E5 hB hv CR
          go_wp2_with fail
          refine (CI.out _ _ _ (E6.out.get 1 rfl) (E6.out.get 0 rfl)).mono ?_
          rintro en w7 ⟨rfl, hB⟩
          have E7 := Lib.hid (E6.out.step hB)
          clear E6 hB CI
          go_wp2
          go_roundw
          case rel => exact ⟨t + 1, by omega, by go_num, E7.out.drop (by simp) (by simp)⟩
          case measure => simp [intOf]; omega
        · obtain rfl : t = 2 := by omega
          go_wp2_with fail
          obtain ⟨wk, hwk⟩ : ∃ x, wr.alloc (.cells #[.slice ql J cl, .slice q k c, .slice q1 M c1] 22) = x := ⟨_, rfl⟩
          have EK : Hid (Env w wk ((.slice q k c, X) :: [(.slice qk K ck, P1), (.slice ql J cl, P2), (.slice q1 M c1, ow)]) [(wr.heap.size, #[.slice ql J cl, .slice q k c, .slice q1 M c1], 22), (bl, #[.slice qk K ck, .slice q1 M c1], 22)]) := by
            show Env _ _ _ _
            rw [← hwk]
            exact (HE.out.drop (m := (.slice q k c, X) :: [(.slice qk K ck, P1), (.slice ql J cl, P2), (.slice q1 M c1, ow)]) (cs := [(bl, #[.slice qk K ck, .slice q1 M c1], 22)]) (by simp) (by simp)).box _ _ _ rfl
          rw [hwk]
          obtain ⟨bk, hbk⟩ : ∃ x, wr.heap.size = x := ⟨_, rfl⟩
          rw [hbk] at EK ⊢
          rw [show ((2 : Nat) : Int) = 2 from rfl]
          clear hwk HE hbk
          go_loopw [81] (fun iv wr => ∃ t : Nat, t ≤ 3 ∧ iv = .int .i64 t ∧ Env w wr ((.slice q k c, X) :: [(.slice qk K ck, P1), (.slice ql J cl, P2), (.slice q1 M c1, ow)]) [(bk, #[.slice ql J cl, .slice q k c, .slice q1 M c1], 22), (bl, #[.slice qk K ck, .slice q1 M c1], 22)]) (fun iv _ => 4 - (intOf iv).toNat)
          case atStart => exact ⟨0, by omega, rfl, EK.out⟩
          case round =>
            obtain ⟨t, htt, rfl, hE⟩ := hrel
            have HE := Lib.hid hE
            clear hE EK
            by_cases hlt3 : t < 3
            · obtain ⟨qy, ky, cy, Y, hcell, hI, hY⟩ : ∃ (q : Option Addr) (k c : Nat) (Y : List Int), wr.cell? ⟨bk, t, none⟩ = some (.slice q k c) ∧ IsInts wr wr.heap.size (.slice q k c) Y ∧ Y.length ≤ 300 := by
                rcases (show t = 0 ∨ t = 1 ∨ t = 2 by omega) with rfl | rfl | rfl
                · exact ⟨_, _, _, _, HE.out.cellv 0 rfl 0 _ rfl, HE.out.get 2 rfl, by rw [HPL2.out]; omega⟩
                · exact ⟨_, _, _, _, HE.out.cellv 0 rfl 1 _ rfl, HE.out.get 0 rfl, hX⟩
                · exact ⟨_, _, _, _, HE.out.cellv 0 rfl 2 _ rfl, HE.out.get 3 rfl, by rw [HOL.out]; omega⟩
              have E5 := Lib.hid (HE.out.add hI)
              obtain ⟨z1, z2, hzz⟩ : ∃ z1 z2, costF Y X = (z1, z2) := ⟨_, _, rfl⟩
              have CA : Hid (∀ (W : World) (u v : Value), IsInts W W.heap.size u Y → IsInts W W.heap.size v X → Calls Try.prog 15 #[u, v] W fun e w' => e = .returned (.tuple #[.int .i64 z1, .int .i64 z2]) ∧ Below W.heap.size W w') := fun W u v h1 h2 => cost_is W u v Y X (z1, z2) h1 h2 (by omega) (by omega) hzz
              have CR : Hid (∀ (W : World) (u v : Value), IsInts W W.heap.size u Y → IsInts W W.heap.size v X → Calls Try.prog 16 #[u, v] W fun e w' => e = .returned (.tuple #[.int .i64 z1, .int .i64 z2]) ∧ Below W.heap.size W w') := fun W u v h1 h2 => by
                have := rcost_any W u v Y X h1 h2 (by omega) (by omega)
                rw [hzz] at this
                exact this
              clear HE hI hzz
              go_wp2_with fail
              refine (CA.out _ _ _ (E5.out.get 0 rfl) (E5.out.get 1 rfl)).mono ?_
              rintro en w6 ⟨rfl, hB⟩
              have E6 := Lib.hid (E5.out.step hB)
              clear E5 hB CA hcell
              go_wp2_with fail
              refine (CR.out _ _ _ (E6.out.get 0 rfl) (E6.out.get 1 rfl)).mono ?_
              rintro en w7 ⟨rfl, hB⟩
              have E7 := Lib.hid (E6.out.step hB)
              clear E6 hB CR
              go_wp2_with fail
              go_roundw
              case rel => exact ⟨t + 1, by omega, by go_num, E7.out.drop (by simp) (by simp)⟩
              case measure => simp [intOf]; omega
            · obtain rfl : t = 3 := by omega
              go_wp2_with fail
              go_roundw
              case rel => exact ⟨j + 1, by omega, by go_num, HE.out.drop (by simp) (by simp)⟩
              case measure => simp [intOf]; omega
    · obtain rfl : j = 2 := by omega
      go_wp2_with fail
      go_ret
      exact ⟨rfl, HE.out.bel⟩
end Go.Proofs.Ytegjkhhgihcdcaa
