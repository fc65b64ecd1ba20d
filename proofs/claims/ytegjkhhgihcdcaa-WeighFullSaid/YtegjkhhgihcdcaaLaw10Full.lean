/- WeighFull: the walk. -/
import Derived.Test.YtegjkhhgihcdcaaWeights
import Derived.Test.YtegjkhhgihcdcaaWLaws
namespace Go.Proofs.Ytegjkhhgihcdcaa
open Go.RowKit
set_option linter.unusedVariables false

set_option maxRecDepth 100000 in
set_option maxHeartbeats 6400000 in
theorem wfull_walk (w : World) (v : Value) (raw : List Int) (most : Int) (hv : IsInts w w.heap.size v raw) (hr : I64s raw) (hmost : -9223372036854775808 ≤ most) (hmost' : most ≤ 9223372036854775807) :
    Calls Try.prog 7 #[v, .int .i64 most] w fun e w' => e = .returned (.bool true) ∧ Below w.heap.size w w' := by
  obtain ⟨A, ca, rfl, hc1, hc2⟩ := hv.shape
  have hpo := pickF_lt most 12 (by omega)
  obtain ⟨b, hb⟩ : ∃ k : Nat, pickF most 12 = (k : Int) := ⟨(pickF most 12).toNat, by omega⟩
  have HO := Lib.hid hb
  obtain ⟨m, hm⟩ : ∃ m, m = 9 + b := ⟨_, rfl⟩
  have hmb : (9 : Int) + (b : Int) = (m : Int) := by omega
  have hm9 : 9 ≤ m := by omega
  have hm20 : m ≤ 20 := by omega
  have h2 := wF_two raw 60
  have h60 : (wF raw 60).length ≤ 60 := by rw [length_wF]; omega
  have hle := wF_le raw 60
  have CW : Hid (∀ W u, IsInts W W.heap.size u raw → Calls Try.prog 10 #[u, .int .i64 60] W fun e w' => ∃ q c, e = .returned (.slice q (wF raw 60).length c) ∧ IsInts w' w'.heap.size (.slice q (wF raw 60).length c) (ints (wF raw 60)) ∧ Below W.heap.size W w') := fun W u h => weights_is W u raw 60 h hr (by omega)
  have CL : Hid (∀ W u, IsInts W W.heap.size u (ints (wF raw 60)) → Calls Try.prog 12 #[u, .int .i64 (m : Nat)] W fun e w' => ∃ q c, e = .returned (.tuple #[.slice q (wF raw 60).length c, .int .i64 0]) ∧ IsInts w' w'.heap.size (.slice q (wF raw 60).length c) (ints (lenF (wF raw 60) m)) ∧ Below W.heap.size W w') := fun W u h => lengths_ok W u (wF raw 60) m h hle h2 (by omega) hm9 hm20
  have hRl := length_lenF (wF raw 60) m h2 (by omega) hm9
  have hRf := lenF_fits (wF raw 60) m h2 (by omega) hm9
  have hRc := (lenF_code (wF raw 60) m h2 (by omega) hm9 hm20).ok
  have hRm := lenF_more (wF raw 60) m h2 (by omega) hm9 hm20
  obtain ⟨n, hn⟩ : ∃ n, (wF raw 60).length = n := ⟨_, rfl⟩
  generalize lenF (wF raw 60) m = R at *
  rw [hn] at CW CL h2 h60 hRl
  generalize wF raw 60 = ws at *
  have HRL := Lib.hid hRl
  have HRF := Lib.hid hRf
  have CK : Hid (∀ W u, IsInts W W.heap.size u (ints R) → Calls Try.prog 18 #[u] W fun e w' => e = .returned (.int .i64 0) ∧ Below W.heap.size W w') := fun W u h => by
    have := check_any W u (ints R) h (by rw [length_ints]; omega)
    rw [hRc] at this
    exact this
  have CM : Hid (∀ W u, IsInts W W.heap.size u (ints R ++ [20]) → Calls Try.prog 18 #[u] W fun e w' => e = .returned (.int .i64 6) ∧ Below W.heap.size W w') := fun W u h => by
    have := check_any W u (ints R ++ [20]) h (by rw [List.length_append, length_ints]; simp; omega)
    rw [hRm] at this
    exact this
  have HV := Lib.hid hv
  clear hb hm hpo hle hRl hRf hRc hRm hn hv hr
  go_enter Try.func7, Try.ntmps7
  have E0 := Lib.hid (Env.nil w)
  go_wp2_with fail
  refine (awake10_any _).mono ?_
  rintro e w1 ⟨rfl, hB⟩
  have E1 := Lib.hid (E0.out.step hB)
  clear E0 hB  
  go_wp2_with fail
  refine (CW.out _ _ (E1.out.old HV.out)).mono ?_
  rintro e w2 ⟨q1, c1, rfl, hv, hB⟩
  have E2 := Lib.hid ((E1.out.step hB).add hv)
  clear E1 hB hv CW
  go_wp2_with fail
  refine (pick10_any most 12 _ hmost hmost' (by omega) (by omega)).mono ?_
  rintro e w_ ⟨rfl, rfl⟩
  rw [HO.out]
  go_wp2_with fail
  refine (CL.out _ _ (E2.out.get 0 rfl)).mono ?_
  rintro e w3 ⟨q2, c2, rfl, hv, hB⟩
  have E3 := Lib.hid ((E2.out.step hB).add hv)
  clear E2 hB hv CL
  go_wp2_with fail
  refine (CK.out _ _ (E3.out.get 0 rfl)).mono ?_
  rintro e w4 ⟨rfl, hB⟩
  have E4 := Lib.hid (E3.out.step hB)
  clear E3 hB  CK
  have HL4 := Lib.hid (E4.out.get 0 rfl)
  have HB4 := Lib.hid E4.out.bel
  have hz4 := HB4.out.size
  go_wp2_with
    (at_builtin
     first
       | (refine wpList_append_guarded (by simp [Region.wanted, yielded]) _ _ rfl w4.heap.size (.slice none 0 0) [] rfl (OwnInts.nil _ _) w4.heap.size _ (ints R) rfl HL4.out (by simp only [List.length_nil, length_ints]; have := HRL.out; omega) (Nat.le_refl _) ?_
          intro qa ca2 wa hown1 hg1 hat1
          rw [show ([] : List Int).length + (ints R).length = n by rw [length_ints, HRL.out]; exact Nat.zero_add _] at hown1 ⊢
          rw [List.nil_append] at hown1
          have Hown1 := Lib.hid hown1
          have HBa : Hid (Below w4.heap.size w4 wa) := bel_grown hg1 (Below.refl _ _) (fun k hk => by simp [Value.ownBlock] at hk)
          have hza := HBa.out.size
          clear hown1 hat1 hg1)
       | (refine wpList_append_guarded (by simp [Region.wanted, yielded]) _ _ rfl w4.heap.size _ (ints R) rfl (Hown1.out.alloc _) (wa.heap.size + 1) _ [20] rfl (IsInts.new wa [20] _ _ _ rfl rfl rfl (by simp [maxLen])) (by rw [length_ints, HRL.out]; simp; omega) (by simp; omega) ?_
          intro qb cb wb hown2 hg2 hat2
          rw [show (ints R).length + [(20 : Int)].length = n + 1 by rw [length_ints, HRL.out]; rfl] at hown2 ⊢
          have Hown2 := Lib.hid hown2
          have HBb : Hid (Below w4.heap.size w4 wb) := bel_grown hg2 (HBa.out.alloc (by omega) _) (fun k hk => own_ge Hown1.out hk)
          have hzb := HBb.out.size
          clear hown2 hat2 hg2))
  refine (CM.out _ _ Hown2.out.is).mono ?_
  rintro e w9 ⟨rfl, hB9⟩
  have HB9 := Lib.hid ((HB4.out.trans (HBb.out.mono hz4)).trans (hB9.mono (by omega)))
  have HL9 := Lib.hid (ints_up (ints_up HL4.out HBb.out) hB9)
  clear hB9 Hown2 HBb HBa Hown1 HL4 HB4 CM E4
  go_wp2_with fail
  go_loop [10] (fun iv => ∃ j : Nat, j ≤ n ∧ iv = .int .i64 j) (fun iv => n + 1 - (intOf iv).toNat)
  case atStart => exact ⟨0, Nat.zero_le _, rfl⟩
  case round =>
    obtain ⟨j, hj, rfl⟩ := hrel
    by_cases hji : j < n
    · obtain ⟨g3, o3, rfl, hg3, hx3⟩ := HL9.out.at j (by rw [length_ints, HRL.out]; exact hji)
      obtain ⟨x, hx⟩ : ∃ x, R[j]? = some x := ⟨_, List.getElem?_eq_getElem (by rw [HRL.out]; exact hji)⟩
      rw [show (ints R)[j]?.getD 0 = (x : Int) by simp [ints, hx]] at hx3
      have hxf := HRF.out x (List.mem_of_getElem? hx)
      clear hx
      go_wp2_with fail
      go_round
      case rel => exact ⟨j + 1, by omega, by go_num⟩
      case measure => simp [intOf]; omega
    · go_wp2_with fail
      go_ret
      exact ⟨rfl, HB9.out⟩
end Go.Proofs.Ytegjkhhgihcdcaa
