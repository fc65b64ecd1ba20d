/- WeighOrder: the walk. -/
import Derived.Test.YtegjkhhgihcdcaaWeights
import Derived.Test.YtegjkhhgihcdcaaWLaws
namespace Go.Proofs.Ytegjkhhgihcdcaa
open Go.RowKit
set_option linter.unusedVariables false

theorem quiet_lk {P : Program} {f : FuncId} {args : Array Value} {w : World} {n : Nat} {v : Value}
    (h : Calls P f args (w.drewN n) fun e w' => e = .returned v ∧ w.drewN n = w') : Calls P f args (w.drewN n) fun e w'' => e = .returned v ∧ ∃ m, w'' = w.drewN m :=
  h.mono fun _ _ ⟨he, hm⟩ => ⟨he, n, hm.symm⟩

set_option maxRecDepth 100000 in
set_option maxHeartbeats 6400000 in
theorem worder_walk (w : World) (v : Value) (raw : List Int) (most : Int) (hv : IsInts w w.heap.size v raw) (hr : I64s raw) (hmost : -9223372036854775808 ≤ most) (hmost' : most ≤ 9223372036854775807) :
    Calls Try.prog 4 #[v, .int .i64 most] w fun e w' => e = .returned (.bool true) ∧ Below w.heap.size w w' := by
  obtain ⟨A, ca, rfl, hc1, hc2⟩ := hv.shape
  have hpo := pickF_lt most 12 (by omega)
  obtain ⟨b, hb⟩ : ∃ k : Nat, pickF most 12 = (k : Int) := ⟨(pickF most 12).toNat, by omega⟩
  have HO := Lib.hid hb
  have hb12 : b < 12 := by omega
  obtain ⟨m, hm⟩ : ∃ m, m = 9 + b := ⟨_, rfl⟩
  have hmb : (9 : Int) + (b : Int) = (m : Int) := by omega
  have hm9 : 9 ≤ m := by omega
  have hm20 : m ≤ 20 := by omega
  have h2 := wF_two raw 60
  have h60 : (wF raw 60).length ≤ 60 := by rw [length_wF]; omega
  have hle := wF_le raw 60
  have CW : Hid (∀ W u, IsInts W W.heap.size u raw → Calls Try.prog 10 #[u, .int .i64 60] W fun e w' => ∃ q c, e = .returned (.slice q (wF raw 60).length c) ∧ IsInts w' w'.heap.size (.slice q (wF raw 60).length c) (ints (wF raw 60)) ∧ Below W.heap.size W w') := fun W u h => weights_is W u raw 60 h hr (by omega)
  have CL : Hid (∀ W u, IsInts W W.heap.size u (ints (wF raw 60)) → Calls Try.prog 12 #[u, .int .i64 (m : Nat)] W fun e w' => ∃ q c, e = .returned (.tuple #[.slice q (wF raw 60).length c, .int .i64 0]) ∧ IsInts w' w'.heap.size (.slice q (wF raw 60).length c) (ints (lenF (wF raw 60) m)) ∧ Below W.heap.size W w') := fun W u h => lengths_ok W u (wF raw 60) m h hle h2 (by omega) hm9 hm20
  have CP : Hid (∀ W, Calls Try.prog 11 #[.int .i64 most, .int .i64 12] W fun e w' => e = .returned (.int .i64 (b : Nat)) ∧ W = w') := fun W => by
    have := pick10_any most 12 W hmost hmost' (by omega) (by omega)
    rw [hb] at this
    exact this
  have hRl := length_lenF (wF raw 60) m h2 (by omega) hm9
  have hRf := lenF_fits (wF raw 60) m h2 (by omega) hm9
  have hnear := lenF_near (wF raw 60) m h2 (by omega) hm9
  have hmono : ∀ i k x y a c, (wF raw 60)[i]? = some x → (wF raw 60)[k]? = some y → (lenF (wF raw 60) m)[i]? = some a → (lenF (wF raw 60) m)[k]? = some c → max y 1 < max x 1 → b = 11 → (wF raw 60).length ≤ 20 → a ≤ c := fun i k x y a c h3 h4 h5 h6 h7 h8 h9 => by
    obtain rfl : m = 20 := by omega
    exact lenF_mono (wF raw 60) h2 h9 i k x y a c h3 h4 h5 h6 h7
  obtain ⟨n, hn⟩ : ∃ n, (wF raw 60).length = n := ⟨_, rfl⟩
  generalize lenF (wF raw 60) m = R at *
  rw [hn] at CW CL h2 h60 hRl
  rw [hn] at hmono
  generalize wF raw 60 = ws at *
  have HRL := Lib.hid hRl
  have HRF := Lib.hid hRf
  have HNE := Lib.hid hnear
  have HMO := Lib.hid hmono
  have HN := Lib.hid hn
  have HLE := Lib.hid hle
  have HV := Lib.hid hv
  clear hb hm hpo hle hRl hRf hn hv hr hnear hmono
  go_enter Try.func4, Try.ntmps4
  have E0 := Lib.hid (Env.nil w)
  go_wp2_with fail
  refine (awake10_any _).mono ?_
  rintro e w1 ⟨rfl, hB⟩
  have E1 := Lib.hid (E0.out.step hB)
  clear E0 hB  
  go_wp2_with fail
  refine (CW.out _ _ (E1.out.old HV.out)).mono ?_
  rintro e w2 ⟨q1, c1, rfl, hv, hB⟩
  have E2 := Lib.hid ((E1.out.step hB).add hv)
  clear E1 hB hv CW
  go_wp2_with fail
  refine (CP.out _).mono ?_
  rintro e w_ ⟨rfl, rfl⟩
  go_wp2_with fail
  refine (CL.out _ _ (E2.out.get 0 rfl)).mono ?_
  rintro e w3 ⟨q2, c2, rfl, hv, hB⟩
  have E3 := Lib.hid ((E2.out.step hB).add hv)
  clear E2 hB hv CL
  go_wp2_with fail
  go_loopw [9] (fun iv wr => ∃ i : Nat, i ≤ n ∧ iv = .int .i64 i ∧ Env w wr [(.slice q2 n c2, ints R), (.slice q1 n c1, ints ws)] []) (fun iv _ => n + 1 - (intOf iv).toNat)
  case atStart => exact ⟨0, Nat.zero_le _, rfl, E3.out⟩
  case round =>
    obtain ⟨i, hi, rfl, hE⟩ := hrel
    have EE := Lib.hid hE
    clear hE E3
    by_cases hin : i < n
    · obtain ⟨x, hx⟩ : ∃ x, ws[i]? = some x := ⟨_, List.getElem?_eq_getElem (by rw [HN.out]; exact hin)⟩
      obtain ⟨a, ha⟩ : ∃ a, R[i]? = some a := ⟨_, List.getElem?_eq_getElem (by rw [HRL.out]; exact hin)⟩
      have haf := HRF.out a (List.mem_of_getElem? ha)
      have hxl := HLE.out x (List.mem_of_getElem? hx)
      have HX := Lib.hid hx
      have HAA := Lib.hid ha
      obtain ⟨mx, hmx⟩ : ∃ mx, max x 1 = mx := ⟨_, rfl⟩
      have hmx2 : (if (x : Int) < 1 then 1 else (x : Int)) = (mx : Int) := by rw [← hmx]; split <;> omega
      have HMX := Lib.hid hmx
      clear hx ha hmx
      go_wp2_with fail
      go_loopw [10] (fun kv wr => ∃ k : Nat, k ≤ n ∧ kv = .int .i64 k ∧ Env w wr [(.slice q2 n c2, ints R), (.slice q1 n c1, ints ws)] []) (fun kv _ => n + 1 - (intOf kv).toNat)
      case atStart => exact ⟨0, Nat.zero_le _, rfl, EE.out⟩
      case round =>
        obtain ⟨k, hk, rfl, hE⟩ := hrel
        have EF := Lib.hid hE
        clear hE EE
        by_cases hkn : k < n
        · obtain ⟨y, hy⟩ : ∃ y, ws[k]? = some y := ⟨_, List.getElem?_eq_getElem (by rw [HN.out]; exact hkn)⟩
          obtain ⟨c, hc⟩ : ∃ c, R[k]? = some c := ⟨_, List.getElem?_eq_getElem (by rw [HRL.out]; exact hkn)⟩
          have hcf := HRF.out c (List.mem_of_getElem? hc)
          have hyl := HLE.out y (List.mem_of_getElem? hy)
          have hn1 := HNE.out i k x y a c HX.out hy HAA.out hc
          have hn2 := HNE.out k i y x c a hy HX.out hc HAA.out
          have hmo := HMO.out i k x y a c HX.out hy HAA.out hc
          obtain ⟨my, hmy⟩ : ∃ my, max y 1 = my := ⟨_, rfl⟩
          have hmy2 : (if (y : Int) < 1 then 1 else (y : Int)) = (my : Int) := by rw [← hmy]; split <;> omega
          obtain ⟨g1, o1, e1, hg1, hx1⟩ := (EF.out.get 1 rfl).at i (by rw [length_ints, HN.out]; exact hin)
          obtain ⟨g2, o2, e2, hg2, hx2⟩ := (EF.out.get 1 rfl).at k (by rw [length_ints, HN.out]; exact hkn)
          obtain ⟨g3, o3, e3, hg3, hx3⟩ := (EF.out.get 0 rfl).at i (by rw [length_ints, HRL.out]; exact hin)
          obtain ⟨g4, o4, e4, hg4, hx4⟩ := (EF.out.get 0 rfl).at k (by rw [length_ints, HRL.out]; exact hkn)
          subst e1 e3
          injection e2 with e2
          injection e2 with e2 e2'
          injection e4 with e4
          injection e4 with e4 e4'
          subst e2 e2' e4 e4'
          rw [show (ints ws)[i]?.getD 0 = (x : Int) by simp [ints, HX.out]] at hx1
          rw [show (ints ws)[k]?.getD 0 = (y : Int) by simp [ints, hy]] at hx2
          rw [show (ints R)[i]?.getD 0 = (a : Int) by simp [ints, HAA.out]] at hx3
          rw [show (ints R)[k]?.getD 0 = (c : Int) by simp [ints, hc]] at hx4
          have ha1 : IntKind.i64.wrap ((a : Int) + 1) = (a : Int) + 1 := IntWalk.i64_in _ (by omega)
          have hc1' : IntKind.i64.wrap ((c : Int) + 1) = (c : Int) + 1 := IntWalk.i64_in _ (by omega)
          rw [HMX.out, hmy] at hn1 hmo
          rw [HMX.out, hmy] at hn2
          clear hy hc hmy
          by_cases hlt : my < mx
          · have d1 : decide (my < mx) = true := decide_eq_true (by omega)
            have d5 : ((mx : Int) == (my : Int)) = false := by rw [beq_eq_false_iff_ne]; omega
            have hmo := hmo hlt
            clear hn1 hn2 hlt
            by_cases hca : c < a
            · have d2 : decide (c < a) = true := decide_eq_true (by omega)
              by_cases hb11 : b = 11
              · have d3 : ((b : Int) == 11) = true := by rw [beq_iff_eq]; omega
                have d4 : decide ((n : Int) ≤ 20) = false := decide_eq_false (by
                  intro hle
                  have := hmo hb11 (by omega)
                  omega)
                clear hmo hca hb11
                go_wp2_with fail
                go_quiet ((go_at_call 11; exact quiet_lk (CP.out _)))
                go_wp2_with fail
                go_quiet (fail)
                go_wp2_with fail
                go_roundw
                case rel => exact ⟨k + 1, by omega, by go_num, EF.out.drewN _⟩
                case measure => simp [intOf]; omega
              · have d3 : ((b : Int) == 11) = false := by rw [beq_eq_false_iff_ne]; omega
                clear hmo hca hb11
                go_wp2_with fail
                go_quiet ((go_at_call 11; exact quiet_lk (CP.out _)))
                go_wp2_with fail
                go_quiet (fail)
                go_wp2_with fail
                go_roundw
                case rel => exact ⟨k + 1, by omega, by go_num, EF.out.drewN _⟩
                case measure => simp [intOf]; omega
            · have d2 : decide (c < a) = false := decide_eq_false (by omega)
              clear hmo hca
              go_wp2_with fail
              go_quiet (fail)
              go_wp2_with fail
              go_quiet (fail)
              go_wp2_with fail
              go_roundw
              case rel => exact ⟨k + 1, by omega, by go_num, EF.out.drewN _⟩
              case measure => simp [intOf]; omega
          · have d1 : decide (my < mx) = false := decide_eq_false (by omega)
            clear hmo hlt
            by_cases heq : mx = my
            · have d5 : ((mx : Int) == (my : Int)) = true := by rw [beq_iff_eq]; omega
              have d6 : decide ((c : Int) + 1 < (a : Int)) = false := decide_eq_false (by have := hn1 heq; omega)
              have d7 : decide ((a : Int) + 1 < (c : Int)) = false := decide_eq_false (by have := hn2 heq.symm; omega)
              clear hn1 hn2 heq
              go_wp2_with fail
              go_quiet (fail)
              go_wp2_with fail
              go_quiet (fail)
              go_wp2_with fail
              go_roundw
              case rel => exact ⟨k + 1, by omega, by go_num, EF.out.drewN _⟩
              case measure => simp [intOf]; omega
            · have d5 : ((mx : Int) == (my : Int)) = false := by rw [beq_eq_false_iff_ne]; omega
              clear hn1 hn2 heq
              go_wp2_with fail
              go_quiet (fail)
              go_wp2_with fail
              go_quiet (fail)
              go_wp2_with fail
              go_roundw
              case rel => exact ⟨k + 1, by omega, by go_num, EF.out.drewN _⟩
              case measure => simp [intOf]; omega
        · obtain rfl : k = n := by omega
          go_wp2_with fail
          go_roundw
          case rel => exact ⟨i + 1, by omega, by go_num, EF.out⟩
          case measure => simp [intOf]; omega
    · go_wp2_with fail
      go_ret
      exact ⟨rfl, EE.out.bel⟩
end Go.Proofs.Ytegjkhhgihcdcaa
