/- awake of layer 10's law; its own words: pick, Weights. -/
import Derived.Test.YtegjkhhgihcdcaaLenN
import Derived.Test.YtegjkhhgihcdcaaRefInts
import Derived.Test.YtegjkhhgihcdcaaEnvK
namespace Go.Proofs.Ytegjkhhgihcdcaa
open Go.RowKit
set_option linter.unusedVariables false

theorem aw10_len1 (w : World) (v : Value) (hv : IsInts w w.heap.size v [5, 1, 1, 2]) : Calls Try.prog 12 #[v, .int .i64 9] w fun e w' => ∃ q c, e = .returned (.tuple #[.slice q 4 c, .int .i64 0]) ∧ IsInts w' w'.heap.size (.slice q 4 c) [1, 3, 3, 2] ∧ Below w.heap.size w w' := by
  have h := lengths_ok w v [5, 1, 1, 2] 9 hv (by decide) (by decide) (by decide) (by decide) (by decide)
  rw [len_ex1] at h
  exact h
theorem aw10_len2 (w : World) (v : Value) (hv : IsInts w w.heap.size v [0, 0]) : Calls Try.prog 12 #[v, .int .i64 20] w fun e w' => ∃ q c, e = .returned (.tuple #[.slice q 2 c, .int .i64 0]) ∧ IsInts w' w'.heap.size (.slice q 2 c) [1, 1] ∧ Below w.heap.size w w' := by
  have h := lengths_ok w v [0, 0] 20 hv (by decide) (by decide) (by decide) (by decide) (by decide)
  rw [len_ex2] at h
  exact h
theorem cost_is (w : World) (v u : Value) (l m : List Int) (r : Int × Int) (hv : IsInts w w.heap.size v l) (hu : IsInts w w.heap.size u m) (hl : l.length ≤ 1000000) (hm : m.length ≤ 1000000) (hr : costF l m = r) :
    Calls Try.prog 15 #[v, u] w fun e w' => e = .returned (.tuple #[.int .i64 r.1, .int .i64 r.2]) ∧ Below w.heap.size w w' := by
  subst hr
  exact cost_any w v u l m hv hu hl hm
theorem aw10_cost1 (w : World) (v u : Value) (hv : IsInts w w.heap.size v [1, 3, 3, 2]) (hu : IsInts w w.heap.size u [5, 1, 1, 2]) : Calls Try.prog 15 #[v, u] w fun e w' => e = .returned (.tuple #[.int .i64 15, .int .i64 0]) ∧ Below w.heap.size w w' :=
  cost_is w v u [1, 3, 3, 2] [5, 1, 1, 2] (15, 0) hv hu (by decide) (by decide) (by decide)
theorem aw10_cost2 (w : World) (v u : Value) (hv : IsInts w w.heap.size v [1, 3, 3, 2]) (hu : IsInts w w.heap.size u []) : Calls Try.prog 15 #[v, u] w fun e w' => e = .returned (.tuple #[.int .i64 0, .int .i64 1]) ∧ Below w.heap.size w w' :=
  cost_is w v u [1, 3, 3, 2] [] (0, 1) hv hu (by decide) (by decide) (by decide)
theorem aw10_ints (W : World) (va vb : Value) (l : List Int) (ha : IsInts W W.heap.size va l) (hb : IsInts W W.heap.size vb l) (hl : l.length ≤ 281474976710656) : Calls Try.prog 14 #[va, vb] W fun e w' => e = .returned (.bool true) ∧ Below W.heap.size W w' :=
  (refInts_any W va vb _ _ ha hb hl hl).mono fun _ _ h => ⟨h.1.trans (congrArg (fun b => Ending.returned (.bool b)) (by simp)), h.2⟩

set_option maxRecDepth 100000 in
set_option maxHeartbeats 1600000 in
theorem awake10_any (w : World) : Calls Try.prog 9 #[] w fun e w' => e = .returned (.bool true) ∧ Below w.heap.size w w' := by
  go_enter Try.func9, Try.ntmps9
  have E0 := Lib.hid (Env.nil w)
  have E1 := Lib.hid (E0.out.lit [5, 1, 1, 2] #[.int .i64 5, .int .i64 1, .int .i64 1, .int .i64 2] (w.heap.size) (by simp) rfl (by simp [maxLen]))
  clear E0 
  go_wp2_with fail
  refine (aw10_len1 _ _ (E1.out.get 0 rfl)).mono ?_
  rintro e w1 ⟨q1, c1, rfl, hv, hB⟩
  have E2 := Lib.hid ((E1.out.step hB).add hv)
  clear E1 hB hv 
  have E3 := Lib.hid (E2.out.lit [0, 0] #[.int .i64 0, .int .i64 0] (w1.heap.size) (by simp) rfl (by simp [maxLen]))
  clear E2 
  go_wp2_with fail
  refine (aw10_len2 _ _ (E3.out.get 0 rfl)).mono ?_
  rintro e w2 ⟨q2, c2, rfl, hv, hB⟩
  have E4 := Lib.hid ((E3.out.step hB).add hv)
  clear E3 hB hv 
  have E5 := Lib.hid (E4.out.lit [1] #[.int .i64 1] (w2.heap.size) (by simp) rfl (by simp [maxLen]))
  clear E4 
  go_wp2_with fail
  refine (lengths_no _ _ [1] 9 (E5.out.get 0 rfl) (by decide) (by decide)).mono ?_
  rintro e w3 ⟨rfl, hB⟩
  have E6 := Lib.hid (E5.out.step hB)
  clear E5 hB  
  have E7 := Lib.hid (E6.out.lit [1, 1] #[.int .i64 1, .int .i64 1] (w3.heap.size) (by simp) rfl (by simp [maxLen]))
  clear E6 
  go_wp2_with fail
  refine (lengths_no _ _ [1, 1] 8 (E7.out.get 0 rfl) (by decide) (by decide)).mono ?_
  rintro e w4 ⟨rfl, hB⟩
  have E8 := Lib.hid (E7.out.step hB)
  clear E7 hB  
  have E9 := Lib.hid (E8.out.lit [5, 1, 1, 2] #[.int .i64 5, .int .i64 1, .int .i64 1, .int .i64 2] (w4.heap.size) (by simp) rfl (by simp [maxLen]))
  clear E8 
  go_wp2_with fail
  refine (aw10_cost1 _ _ _ (E9.out.get 5 rfl) (E9.out.get 0 rfl)).mono ?_
  rintro e w5 ⟨rfl, hB⟩
  have E10 := Lib.hid (E9.out.step hB)
  clear E9 hB  
  go_wp2_with fail
  refine (aw10_cost2 _ _ _ (E10.out.get 5 rfl) (IsInts.nil _ _)).mono ?_
  rintro e w6 ⟨rfl, hB⟩
  have E11 := Lib.hid (E10.out.step hB)
  clear E10 hB  
  have E12 := Lib.hid (E11.out.lit [1, 3, 3, 2] #[.int .i64 1, .int .i64 3, .int .i64 3, .int .i64 2] (w6.heap.size) (by simp) rfl (by simp [maxLen]))
  clear E11 
  go_wp2_with fail
  refine (aw10_ints _ _ _ _ (E12.out.get 6 rfl) (E12.out.get 0 rfl) (by decide)).mono ?_
  rintro e w7 ⟨rfl, hB⟩
  have E13 := Lib.hid (E12.out.step hB)
  clear E12 hB  
  have E14 := Lib.hid (E13.out.lit [1, 1] #[.int .i64 1, .int .i64 1] (w7.heap.size) (by simp) rfl (by simp [maxLen]))
  clear E13 
  go_wp2_with fail
  refine (aw10_ints _ _ _ _ (E14.out.get 5 rfl) (E14.out.get 0 rfl) (by decide)).mono ?_
  rintro e w8 ⟨rfl, hB⟩
  have E15 := Lib.hid (E14.out.step hB)
  clear E14 hB  
  go_wp2
  go_ret
  exact ⟨rfl, E15.out.bel⟩
set_option maxHeartbeats 400000 in
theorem pick10_any (c n : Int) (w : World) (hc : -9223372036854775808 ≤ c) (hc' : c ≤ 9223372036854775807) (hn : 0 < n) (hn' : n ≤ 9223372036854775807) :
    Calls Try.prog 11 #[.int .i64 c, .int .i64 n] w fun e w' => e = .returned (.int .i64 (pickF c n)) ∧ w = w' := by
  by_cases h : c < 0
  · have e : pickF c n = (-(c + 1)) % n := by unfold pickF; rw [if_pos h]
    rw [e]; clear e
    go_enter Try.func11, Try.ntmps11
    go_wp2
    go_ret
    exact ⟨ret_int (by rw [← Int.neg_tmod]; exact Int.tmod_eq_emod_of_nonneg (by omega)), rfl⟩
  · have e : pickF c n = c % n := by unfold pickF; rw [if_neg h]
    rw [e]; clear e
    go_enter Try.func11, Try.ntmps11
    go_wp2
    go_ret
    exact ⟨rfl, rfl⟩
end Go.Proofs.Ytegjkhhgihcdcaa
