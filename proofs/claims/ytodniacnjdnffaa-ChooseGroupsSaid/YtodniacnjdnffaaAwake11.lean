/- awake of layer 11's law; its own word: pick. -/
import Derived.Test.YtodniacnjdnffaaTabNo
import Derived.Test.YtodniacnjdnffaaRefInts
import Derived.Test.YtodniacnjdnffaaEnvK
namespace Go.Proofs.Ytodniacnjdnffaa
open Go.RowKit
set_option linter.unusedVariables false

theorem aw11_groups (w : World) (v : Value) (hv : IsInts w w.heap.size v [0, 0, 0, 0, 0, 0, 0, 0, 0, 0, 1, 1]) : Calls Try.prog 13 #[v] w fun e w' => ∃ q c, e = .returned (.slice q 2 c) ∧ Below w.heap.size w w' :=
  (groups_any w v _ hv (by decide)).mono fun e w' h => by
    obtain ⟨L, q, c, h1, _, h3, h4⟩ := h
    have : L.length = 2 := by
      have := congrArg List.length h3
      rw [List.length_map] at this
      rw [this]
      decide
    rw [this] at h1
    exact ⟨q, c, h1, h4⟩
theorem aw11_tab0 : tabF [0, 0, 0, 0, 0, 0, 0, 0, 0, 0, 1, 1] 3 0 = [1, 2, 2] := by decide +kernel
theorem aw11_tab1 : tabF [0, 0, 0, 0, 0, 0, 0, 0, 0, 0, 1, 1] 3 1 = [2, 1, 2] := by decide +kernel
theorem aw11_cho : chosenF [0, 0, 0, 0, 0, 0, 0, 0, 0, 0, 1, 1] 3 = [0, 1] := by decide +kernel
theorem aw11_tables (w : World) (v : Value) (hv : IsInts w w.heap.size v [0, 0, 0, 0, 0, 0, 0, 0, 0, 0, 1, 1]) : Calls Try.prog 10 #[v, .int .i64 3] w fun e w' => ∃ (va vb : Value) (q : Option Addr) (c : Nat) (q2 : Option Addr) (c2 : Nat), e = .returned (.tuple #[.slice q 2 c, .slice q2 2 c2, .int .i64 0]) ∧
      IsSl w' w'.heap.size (.slice q 2 c) [(va, [1, 2, 2]), (vb, [2, 1, 2])] ∧ IsInts w' w'.heap.size (.slice q2 2 c2) [0, 1] ∧ Below w.heap.size w w' := by
  have h := tables_ok w v [0, 0, 0, 0, 0, 0, 0, 0, 0, 0, 1, 1] 3 hv (by decide) (by decide) (by decide) (by decide) (by decide)
  rw [aw11_tab0, aw11_tab1, aw11_cho] at h
  exact h
theorem aw11_bits (w : World) (v u : Value) (hv : IsInts w w.heap.size v [1, 2, 2]) (hu : IsInts w w.heap.size u [0, 2]) : Calls Try.prog 15 #[v, u] w fun e w' => e = .returned (.tuple #[.int .i64 3, .int .i64 0]) ∧ Below w.heap.size w w' :=
  cbits_ok w v u [1, 2, 2] [0, 2] hv hu (code_of_ok (l := [1, 2, 2]) (by decide)).1 (by decide) (by decide)
theorem aw11_ints (W : World) (va vb : Value) (l : List Int) (ha : IsInts W W.heap.size va l) (hb : IsInts W W.heap.size vb l) (hl : l.length ≤ 281474976710656) : Calls Try.prog 12 #[va, vb] W fun e w' => e = .returned (.bool true) ∧ Below W.heap.size W w' :=
  (refInts_any W va vb _ _ ha hb hl hl).mono fun _ _ h => ⟨h.1.trans (congrArg (fun b => Ending.returned (.bool b)) (by simp)), h.2⟩

theorem isSl_new2 (c : World) (xs ys : List Int) (ca cb : Array Value) (t : TypeId) (hca : ca.toList = intCells xs) (hcb : cb.toList = intCells ys) (hx : xs.length = 3) (hy : ys.length = 3) :
    IsSl (((c.alloc (.cells ca 3)).alloc (.cells cb 3)).alloc (.cells #[.slice (some ⟨c.heap.size, 0, none⟩) 3 3, .slice (some ⟨c.heap.size + 1, 0, none⟩) 3 3] t)) (((c.alloc (.cells ca 3)).alloc (.cells cb 3)).alloc (.cells #[.slice (some ⟨c.heap.size, 0, none⟩) 3 3, .slice (some ⟨c.heap.size + 1, 0, none⟩) 3 3] t)).heap.size
      (.slice (some ⟨c.heap.size + 1 + 1, 0, none⟩) 2 2) [(.slice (some ⟨c.heap.size, 0, none⟩) 3 3, xs), (.slice (some ⟨c.heap.size + 1, 0, none⟩) 3 3, ys)] := by
  have h0 := heap_up (.cells #[.slice (some ⟨c.heap.size, 0, none⟩) 3 3, .slice (some ⟨c.heap.size + 1, 0, none⟩) 3 3] t) (heap_up (.cells cb 3) (heap_new c (.cells ca 3) c.heap.size rfl))
  have h1 := heap_up (.cells #[.slice (some ⟨c.heap.size, 0, none⟩) 3 3, .slice (some ⟨c.heap.size + 1, 0, none⟩) 3 3] t) (heap_new1 c (.cells ca 3) (.cells cb 3))
  have h2 := heap_new ((c.alloc (.cells ca 3)).alloc (.cells cb 3)) (.cells #[.slice (some ⟨c.heap.size, 0, none⟩) 3 3, .slice (some ⟨c.heap.size + 1, 0, none⟩) 3 3] t) (c.heap.size + 1 + 1) (by simp)
  refine ⟨⟨rfl, _, 2, rfl, Nat.le_refl _, by simp [maxLen], fun _ => ⟨_, 0, rfl, lt_of_heap h2, fun i u hu => ?_⟩⟩, fun p hp => ?_⟩
  · rw [Nat.zero_add, cell_of_heap h2, ← hu]
    simp
  · rcases List.mem_cons.1 hp with rfl | hp
    · exact ints_of_heap h0 hca hx (by rw [hx]; simp [maxLen])
    · rcases List.mem_cons.1 hp with rfl | hp
      · exact ints_of_heap h1 hcb hy (by rw [hy]; simp [maxLen])
      · cases hp
set_option maxRecDepth 100000 in
set_option maxHeartbeats 3200000 in
theorem awake11_any (w : World) : Calls Try.prog 7 #[] w fun e w' => e = .returned (.bool true) ∧ Below w.heap.size w w' := by
  go_enter Try.func7, Try.ntmps7
  have E0 := Lib.hid (Env.nil w)
  have E1 := Lib.hid (E0.out.lit [0, 0, 0, 0, 0, 0, 0, 0, 0, 0, 1, 1] #[.int .i64 0, .int .i64 0, .int .i64 0, .int .i64 0, .int .i64 0, .int .i64 0, .int .i64 0, .int .i64 0, .int .i64 0, .int .i64 0, .int .i64 1, .int .i64 1] (w.heap.size) (by simp) rfl (by simp [maxLen]))
  clear E0 
  go_wp2_with fail
  refine (aw11_groups _ _ (E1.out.get 0 rfl)).mono ?_
  rintro e w1 ⟨q1, c1, rfl, hB⟩
  have E2 := Lib.hid (E1.out.step hB)
  clear E1 hB  
  go_wp2_with fail
  refine (aw11_tables _ _ (E2.out.get 0 rfl)).mono ?_
  rintro e w2 ⟨va, vb, q2, c2, q3, c3, rfl, hT, hv, hB⟩
  have E3 := Lib.hid ((E2.out.step hB).add hv)
  clear E2 hB hv 
  have HT := Lib.hid hT
  have HBase := Lib.hid E3.out.bel
  clear hT
  have E4 := Lib.hid (((Env.nil w2).add (E3.out.get 1 rfl)).add (E3.out.get 0 rfl))
  clear E3
  go_wp2_with fail
  refine (tables_arg _ _ _ 1 (E4.out.get 1 rfl) (by decide)).mono ?_
  rintro e w3 ⟨rfl, hB⟩
  have E5 := Lib.hid (E4.out.step hB)
  clear E4 hB  
  have E6 := Lib.hid (E5.out.lit [3] #[.int .i64 3] (w3.heap.size) (by simp) rfl (by simp [maxLen]))
  clear E5 
  go_wp2_with fail
  refine (tables_none _ _ [3] 3 (E6.out.get 0 rfl) (by decide) (by decide) (by decide) (by decide) (by decide)).mono ?_
  rintro e w4 ⟨rfl, hB⟩
  have E7 := Lib.hid (E6.out.step hB)
  clear E6 hB  
  have E8 := Lib.hid (E7.out.lit [1, 2, 2] #[.int .i64 1, .int .i64 2, .int .i64 2] (w4.heap.size) (by simp) rfl (by simp [maxLen]))
  clear E7 
  have E9 := Lib.hid (E8.out.lit [0, 2] #[.int .i64 0, .int .i64 2] (w4.heap.size + 1) (by simp) rfl (by simp [maxLen]))
  clear E8 
  go_wp2_with fail
  refine (aw11_bits _ _ _ (E9.out.get 1 rfl) (E9.out.get 0 rfl)).mono ?_
  rintro e w5 ⟨rfl, hB⟩
  have E10 := Lib.hid (E9.out.step hB)
  clear E9 hB  
  have E11 := Lib.hid (E10.out.lit [1] #[.int .i64 1] (w5.heap.size) (by simp) rfl (by simp [maxLen]))
  clear E10 
  go_wp2_with fail
  refine (cbits_er _ _ _ [1] 1 (E11.out.get 0 rfl) (by decide) (by decide) (by decide)).mono ?_
  rintro e w6 ⟨rfl, hB⟩
  have E12 := Lib.hid (E11.out.step hB)
  clear E11 hB  
  have E13 := Lib.hid (E12.out.lit [1, 1] #[.int .i64 1, .int .i64 1] (w6.heap.size) (by simp) rfl (by simp [maxLen]))
  clear E12 
  have E14 := Lib.hid (E13.out.lit [2] #[.int .i64 2] (w6.heap.size + 1) (by simp) rfl (by simp [maxLen]))
  clear E13 
  go_wp2_with fail
  refine (cbits_none _ _ _ [1, 1] [2] (E14.out.get 1 rfl) (E14.out.get 0 rfl) (by decide) (by decide) (by decide) (by decide)).mono ?_
  rintro e w7 ⟨rfl, hB⟩
  have E15 := Lib.hid (E14.out.step hB)
  clear E14 hB  
  have E16 := Lib.hid (E15.out.lit [0, 1] #[.int .i64 0, .int .i64 1] (w7.heap.size) (by simp) rfl (by simp [maxLen]))
  clear E15 
  go_wp2_with fail
  refine (aw11_ints _ _ _ _ (E16.out.get 7 rfl) (E16.out.get 0 rfl) (by decide)).mono ?_
  rintro e w8 ⟨rfl, hB⟩
  have E17 := Lib.hid (E16.out.step hB)
  clear E16 hB  
  have F1 := Lib.hid (E17.out.lit [1, 2, 2] #[.int .i64 1, .int .i64 2, .int .i64 2] (w8.heap.size) (by simp) rfl (by simp [maxLen]))
  have F2 := Lib.hid (F1.out.lit [2, 1, 2] #[.int .i64 2, .int .i64 1, .int .i64 2] (w8.heap.size + 1) (by simp) rfl (by simp [maxLen]))
  have F3 := Lib.hid (F2.out.box #[.slice (some ⟨w8.heap.size, 0, none⟩) 3 3, .slice (some ⟨w8.heap.size + 1, 0, none⟩) 3 3] 22 (w8.heap.size + 1 + 1) (by simp))
  clear E17 F1 F2
  go_wp2_with fail
  refine (lists_eq _ _ _ [(va, [1, 2, 2]), (vb, [2, 1, 2])] [(.slice (some ⟨w8.heap.size, 0, none⟩) 3 3, [1, 2, 2]), (.slice (some ⟨w8.heap.size + 1, 0, none⟩) 3 3, [2, 1, 2])] (HT.out.up F3.out.bel) (isSl_new2 w8 [1, 2, 2] [2, 1, 2] _ _ _ rfl rfl rfl rfl) rfl (by simp) (by simp)).mono ?_
  rintro e w9 ⟨rfl, hB⟩
  have F4 := Lib.hid (F3.out.step hB)
  clear F3 hB
  go_wp2_with fail
  go_ret
  exact ⟨rfl, HBase.out.trans (F4.out.bel.mono HBase.out.size)⟩
set_option maxHeartbeats 400000 in
theorem pick11_any (c n : Int) (w : World) (hc : -9223372036854775808 ≤ c) (hc' : c ≤ 9223372036854775807) (hn : 0 < n) (hn' : n ≤ 9223372036854775807) :
    Calls Try.prog 8 #[.int .i64 c, .int .i64 n] w fun e w' => e = .returned (.int .i64 (pickF c n)) ∧ w = w' := by
  by_cases h : c < 0
  · have e : pickF c n = (-(c + 1)) % n := by unfold pickF; rw [if_pos h]
    rw [e]; clear e
    go_enter Try.func8, Try.ntmps8
    go_wp2
    go_ret
    exact ⟨ret_int (by rw [← Int.neg_tmod]; exact Int.tmod_eq_emod_of_nonneg (by omega)), rfl⟩
  · have e : pickF c n = c % n := by unfold pickF; rw [if_neg h]
    rw [e]; clear e
    go_enter Try.func8, Try.ntmps8
    go_wp2
    go_ret
    exact ⟨rfl, rfl⟩
end Go.Proofs.Ytodniacnjdnffaa
