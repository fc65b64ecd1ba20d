/- SelectorsBack: the walk. -/
import Derived.Test.YtpccdohhiojlkaaLaw12Cut
import Derived.Deep.RegionHeld3
import Derived.Deep.DeepCutAuto
namespace Go.Proofs.Ytpccdohhiojlkaa
open Go.RowKit
set_option linter.unusedVariables false

theorem selL_take (l : List Nat) : ∀ (p : List Nat) (k : Nat), ∃ R, selL p l = selL p (l.take k) ++ R := by
  intro p k
  obtain ⟨q, h⟩ := selL_append (l.take k) (l.drop k) p
  rw [List.take_append_drop] at h
  exact ⟨_, h⟩

set_option maxRecDepth 100000 in
set_option maxHeartbeats 6400000 in
theorem sback_walk (w : World) (v v1 v2 : Value) (raw one two : List Int) (tables few : Int) (hv : IsInts w w.heap.size v raw) (hr : I64s raw) (hv1 : IsInts w w.heap.size v1 one) (hr1 : I64s one) (hv2 : IsInts w w.heap.size v2 two) (hr2 : I64s two) (ht : -9223372036854775808 ≤ tables) (ht' : tables ≤ 9223372036854775807) (hf : -9223372036854775808 ≤ few) (hf' : few ≤ 9223372036854775807) :
    Calls Try.prog 4 #[.int .i64 tables, v, v1, v2, .int .i64 few] w fun e w' => e = .returned (.bool true) ∧ Below w.heap.size w w' := by
  have HRW := Lib.hid hv
  have HR1 := Lib.hid hv1
  have HR2 := Lib.hid hv2
  have hp5 := pickF_lt tables 5 (by omega)
  obtain ⟨a, ha⟩ : ∃ k : Nat, pickF tables 5 = (k : Int) := ⟨(pickF tables 5).toNat, by omega⟩
  obtain ⟨t, hta⟩ : ∃ t, t = 2 + a := ⟨_, rfl⟩
  have hta2 : (2 : Int) + (a : Int) = (t : Int) := by omega
  have ht2 : 2 ≤ t := by omega
  have ht6 : t ≤ 6 := by omega
  have HA := Lib.hid ha
  have hlt := symsF_lt raw t 60 (by omega)
  have hl60 := symsF_len raw t 60
  have ha30 := length_rawBits one 30
  have hb30 := length_rawBits two 30
  have CS : Hid (∀ W, IsInts W W.heap.size v raw → Calls Try.prog 10 #[v, .int .i64 (t : Nat), .int .i64 60] W fun e w' => ∃ q c, e = .returned (.slice q (symsF raw t 60).length c) ∧ IsInts w' w'.heap.size (.slice q (symsF raw t 60).length c) (ints (symsF raw t 60)) ∧ Below W.heap.size W w') := fun W h => syms_is W v raw t 60 h hr (by omega) (by omega) (by omega)
  have CA : Hid (∀ W, IsInts W W.heap.size v1 one → Calls Try.prog 16 #[v1, .int .i64 30] W fun e w' => e = .returned (.agg #[.string (txt (rawBits one 30)), .int .i64 ((rawBits one 30).length : Nat)]) ∧ Below W.heap.size W w') := fun W hv => lawBits_any W _ one 30 hv hr1 (by omega)
  have CB : Hid (∀ W, IsInts W W.heap.size v2 two → Calls Try.prog 16 #[v2, .int .i64 30] W fun e w' => e = .returned (.agg #[.string (txt (rawBits two 30)), .int .i64 ((rawBits two 30).length : Nat)]) ∧ Below W.heap.size W w') := fun W hv => lawBits_any W _ two 30 hv hr2 (by omega)
  generalize rawBits one 30 = A at *
  generalize rawBits two 30 = T at *
  generalize symsF raw t 60 = l at *
  obtain ⟨n, hn⟩ : ∃ n, l.length = n := ⟨_, rfl⟩
  have CP : Hid (∀ W (u : Value), IsInts W W.heap.size u (ints l) → Calls Try.prog 11 #[u, .int .i64 (t : Nat)] W fun e w' => e = .returned (.tuple #[.agg #[.string (txt (selL (List.range 6) l)), .int .i64 ((selL (List.range 6) l).length : Nat)], .int .i64 0]) ∧ Below W.heap.size W w') := fun W u h => selPut_any W u l t h (by omega) ht2 ht6 hlt
  have hDl := length_selL t ht6 l _ (tabs_start t ht6) hlt
  have hpk := pickF_lt few ((n : Int) + 1) (by omega)
  obtain ⟨K, hK⟩ : ∃ K : Nat, pickF few ((n : Int) + 1) = (K : Int) := ⟨(pickF few ((n : Int) + 1)).toNat, by omega⟩
  have hKn : K ≤ n := by omega
  obtain ⟨B2, hB2⟩ : ∃ x, selL (List.range 6) (l.take K) = x := ⟨_, rfl⟩
  obtain ⟨R2, hR2⟩ : ∃ R, selL (List.range 6) l = B2 ++ R := by rw [← hB2]; exact selL_take l (List.range 6) K
  have hkl : (l.take K).length = K := by rw [List.length_take]; omega
  have hltk : ∀ n ∈ l.take K, n < t := fun n h => hlt n (List.mem_of_mem_take h)
  have CQ : Hid (∀ W (u : Value), IsInts W W.heap.size u (ints (l.take K)) → Calls Try.prog 11 #[u, .int .i64 (t : Nat)] W fun e w' => e = .returned (.tuple #[.agg #[.string (txt B2), .int .i64 (B2.length : Nat)], .int .i64 0]) ∧ Below W.heap.size W w') := fun W u h => by
    have h2 := selPut_any W u (l.take K) t h (by omega) ht2 ht6 hltk
    rw [hB2] at h2
    exact h2
  obtain ⟨D, hD⟩ : ∃ D, [A, selL (List.range 6) l, T].flatten = D := ⟨_, rfl⟩
  have hDb : D.length ≤ 3000 := by rw [← hD]; simp; omega
  have CT : Hid (∀ W, Calls Try.prog 13 #[.string (txt D), .int .i64 (A.length : Nat), .int .i64 (n : Nat), .int .i64 (t : Nat)] W fun e w' => ∃ q c, e = .returned (.tuple #[.slice q n c, .int .i64 ((A.length + (selL (List.range 6) l).length : Nat)), .int .i64 0]) ∧ IsInts w' w'.heap.size (.slice q n c) (ints l) ∧ Below W.heap.size W w') := fun W => by
    have h := take_ok W (txt D) A.length n t l (A.length + (selL (List.range 6) l).length) (by rw [txt_size]; omega) (by omega) (by omega) (by omega) (by rw [txt_list, ← hD, ← hn]; exact selR_within t ht6 A l T hlt)
    rw [hn] at h
    exact h
  have CU : Hid (∀ W, Calls Try.prog 13 #[.string (txt D), .int .i64 (A.length : Nat), .int .i64 (K : Nat), .int .i64 (t : Nat)] W fun e w' => ∃ q c, e = .returned (.tuple #[.slice q K c, .int .i64 ((A.length + B2.length : Nat)), .int .i64 0]) ∧ IsInts w' w'.heap.size (.slice q K c) (ints (l.take K)) ∧ Below W.heap.size W w') := fun W => by
    have h := take_ok W (txt D) A.length K t (l.take K) (A.length + B2.length) (by rw [txt_size]; omega) (by omega) (by omega) (by omega) (by
      rw [txt_list, ← hD, ← hB2]
      have h3 := selR_within t ht6 A (l.take K) (R2 ++ T) hltk
      rw [hkl] at h3
      rw [show [A, selL (List.range 6) l, T].flatten = [A, selL (List.range 6) (l.take K), R2 ++ T].flatten by rw [hR2, hB2]; simp]
      exact h3)
    rw [hkl] at h
    exact h
  have CI : Hid (∀ W (u1 u2 : Value) (m : List Nat), m.length ≤ 100 → IsInts W W.heap.size u1 (ints m) → IsInts W W.heap.size u2 (ints m) → Calls Try.prog 15 #[u1, u2] W fun e w' => e = .returned (.bool true) ∧ Below W.heap.size W w') := fun W u1 u2 m hm h1 h2 => by
    have := refInts_any W u1 u2 _ _ h1 h2 (by rw [length_ints]; omega) (by rw [length_ints]; omega)
    rw [decide_eq_true rfl] at this
    exact this
  have hBl : (selL (List.range 6) l).length ≤ 2500 := by omega
  have hB2l : B2.length ≤ 2500 := by have := congrArg List.length hR2; rw [List.length_append] at this; omega
  have Htk : Hid (ints (l.take K) = ((ints l).take K).drop 0) := by show _ = _; simp [ints, List.map_take]
  generalize hBe : selL (List.range 6) l = Bl at *
  have HK := Lib.hid hK
  have HD := Lib.hid hD
  have Hkl := Lib.hid hkl
  have Hn := Lib.hid hn
  rw [hn] at CS hl60
  clear hv hv1 hv2 hr hr1 hr2 ha hp5 hta hlt hn hDl hB2 hR2 hltk hD hpk hK hBe hkl
  go_enter Try.func4, Try.ntmps4
  have E0 := Lib.hid (Env.nil w)
  go_wp2_with fail
  refine (awake12_any _).mono ?_
  rintro e w1 ⟨rfl, hB⟩
  have E1 := Lib.hid (E0.out.step hB)
  clear E0 hB  
  go_wp2_with fail
  refine (pick12_any tables 5 _ ht ht' (by omega) (by omega)).mono ?_
  rintro e w_ ⟨rfl, rfl⟩
  rw [HA.out]
  go_wp2_with fail
  refine (CS.out _ (E1.out.old HRW.out)).mono ?_
  rintro e w2 ⟨q1, c1, rfl, hv, hB⟩
  have E2 := Lib.hid ((E1.out.step hB).add hv)
  clear E1 hB hv 
  go_wp2_with fail
  refine (CP.out _ _ (E2.out.get 0 rfl)).mono ?_
  rintro e w3 ⟨rfl, hB⟩
  have E3 := Lib.hid (E2.out.step hB)
  clear E2 hB  
  have E4 := Lib.hid (E3.out.box #[.string (txt Bl), .int .i64 (Bl.length : Nat)] 28 (w3.heap.size) (by simp))
  clear E3 
  go_wp2_with fail
  refine (CA.out _ (E4.out.old HR1.out)).mono ?_
  rintro e w4 ⟨rfl, hB⟩
  have E5 := Lib.hid (E4.out.step hB)
  clear E4 hB  
  have E6 := Lib.hid (E5.out.box #[.string (txt A), .int .i64 (A.length : Nat)] 28 (w4.heap.size) (by simp))
  clear E5 
  clear CS CP CA
  go_upto_region 6 with fail
  obtain ⟨W, hW⟩ : ∃ W, w4.alloc (.cells #[.string (txt A), .int .i64 (A.length : Nat)] 28) = W := ⟨_, rfl⟩
  rw [hW] at E6 ⊢
  clear hW
  have HkW : Hid (∀ w' : World, Below W.heap.size W w' → Below W.heap.size W w' ∧ w'.cell? ⟨w4.heap.size, 0, none⟩ = some (.string (txt A)) ∧ w'.cell? ⟨w4.heap.size, 1, none⟩ = some (.int .i64 (A.length : Nat)) ∧ w'.cell? ⟨w3.heap.size, 0, none⟩ = some (.string (txt Bl)) ∧ w'.cell? ⟨w3.heap.size, 1, none⟩ = some (.int .i64 (Bl.length : Nat))) := fun w' h =>
    have hE := E6.out.step h
    ⟨h, hE.cellv 0 rfl 0 _ rfl, hE.cellv 0 rfl 1 _ rfl, hE.cellv 1 rfl 0 _ rfl, hE.cellv 1 rfl 1 _ rfl⟩
  have hbW : Below W.heap.size W W := Below.refl _ _
  obtain ⟨_, k00, k01, k10, k11⟩ := HkW.out W hbW
  go_cut [17, 18] (fun sa se wx => ∃ k : Nat, sa = .pointer (some ⟨k, 0, none⟩) ∧ se = .int .i64 0 ∧ Env w wx [(.slice q1 n c1, ints l)] ((k, #[.string (txt D), .int .i64 (D.length : Nat)], 28) :: [(w4.heap.size, #[.string (txt A), .int .i64 (A.length : Nat)], 28), (w3.heap.size, #[.string (txt Bl), .int .i64 (Bl.length : Nat)], 28)]))
  case first =>
    go_region_held3 (fun w' => Below W.heap.size W w' ∧ w'.cell? ⟨w4.heap.size, 0, none⟩ = some (.string (txt A)) ∧ w'.cell? ⟨w4.heap.size, 1, none⟩ = some (.int .i64 (A.length : Nat)) ∧ w'.cell? ⟨w3.heap.size, 0, none⟩ = some (.string (txt Bl)) ∧ w'.cell? ⟨w3.heap.size, 1, none⟩ = some (.int .i64 (Bl.length : Nat)))
      ((refine HkW.out _ ?_; first | assumption | exact bel_drew (by assumption) | exact bel_alloc (And.left (by assumption)) _ | exact bel_drew (bel_alloc (by assumption) _) | exact bel_call (by assumption) (And.left (by assumption)) | exact bel_call (by assumption) (bel_alloc (And.left (by assumption)) _) | exact bel_alloc (by assumption) _ | exact bel_set (bel_set (by assumption) (by omega) _ _) (by omega) _ _))
      ((first
        | (go_at_call 16
           refine (CB.out _ ?_).mono ?_
           · exact ints_up (E6.out.old HR2.out) (And.left (by assumption))
           rintro e w8 ⟨rfl, hB8⟩
           have hW8 : Below W.heap.size W w8 := bel_call hB8 (And.left (by assumption))
           have hz8 := hW8.size
           try (have HC8 : w8.heap[W.heap.size]? = some (.cells #[.string ⟨#[]⟩, .int .i64 0] 28) := heap_call hB8 (heap_new W (.cells #[.string ⟨#[]⟩, .int .i64 0] 28) _ rfl)))
        | (go_at_call 17
           refine (cat_is _ _ [A, Bl, T] D HD.out ?_ (by simp; omega)).mono ?_
           · first
             | exact IsPairs.new _ _ (by simp) [pairOf A, pairOf Bl, pairOf T] _ rfl (by simp [maxLen])
             | exact pairs_alloc (IsPairs.new _ _ (by simp) [pairOf A, pairOf Bl, pairOf T] _ rfl (by simp [maxLen])) _
           rintro e w9 ⟨rfl, hB9⟩
           have hW9 : Below W.heap.size W w9 := bel_call hB9 (And.left (by assumption))
           have hz9 := hW9.size
           first
             | have HC9 : w9.heap[W.heap.size]? = some (.cells #[.string ⟨#[]⟩, .int .i64 0] 28) := heap_call hB9 (heap_up _ HC8)
             | have HC9 : w9.heap[w8.heap.size]? = some (.cells #[.string ⟨#[]⟩, .int .i64 0] 28) := heap_call hB9 (heap_up _ (heap_new w8 (.cells #[.string ⟨#[]⟩, .int .i64 0] 28) _ rfl))
             | have HC9 : w9.heap[w8.heap.size + 1]? = some (.cells #[.string ⟨#[]⟩, .int .i64 0] 28) := heap_call hB9 (heap_new1 w8 _ (.cells #[.string ⟨#[]⟩, .int .i64 0] 28))
             | skip
           try (have kc0 := cell_of_heap HC9 0; have kc1 := cell_of_heap HC9 1; have fc := frozen_of_heap HC9; have lc := lt_of_heap HC9))))
    all_goals
      go_wp2_with fail
      go_meet
      first
        | exact ⟨_, rfl, rfl, E6.out.fresh (bel_alloc hW9 _) (heap_new w9 _ _ rfl)⟩
        | exact ⟨_, rfl, rfl, E6.out.fresh (bel_set (bel_set hW9 (by omega) _ _) (by omega) _ _) (heap_set2 HC9 _ _)⟩
  case rest =>
    obtain ⟨k, rfl, rfl, hE⟩ := hcut
    have E7 := Lib.hid hE
    clear hE HkW hbW k00 k01 k10 k11 E6
    have k_all0 := E7.out.cellv 0 rfl 0 _ rfl
    have k_a1 := E7.out.cellv 1 rfl 1 _ rfl
    go_wp2_with fail
    refine (CT.out _).mono ?_
    rintro e w10 ⟨q7, c7, rfl, hv, hB⟩
    have E8 := Lib.hid ((E7.out.step hB).add hv)
    clear E7 hB hv 
    clear k_all0 k_a1
    clear CT
    go_wp2_with fail
    refine (pick12_any few _ _ hf hf' (by omega) (by omega)).mono ?_
    rintro e w_ ⟨rfl, rfl⟩
    rw [HK.out]
    have k_all0 := E8.out.cellv 0 rfl 0 _ rfl
    have k_a1 := E8.out.cellv 1 rfl 1 _ rfl
    go_wp2_with fail
    refine (CU.out _).mono ?_
    rintro e w11 ⟨q8, c8, rfl, hv, hB⟩
    have E9 := Lib.hid ((E8.out.step hB).add hv)
    clear E8 hB hv 
    clear k_all0 k_a1
    clear CU
    obtain ⟨vk, hk1, ⟨qk, ck, hk2⟩, hk3, hk4, hk5⟩ := (E9.out.get 2 rfl).cut 0 K (Nat.zero_le _) hKn
    rw [Nat.sub_zero] at hk2
    subst hk2
    rw [← Htk.out] at hk1
    have hk6 := hk5 rfl
    clear hk3 hk4 hk5
    have E10 := Lib.hid (E9.out.add hk1)
    clear E9 hk1
    have hKi : (K : Int) ≤ (n : Int) := by omega
    go_wp2_with fail
    refine (CQ.out _ _ (E10.out.get 0 rfl)).mono ?_
    rintro e w12 ⟨rfl, hB⟩
    have E11 := Lib.hid (E10.out.step hB)
    clear E10 hB  
    have E12 := Lib.hid (E11.out.box #[.string (txt B2), .int .i64 (B2.length : Nat)] 28 (w12.heap.size) (by simp))
    clear E11 
    go_wp2_with fail
    refine (CI.out _ _ _ l (by rw [Hn.out]; omega) (E12.out.get 2 rfl) (E12.out.get 3 rfl)).mono ?_
    rintro e w13 ⟨rfl, hB⟩
    have E13 := Lib.hid (E12.out.step hB)
    clear E12 hB  
    have k_a0 := E13.out.cellv 2 rfl 0 _ rfl
    have k_a1 := E13.out.cellv 2 rfl 1 _ rfl
    have k_b0 := E13.out.cellv 3 rfl 0 _ rfl
    have k_b1 := E13.out.cellv 3 rfl 1 _ rfl
    have k_c0 := E13.out.cellv 0 rfl 0 _ rfl
    have k_c1 := E13.out.cellv 0 rfl 1 _ rfl
    go_wp2_with fail
    refine (CI.out _ _ _ (l.take K) (by rw [Hkl.out]; omega) (E13.out.get 1 rfl) (E13.out.get 0 rfl)).mono ?_
    rintro e w14 ⟨rfl, hB⟩
    have E14 := Lib.hid (E13.out.step hB)
    clear E13 hB  
    clear k_a0 k_a1 k_b0 k_b1 k_c0 k_c1
    have k_a0 := E14.out.cellv 2 rfl 0 _ rfl
    have k_a1 := E14.out.cellv 2 rfl 1 _ rfl
    have k_b0 := E14.out.cellv 3 rfl 0 _ rfl
    have k_b1 := E14.out.cellv 3 rfl 1 _ rfl
    have k_c0 := E14.out.cellv 0 rfl 0 _ rfl
    have k_c1 := E14.out.cellv 0 rfl 1 _ rfl
    go_wp2
    go_ret
    exact ⟨rfl, E14.out.bel⟩
end Go.Proofs.Ytpccdohhiojlkaa
