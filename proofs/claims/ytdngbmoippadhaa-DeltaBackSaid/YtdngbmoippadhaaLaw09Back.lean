/- DeltaBack: the walk. -/
import Derived.Test.YtdngbmoippadhaaLaw09Long
import Derived.Test.YtdngbmoippadhaaBitsSame
import Derived.Deep.RegionHeld3
import Derived.Deep.DeepCutAuto
namespace Go.Proofs.Ytdngbmoippadhaa
open Go.RowKit
set_option linter.unusedVariables false

theorem extract_list (s : ByteArray) (k : Nat) : (s.extract 0 k).data.toList = s.data.toList.take k := by simp
/-- what stands in packed bits from a place on -/
theorem rest_pack (D : List Bool) (k : Nat) (h : k ≤ D.length) : rest (B.pack D) k = D.drop k ++ List.replicate (8 * (B.pack D).length - D.length) false := by
  have hl := len8_pack D
  have h1 := rest_add (B.pack D) k (D.length - k) (by omega)
  rw [h1, B.slice_pack_at _ _ _ (by omega)]
  congr 1
  · rw [List.take_of_length_le (by simp)]
  · rw [show k + (D.length - k) = D.length by omega]
    apply List.ext_getElem
    · rw [length_rest, List.length_replicate]
    · intro i h2 h3
      rw [length_rest] at h2
      have := (B.right_pack D).2 (D.length + i) (by omega) (by omega)
      have hg := B.getD_slice (B.pack D) D.length (8 * (B.pack D).length - D.length) i h2
      rw [this] at hg
      rw [List.getElem_replicate]
      have he : (rest (B.pack D) D.length).getD i false = (rest (B.pack D) D.length)[i] := by
        rw [List.getD_eq_getElem?_getD, List.getElem?_eq_getElem (by rw [length_rest]; exact h2)]
        rfl
      rw [← he]
      exact hg
theorem takeR_within (A : List Bool) (l : List Nat) (T : List Bool) (h0 : l ≠ []) (hm : ∀ n ∈ l, 1 ≤ n ∧ n ≤ 20) : takeR (B.pack [A, deltaL l, T].flatten) A.length l.length = .ok (l, A.length + (deltaL l).length) := by
  have hf : [A, deltaL l, T].flatten = A ++ (deltaL l ++ T) := by simp
  have h8 := len8_pack (A ++ (deltaL l ++ T))
  rw [hf, takeR_deltaP _ _ _ (by simp only [List.length_append] at h8; omega), rest_pack _ _ (by simp), List.drop_left, List.append_assoc, deltaP_deltaL l _ h0 hm]
  simp only [placed, List.length_append, List.length_replicate] at h8 ⊢
  congr 2
  omega
theorem take_rest (s : List UInt8) (k : Nat) (h : k ≤ s.length) : ∃ q, rest s 0 = rest (s.take k) 0 ++ q ∧ q.length = 8 * (s.length - k) := by
  have h1 := rest_add s 0 (8 * k) (by omega)
  refine ⟨rest s (0 + 8 * k), ?_, by rw [length_rest]; omega⟩
  rw [h1]
  congr 1
  unfold rest
  rw [List.length_take, Nat.min_eq_left h, Nat.sub_zero]
  unfold B.slice
  apply List.map_congr_left
  intro i hi
  rw [List.mem_range] at hi
  unfold B.bitAt
  rw [List.getD_eq_getElem?_getD, List.getD_eq_getElem?_getD, List.getElem?_take, if_pos (by omega)]
theorem takeR_short (l : List Nat) (k : Nat) (h0 : l ≠ []) (hm : ∀ n ∈ l, 1 ≤ n ∧ n ≤ 20) (h : k < (B.pack (deltaL l)).length) : takeR ((B.pack (deltaL l)).take k) 0 l.length = .error 2 := by
  obtain ⟨q, h1, h2⟩ := take_rest (B.pack (deltaL l)) k (by omega)
  have h3 := rest_pack (deltaL l) 0 (Nat.zero_le _)
  rw [List.drop_zero] at h3
  have h4 := deltaP_deltaL l (List.replicate (8 * (B.pack (deltaL l)).length - (deltaL l).length) false) h0 hm
  rw [← h3, h1] at h4
  have hp := B.length_pack (deltaL l)
  rw [takeR_deltaP _ _ _ (by omega)]
  rcases deltaP_cut _ _ _ _ _ h4 with ⟨r', hr, _⟩ | ⟨_, h5⟩
  · have := congrArg List.length hr
    simp only [List.length_append, List.length_replicate] at this
    omega
  · rw [h5]
    rfl

set_option maxRecDepth 100000 in
set_option maxHeartbeats 6400000 in
theorem dback_walk (w : World) (v v1 v2 : Value) (raw one two : List Int) (cut : Int) (hv : IsInts w w.heap.size v raw) (hr : I64s raw) (hv1 : IsInts w w.heap.size v1 one) (hr1 : I64s one) (hv2 : IsInts w w.heap.size v2 two) (hr2 : I64s two) (hc : -9223372036854775808 ≤ cut) (hc' : cut ≤ 9223372036854775807) :
    Calls Try.prog 6 #[v, v1, v2, .int .i64 cut] w fun e w' => e = .returned (.bool true) ∧ Below w.heap.size w w' := by
  have HRW := Lib.hid hv
  have HR1 := Lib.hid hv1
  have HR2 := Lib.hid hv2
  have hml := lensF_mem raw
  obtain ⟨hl2, hl60⟩ := lensF_len raw
  have ha30 := length_rawBits one 30
  have hb30 := length_rawBits two 30
  have CL : Hid (∀ W, IsInts W W.heap.size v raw → Calls Try.prog 10 #[v] W fun e w' => ∃ q c, e = .returned (.slice q (lensF raw).length c) ∧ IsInts w' w'.heap.size (.slice q (lensF raw).length c) (ints (lensF raw)) ∧ Below W.heap.size W w') := fun W h => lens09_is W v raw h hr
  have CA : Hid (∀ W, IsInts W W.heap.size v1 one → Calls Try.prog 17 #[v1, .int .i64 30] W fun e w' => e = .returned (.agg #[.string (txt (rawBits one 30)), .int .i64 ((rawBits one 30).length : Nat)]) ∧ Below W.heap.size W w') := fun W hv => lawBits_any W _ one 30 hv hr1 (by omega)
  have CB : Hid (∀ W, IsInts W W.heap.size v2 two → Calls Try.prog 17 #[v2, .int .i64 30] W fun e w' => e = .returned (.agg #[.string (txt (rawBits two 30)), .int .i64 ((rawBits two 30).length : Nat)]) ∧ Below W.heap.size W w') := fun W hv => lawBits_any W _ two 30 hv hr2 (by omega)
  generalize rawBits one 30 = A at *
  generalize rawBits two 30 = T at *
  generalize lensF raw = l at *
  obtain ⟨n, hn⟩ : ∃ n, l.length = n := ⟨_, rfl⟩
  have CP : Hid (∀ W (u : Value), IsInts W W.heap.size u (ints l) → Calls Try.prog 11 #[u] W fun e w' => e = .returned (.tuple #[.agg #[.string (txt (deltaL l)), .int .i64 ((deltaL l).length : Nat)], .int .i64 0]) ∧ Below W.heap.size W w') := fun W u h => delta_put_ok W u l h (by omega) (by omega) hml
  have hdb := length_deltaL l (fun m hm => (hml m hm).2)
  obtain ⟨sz, hsz⟩ : ∃ z, (txt (deltaL l)).size = z := ⟨_, rfl⟩
  have hszb : sz ≤ 400 := by rw [← hsz, txt_size]; omega
  have hp := pickF_lt cut ((sz : Int) + 1) (by omega)
  obtain ⟨K, hK⟩ : ∃ K : Nat, pickF cut ((sz : Int) + 1) = (K : Int) := ⟨(pickF cut ((sz : Int) + 1)).toNat, by omega⟩
  have hKs : K ≤ sz := by omega
  have CT : Hid (∀ W, Calls Try.prog 14 #[.string (txt [A, deltaL l, T].flatten), .int .i64 (A.length : Nat), .int .i64 (n : Nat)] W fun e w' => ∃ q c, e = .returned (.tuple #[.slice q n c, .int .i64 ((A.length + (deltaL l).length : Nat)), .int .i64 0]) ∧ IsInts w' w'.heap.size (.slice q n c) (ints l) ∧ Below W.heap.size W w') := fun W => by
    have h := take_ok W (txt [A, deltaL l, T].flatten) A.length n l (A.length + (deltaL l).length) (by rw [txt_size]; simp; omega) (by omega) (by omega) (by rw [txt_list, ← hn]; exact takeR_within A l T (by intro e; rw [e] at hl2; simp at hl2) hml)
    rw [hn] at h
    exact h
  have CC : Hid (∀ W, K < sz → Calls Try.prog 14 #[.string ((txt (deltaL l)).extract 0 K), .int .i64 0, .int .i64 (n : Nat)] W fun e w' => e = .returned (.tuple #[.slice none 0 0, .int .i64 0, .int .i64 2]) ∧ Below W.heap.size W w') := fun W h => take_er W _ 0 n 2 (by simp [hsz]; omega) (by omega) (by omega) (by rw [extract_list, txt_list, ← hn]; exact takeR_short l K (by intro e; rw [e] at hl2; simp at hl2) hml (by have := B.length_pack (deltaL l); rw [← txt_size, hsz] at this; omega))
  have CF : Hid (∀ W, K = sz → ∃ x, Calls Try.prog 14 #[.string ((txt (deltaL l)).extract 0 K), .int .i64 0, .int .i64 (n : Nat)] W fun e w' => ∃ q c, e = .returned (.tuple #[.slice q n c, .int .i64 (x : Nat), .int .i64 0]) ∧ IsInts w' w'.heap.size (.slice q n c) (ints l) ∧ Below W.heap.size W w') := fun W h => ⟨(deltaL l).length, by
    have h2 := take_ok W ((txt (deltaL l)).extract 0 K) 0 n l (deltaL l).length (by simp [hsz]; omega) (by omega) (by omega) (by rw [extract_list, txt_list, List.take_of_length_le (by have := B.length_pack (deltaL l); rw [← txt_size, hsz] at this; omega), ← hn]; have h3 := takeR_within [] l [] (by intro e; rw [e] at hl2; simp at hl2) hml; simpa using h3)
    rw [hn] at h2
    exact h2⟩
  have CI : Hid (∀ W (u1 u2 : Value), IsInts W W.heap.size u1 (ints l) → IsInts W W.heap.size u2 (ints l) → Calls Try.prog 16 #[u1, u2] W fun e w' => e = .returned (.bool true) ∧ Below W.heap.size W w') := fun W u1 u2 h1 h2 => by
    have := refInts_any W u1 u2 _ _ h1 h2 (by rw [length_ints]; omega) (by rw [length_ints]; omega)
    rw [decide_eq_true rfl] at this
    exact this
  obtain ⟨D, hD⟩ : ∃ D, [A, deltaL l, T].flatten = D := ⟨_, rfl⟩
  rw [hD] at CT
  have hBl : (deltaL l).length ≤ 2500 := by omega
  clear hdb
  generalize hBe : deltaL l = Bl at *
  have HK := Lib.hid hK
  have hDl : D.length ≤ 3000 := by rw [← hD]; simp; omega
  have HD := Lib.hid hD
  have Hn := Lib.hid hn
  rw [hn] at CL hl2 hl60
  clear hv hv1 hv2 hr hr1 hr2 hn hD hBe hml hp hK
  go_enter Try.func6, Try.ntmps6
  have E0 := Lib.hid (Env.nil w)
  go_wp2_with fail
  refine (awake9_any _).mono ?_
  rintro e w1 ⟨rfl, hB⟩
  have E1 := Lib.hid (E0.out.step hB)
  clear E0 hB  
  go_wp2_with fail
  refine (CL.out _ (E1.out.old HRW.out)).mono ?_
  rintro e w2 ⟨q1, c1, rfl, hv, hB⟩
  have E2 := Lib.hid ((E1.out.step hB).add hv)
  clear E1 hB hv 
  go_wp2_with fail
  refine (CP.out _ _ (E2.out.get 0 rfl)).mono ?_
  rintro e w3 ⟨rfl, hB⟩
  have E3 := Lib.hid (E2.out.step hB)
  clear E2 hB  
  have E4 := Lib.hid (E3.out.box #[.string (txt Bl), .int .i64 (Bl.length : Nat)] 27 (w3.heap.size) (by simp))
  clear E3 
  go_wp2_with fail
  refine (CA.out _ (E4.out.old HR1.out)).mono ?_
  rintro e w4 ⟨rfl, hB⟩
  have E5 := Lib.hid (E4.out.step hB)
  clear E4 hB  
  have E6 := Lib.hid (E5.out.box #[.string (txt A), .int .i64 (A.length : Nat)] 27 (w4.heap.size) (by simp))
  clear E5 
  clear CL CP CA
  go_upto_region 5 with fail
  obtain ⟨W, hW⟩ : ∃ W, w4.alloc (.cells #[.string (txt A), .int .i64 (A.length : Nat)] 27) = W := ⟨_, rfl⟩
  rw [hW] at E6 ⊢
  clear hW
  have HkW : Hid (∀ w' : World, Below W.heap.size W w' → Below W.heap.size W w' ∧ w'.cell? ⟨w4.heap.size, 0, none⟩ = some (.string (txt A)) ∧ w'.cell? ⟨w4.heap.size, 1, none⟩ = some (.int .i64 (A.length : Nat)) ∧ w'.cell? ⟨w3.heap.size, 0, none⟩ = some (.string (txt Bl)) ∧ w'.cell? ⟨w3.heap.size, 1, none⟩ = some (.int .i64 (Bl.length : Nat))) := fun w' h =>
    have hE := E6.out.step h
    ⟨h, hE.cellv 0 rfl 0 _ rfl, hE.cellv 0 rfl 1 _ rfl, hE.cellv 1 rfl 0 _ rfl, hE.cellv 1 rfl 1 _ rfl⟩
  have hbW : Below W.heap.size W W := Below.refl _ _
  obtain ⟨_, k00, k01, k10, k11⟩ := HkW.out W hbW
  go_cut [14, 15] (fun sa se wx => ∃ k : Nat, sa = .pointer (some ⟨k, 0, none⟩) ∧ se = .int .i64 0 ∧ Env w wx [(.slice q1 n c1, ints l)] ((k, #[.string (txt D), .int .i64 (D.length : Nat)], 27) :: [(w4.heap.size, #[.string (txt A), .int .i64 (A.length : Nat)], 27), (w3.heap.size, #[.string (txt Bl), .int .i64 (Bl.length : Nat)], 27)]))
  case first =>
    go_region_held3 (fun w' => Below W.heap.size W w' ∧ w'.cell? ⟨w4.heap.size, 0, none⟩ = some (.string (txt A)) ∧ w'.cell? ⟨w4.heap.size, 1, none⟩ = some (.int .i64 (A.length : Nat)) ∧ w'.cell? ⟨w3.heap.size, 0, none⟩ = some (.string (txt Bl)) ∧ w'.cell? ⟨w3.heap.size, 1, none⟩ = some (.int .i64 (Bl.length : Nat)))
      ((refine HkW.out _ ?_; first | assumption | exact bel_drew (by assumption) | exact bel_alloc (And.left (by assumption)) _ | exact bel_drew (bel_alloc (by assumption) _) | exact bel_call (by assumption) (And.left (by assumption)) | exact bel_call (by assumption) (bel_alloc (And.left (by assumption)) _) | exact bel_alloc (by assumption) _ | exact bel_set (bel_set (by assumption) (by omega) _ _) (by omega) _ _))
      ((first
        | (go_at_call 17
           refine (CB.out _ ?_).mono ?_
           · exact ints_up (E6.out.old HR2.out) (And.left (by assumption))
           rintro e w8 ⟨rfl, hB8⟩
           have hW8 : Below W.heap.size W w8 := bel_call hB8 (And.left (by assumption))
           have hz8 := hW8.size
           try (have HC8 : w8.heap[W.heap.size]? = some (.cells #[.string ⟨#[]⟩, .int .i64 0] 27) := heap_call hB8 (heap_new W (.cells #[.string ⟨#[]⟩, .int .i64 0] 27) _ rfl)))
        | (go_at_call 18
           refine (cat_is _ _ [A, Bl, T] D HD.out ?_ (by simp; omega)).mono ?_
           · first
             | exact IsPairs.new _ _ (by simp) [pairOf A, pairOf Bl, pairOf T] _ rfl (by simp [maxLen])
             | exact pairs_alloc (IsPairs.new _ _ (by simp) [pairOf A, pairOf Bl, pairOf T] _ rfl (by simp [maxLen])) _
           rintro e w9 ⟨rfl, hB9⟩
           have hW9 : Below W.heap.size W w9 := bel_call hB9 (And.left (by assumption))
           have hz9 := hW9.size
           first
             | have HC9 : w9.heap[W.heap.size]? = some (.cells #[.string ⟨#[]⟩, .int .i64 0] 27) := heap_call hB9 (heap_up _ HC8)
             | have HC9 : w9.heap[w8.heap.size]? = some (.cells #[.string ⟨#[]⟩, .int .i64 0] 27) := heap_call hB9 (heap_up _ (heap_new w8 (.cells #[.string ⟨#[]⟩, .int .i64 0] 27) _ rfl))
             | have HC9 : w9.heap[w8.heap.size + 1]? = some (.cells #[.string ⟨#[]⟩, .int .i64 0] 27) := heap_call hB9 (heap_new _ (.cells #[.string ⟨#[]⟩, .int .i64 0] 27) (w8.heap.size + 1) (by simp))
             | skip
           try (have kc0 := cell_of_heap HC9 0; have kc1 := cell_of_heap HC9 1; have fc := frozen_of_heap HC9; have lc := lt_of_heap HC9))))
    all_goals
      go_wp2_with fail
      go_meet
      first
        | exact ⟨_, rfl, rfl, E6.out.fresh (bel_alloc hW9 _) (heap_new w9 _ _ rfl)⟩
        | exact ⟨_, rfl, rfl, E6.out.fresh (bel_set (bel_set hW9 (by omega) _ _) (by omega) _ _) (heap_set2 HC9 _ _)⟩
  case rest =>
    obtain ⟨k, rfl, rfl, hE⟩ := hcut
    have E7 := Lib.hid hE
    clear hE HkW hbW k00 k01 k10 k11 E6
    have k_all0 := E7.out.cellv 0 rfl 0 _ rfl
    have k_a1 := E7.out.cellv 1 rfl 1 _ rfl
    go_wp2_with fail
    refine (CT.out _).mono ?_
    rintro e w10 ⟨q7, c7, rfl, hv, hB⟩
    have E8 := Lib.hid ((E7.out.step hB).add hv)
    clear E7 hB hv 
    clear k_all0 k_a1
    clear CT
    have k_b0 := E8.out.cellv 2 rfl 0 _ rfl
    go_wp2_with fail
    refine (pick09_any cut _ _ hc hc' (by omega) (by omega)).mono ?_
    rintro e w_ ⟨rfl, rfl⟩
    rw [HK.out]
    go_wp2_with fail
    rcases Nat.lt_or_ge K sz with hlt | hge
    · have hne : ((K : Int) == (sz : Int)) = false := by rw [beq_eq_false_iff_ne]; omega
      clear CF
      refine (CC.out _ hlt).mono ?_
      rintro e w11 ⟨rfl, hB⟩
      have E9 := Lib.hid (E8.out.step hB)
      clear E8 hB  
      clear k_b0
      have k_a1 := E9.out.cellv 1 rfl 1 _ rfl
      have k_b0 := E9.out.cellv 2 rfl 0 _ rfl
      have k_b1 := E9.out.cellv 2 rfl 1 _ rfl
      go_wp2_with fail
      refine (CI.out _ _ _ (E9.out.get 0 rfl) (E9.out.get 1 rfl)).mono ?_
      rintro e w12 ⟨rfl, hB⟩
      have E10 := Lib.hid (E9.out.step hB)
      clear E9 hB  
      clear k_a1 k_b0 k_b1
      have k_a1 := E10.out.cellv 1 rfl 1 _ rfl
      have k_b0 := E10.out.cellv 2 rfl 0 _ rfl
      have k_b1 := E10.out.cellv 2 rfl 1 _ rfl
      go_wp2
      go_ret
      exact ⟨rfl, E10.out.bel⟩
    · obtain rfl : K = sz := by omega
      obtain ⟨x, C8⟩ := CF.out (w10) rfl
      clear CC CF
      refine (C8).mono ?_
      rintro e w11 ⟨q8, c8, rfl, hv, hB⟩
      have E9 := Lib.hid ((E8.out.step hB).add hv)
      clear E8 hB hv 
      clear k_b0
      have k_a1 := E9.out.cellv 1 rfl 1 _ rfl
      have k_b0 := E9.out.cellv 2 rfl 0 _ rfl
      have k_b1 := E9.out.cellv 2 rfl 1 _ rfl
      go_wp2_with fail
      refine (CI.out _ _ _ (E9.out.get 1 rfl) (E9.out.get 2 rfl)).mono ?_
      rintro e w12 ⟨rfl, hB⟩
      have E10 := Lib.hid (E9.out.step hB)
      clear E9 hB  
      clear k_a1 k_b0 k_b1
      have k_a1 := E10.out.cellv 1 rfl 1 _ rfl
      have k_b0 := E10.out.cellv 2 rfl 0 _ rfl
      have k_b1 := E10.out.cellv 2 rfl 1 _ rfl
      go_wp2
      go_ret
      exact ⟨rfl, E10.out.bel⟩
end Go.Proofs.Ytdngbmoippadhaa
