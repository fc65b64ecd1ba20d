/- SelectorsCut: the walk. -/
import Derived.Test.YtpccdohhiojlkaaAwake12
namespace Go.Proofs.Ytpccdohhiojlkaa
open Go.RowKit
set_option linter.unusedVariables false

theorem selP_more (t : Nat) (ht : t ≤ 6) (c : Nat) (ns : List Nat) : ∀ (p : List Nat) (r : List Bool), Tabs t p → (∀ n ∈ ns, n < t) → ∃ q, Tabs t q ∧ selP t (ns.length + c) p (selL p ns ++ r) = preS ns (selP t c q r) := by
  induction ns with
  | nil => intro p r hp _; exact ⟨p, hp, by rw [preS_nil, List.length_nil, Nat.zero_add]; rfl⟩
  | cons n ns ih =>
    intro p r hp hn
    obtain ⟨h1, h2⟩ := tabs_idx hp ht (hn n (by simp))
    obtain ⟨q, hq, hs⟩ := ih _ r (mtf_tabs hp ht h1) fun m hm => hn m (by simp [hm])
    refine ⟨q, hq, ?_⟩
    rw [selL, List.length_cons, show ns.length + 1 + c = (ns.length + c) + 1 by omega, selP, List.append_assoc, onesP_unary t _ 0 _ (by omega)]
    simp only [Nat.zero_add]
    rw [h2, hs, preS_preS]
    rfl
theorem onesP_ones (t : Nat) (r : List Bool) : ∀ (d k : Nat), 0 < d → k + d = t → onesP t k (List.replicate d true ++ r) = .error 3 := by
  intro d
  induction d with
  | zero => intro k h; omega
  | succ d ih =>
    intro k _ h
    rw [List.replicate_succ, List.cons_append, onesP]
    by_cases he : k + 1 = t
    · rw [if_pos he]
    · rw [if_neg he]
      exact ih _ (by omega) (by omega)
theorem low_63 (t : Nat) (h : t ≤ 6) : B.low 63 t = List.replicate t true := by
  have : ∀ t : Fin 7, B.low 63 t.val = List.replicate t.val true := by decide
  exact this ⟨t, by omega⟩
theorem selR_within (t : Nat) (ht6 : t ≤ 6) (A : List Bool) (l : List Nat) (T : List Bool) (hm : ∀ n ∈ l, n < t) : selR (B.pack [A, selL (List.range 6) l, T].flatten) t A.length l.length = .ok (l, A.length + (selL (List.range 6) l).length) := by
  have hf : [A, selL (List.range 6) l, T].flatten = A ++ (selL (List.range 6) l ++ T) := by simp
  have h8 := len8_pack (A ++ (selL (List.range 6) l ++ T))
  unfold selR
  rw [hf, rest_pack _ _ (by simp), List.drop_left, List.append_assoc, selP_selL t ht6 l _ _ (tabs_start t ht6) hm]
  simp only [List.length_append, List.length_replicate] at h8 ⊢
  congr 2
  omega
theorem selR_ones (t : Nat) (ht2 : 2 ≤ t) (ht6 : t ≤ 6) (l : List Nat) (hm : ∀ n ∈ l, n < t) : selR (B.pack (selL (List.range 6) l ++ B.low 63 t)) t 0 (l.length + 1) = .error 3 := by
  unfold selR
  rw [rest_pack _ _ (Nat.zero_le _), List.drop_zero, List.append_assoc]
  obtain ⟨q, _, hs⟩ := selP_more t ht6 1 l (List.range 6) (B.low 63 t ++ List.replicate (8 * (B.pack (selL (List.range 6) l ++ B.low 63 t)).length - (selL (List.range 6) l ++ B.low 63 t).length) false) (tabs_start t ht6) hm
  rw [hs, selP, low_63 t ht6, onesP_ones t _ t 0 (by omega) (by omega)]
  rfl
theorem selR_short (t : Nat) (ht2 : 2 ≤ t) (ht6 : t ≤ 6) (l : List Nat) (k : Nat) (hm : ∀ n ∈ l, n < t) (h : k < (B.pack (selL (List.range 6) l)).length) : selR ((B.pack (selL (List.range 6) l)).take k) t 0 l.length = .error 2 := by
  obtain ⟨q, h1, h2⟩ := take_rest (B.pack (selL (List.range 6) l)) k (by omega)
  have h3 := rest_pack (selL (List.range 6) l) 0 (Nat.zero_le _)
  rw [List.drop_zero] at h3
  have h4 := selP_selL t ht6 l (List.range 6) (List.replicate (8 * (B.pack (selL (List.range 6) l)).length - (selL (List.range 6) l).length) false) (tabs_start t ht6) hm
  rw [← h3, h1] at h4
  have hp := B.length_pack (selL (List.range 6) l)
  unfold selR
  rcases selP_cut t _ _ _ _ _ _ h4 with ⟨r', hr, _⟩ | ⟨_, h5⟩
  · have := congrArg List.length hr
    simp only [List.length_append, List.length_replicate] at this
    omega
  · rw [h5]

set_option maxRecDepth 100000 in
set_option maxHeartbeats 6400000 in
theorem scut_walk (w : World) (v : Value) (raw : List Int) (tables at0 : Int) (hv : IsInts w w.heap.size v raw) (hr : I64s raw) (ht : -9223372036854775808 ≤ tables) (ht' : tables ≤ 9223372036854775807) (hat : -9223372036854775808 ≤ at0) (hat' : at0 ≤ 9223372036854775807) :
    Calls Try.prog 6 #[.int .i64 tables, v, .int .i64 at0] w fun e w' => e = .returned (.bool true) ∧ Below w.heap.size w w' := by
  have HRW := Lib.hid hv
  have hp5 := pickF_lt tables 5 (by omega)
  obtain ⟨a, ha⟩ : ∃ k : Nat, pickF tables 5 = (k : Int) := ⟨(pickF tables 5).toNat, by omega⟩
  obtain ⟨t, hta⟩ : ∃ t, t = 2 + a := ⟨_, rfl⟩
  have hta2 : (2 : Int) + (a : Int) = (t : Int) := by omega
  have ht2 : 2 ≤ t := by omega
  have ht6 : t ≤ 6 := by omega
  have HA := Lib.hid ha
  have hlt := symsF_lt raw t 60 (by omega)
  have hl60 := symsF_len raw t 60
  have CS : Hid (∀ W, IsInts W W.heap.size v raw → Calls Try.prog 10 #[v, .int .i64 (t : Nat), .int .i64 60] W fun e w' => ∃ q c, e = .returned (.slice q (symsF raw t 60).length c) ∧ IsInts w' w'.heap.size (.slice q (symsF raw t 60).length c) (ints (symsF raw t 60)) ∧ Below W.heap.size W w') := fun W h => syms_is W v raw t 60 h hr (by omega) (by omega) (by omega)
  generalize symsF raw t 60 = l at *
  obtain ⟨n, hn⟩ : ∃ n, l.length = n := ⟨_, rfl⟩
  have CP : Hid (∀ W (u : Value), IsInts W W.heap.size u (ints l) → Calls Try.prog 11 #[u, .int .i64 (t : Nat)] W fun e w' => e = .returned (.tuple #[.agg #[.string (txt (selL (List.range 6) l)), .int .i64 ((selL (List.range 6) l).length : Nat)], .int .i64 0]) ∧ Below W.heap.size W w') := fun W u h => selPut_any W u l t h (by omega) ht2 ht6 hlt
  have hDl := length_selL t ht6 l _ (tabs_start t ht6) hlt
  have hsel := selP_selL t ht6 l (List.range 6)
  obtain ⟨D, hD⟩ : ∃ D, selL (List.range 6) l = D := ⟨_, rfl⟩
  obtain ⟨O, hO⟩ : ∃ O, D ++ B.low 63 t = O := ⟨_, rfl⟩
  have hOl : O.length = D.length + t := by rw [← hO, List.length_append, B.length_low]
  obtain ⟨sz, hsz⟩ : ∃ z, (txt D).size = z := ⟨_, rfl⟩
  have hszD : sz = (D.length + 7) / 8 := by rw [← hsz, txt_size]
  rw [hD] at CP hDl
  have hszb : sz ≤ 60 := by omega
  have hpk := pickF_lt at0 ((sz : Int) + 1) (by omega)
  obtain ⟨K, hK⟩ : ∃ K : Nat, pickF at0 ((sz : Int) + 1) = (K : Int) := ⟨(pickF at0 ((sz : Int) + 1)).toNat, by omega⟩
  have hKs : K ≤ sz := by omega
  have CC : Hid (∀ W, K < sz → Calls Try.prog 13 #[.string ((txt D).extract 0 K), .int .i64 0, .int .i64 (n : Nat), .int .i64 (t : Nat)] W fun e w' => e = .returned (.tuple #[.slice none 0 0, .int .i64 0, .int .i64 2]) ∧ Below W.heap.size W w') := fun W h => take_er W _ 0 n t 2 (by simp [hsz]; omega) (by omega) (by omega) (by omega) (by
    rw [extract_list, txt_list, ← hD, ← hn]
    exact selR_short t ht2 ht6 l K hlt (by rw [hD]; have := B.length_pack D; omega))
  have CF : Hid (∀ W, K = sz → Calls Try.prog 13 #[.string ((txt D).extract 0 K), .int .i64 0, .int .i64 (n : Nat), .int .i64 (t : Nat)] W fun e w' => ∃ q c, e = .returned (.tuple #[.slice q n c, .int .i64 (D.length : Nat), .int .i64 0]) ∧ IsInts w' w'.heap.size (.slice q n c) (ints l) ∧ Below W.heap.size W w') := fun W h => by
    have h2 := take_ok W ((txt D).extract 0 K) 0 n t l D.length (by simp [hsz]; omega) (by omega) (by omega) (by omega) (by
      rw [extract_list, txt_list, List.take_of_length_le (by have := B.length_pack D; omega), ← hn, ← hD]
      have h3 := selR_within t ht6 [] l [] hlt
      simpa using h3)
    rw [hn] at h2
    exact h2
  have CO : Hid (∀ W, Calls Try.prog 18 #[.agg #[.string (txt D), .int .i64 (D.length : Nat)], .int .u64 63, .int .i64 (t : Nat)] W fun e w' => e = .returned (.tuple #[.agg #[.string (txt O), .int .i64 (O.length : Nat)], .int .i64 0]) ∧ Below W.heap.size W w') := fun W => put_is W D 63 t O hO (by omega) (by omega) (by omega)
  have CE : Hid (∀ W, Calls Try.prog 13 #[.string (txt O), .int .i64 0, .int .i64 ((n : Int) + 1), .int .i64 (t : Nat)] W fun e w' => e = .returned (.tuple #[.slice none 0 0, .int .i64 0, .int .i64 3]) ∧ Below W.heap.size W w') := fun W => take_er W _ 0 (n + 1) t 3 (by rw [txt_size]; omega) (by omega) (by omega) (by omega) (by
    rw [txt_list, ← hO, ← hD, ← hn]
    exact selR_ones t ht2 ht6 l hlt)
  have CG : Hid (∀ W, Calls Try.prog 13 #[.string (txt O), .int .i64 0, .int .i64 (n : Nat), .int .i64 (t : Nat)] W fun e w' => ∃ q c, e = .returned (.tuple #[.slice q n c, .int .i64 (D.length : Nat), .int .i64 0]) ∧ IsInts w' w'.heap.size (.slice q n c) (ints l) ∧ Below W.heap.size W w') := fun W => by
    have h2 := take_ok W (txt O) 0 n t l D.length (by rw [txt_size]; omega) (by omega) (by omega) (by omega) (by
      rw [txt_list, ← hO, ← hn, ← hD]
      have h3 := selR_within t ht6 [] l (B.low 63 t) hlt
      simpa using h3)
    rw [hn] at h2
    exact h2
  have CI : Hid (∀ W (u1 u2 : Value), IsInts W W.heap.size u1 (ints l) → IsInts W W.heap.size u2 (ints l) → Calls Try.prog 15 #[u1, u2] W fun e w' => e = .returned (.bool true) ∧ Below W.heap.size W w') := fun W u1 u2 h1 h2 => by
    have := refInts_any W u1 u2 _ _ h1 h2 (by rw [length_ints]; omega) (by rw [length_ints]; omega)
    rw [decide_eq_true rfl] at this
    exact this
  have HK := Lib.hid hK
  have hDb : D.length ≤ 400 := by omega
  have hOb : O.length ≤ 500 := by omega
  rw [hn] at CS hl60
  clear hv hr ha hp5 hta hlt hn hDl hsel hD hO hOl hszD hpk hK
  go_enter Try.func6, Try.ntmps6
  have E0 := Lib.hid (Env.nil w)
  go_wp2_with fail
  refine (awake12_any _).mono ?_
  rintro e w1 ⟨rfl, hB⟩
  have E1 := Lib.hid (E0.out.step hB)
  clear E0 hB  
  go_wp2_with fail
  refine (pick12_any tables 5 _ ht ht' (by omega) (by omega)).mono ?_
  rintro e w_ ⟨rfl, rfl⟩
  rw [HA.out]
  go_wp2_with fail
  refine (CS.out _ (E1.out.old HRW.out)).mono ?_
  rintro e w2 ⟨q1, c1, rfl, hv, hB⟩
  have E2 := Lib.hid ((E1.out.step hB).add hv)
  clear E1 hB hv 
  go_wp2_with fail
  refine (CP.out _ _ (E2.out.get 0 rfl)).mono ?_
  rintro e w3 ⟨rfl, hB⟩
  have E3 := Lib.hid (E2.out.step hB)
  clear E2 hB  
  have E4 := Lib.hid (E3.out.box #[.string (txt D), .int .i64 (D.length : Nat)] 28 (w3.heap.size) (by simp))
  clear E3 
  clear CS CP
  have k_b0 := E4.out.cellv 0 rfl 0 _ rfl
  go_wp2_with fail
  refine (pick12_any at0 _ _ hat hat' (by omega) (by omega)).mono ?_
  rintro e w_ ⟨rfl, rfl⟩
  rw [HK.out]
  go_wp2_with fail
  rcases Nat.lt_or_ge K sz with hlt | hge
  · have hne : ((K : Int) == (sz : Int)) = false := by rw [beq_eq_false_iff_ne]; omega
    clear CF
    refine (CC.out _ hlt).mono ?_
    rintro e w4 ⟨rfl, hB⟩
    have E5 := Lib.hid (E4.out.step hB)
    clear E4 hB  
    clear k_b0
    have k_b0 := E5.out.cellv 0 rfl 0 _ rfl
    have k_b1 := E5.out.cellv 0 rfl 1 _ rfl
    go_wp2_with fail
    refine (CO.out _).mono ?_
    rintro e w5 ⟨rfl, hB⟩
    have E6 := Lib.hid (E5.out.step hB)
    clear E5 hB  
    clear k_b0 k_b1
    have E7 := Lib.hid (E6.out.box #[.string (txt O), .int .i64 (O.length : Nat)] 28 (w5.heap.size) (by simp))
    clear E6 
    have k_o0 := E7.out.cellv 0 rfl 0 _ rfl
    go_wp2_with fail
    refine (CE.out _).mono ?_
    rintro e w6 ⟨rfl, hB⟩
    have E8 := Lib.hid (E7.out.step hB)
    clear E7 hB  
    clear k_o0
    have k_o0 := E8.out.cellv 0 rfl 0 _ rfl
    go_wp2_with fail
    refine (CG.out _).mono ?_
    rintro e w7 ⟨q9, c9, rfl, hv, hB⟩
    have E9 := Lib.hid ((E8.out.step hB).add hv)
    clear E8 hB hv 
    clear k_o0
    have k_b0 := E9.out.cellv 1 rfl 0 _ rfl
    have k_b1 := E9.out.cellv 1 rfl 1 _ rfl
    go_wp2_with fail
    refine (CI.out _ _ _ (E9.out.get 0 rfl) (E9.out.get 1 rfl)).mono ?_
    rintro e w8 ⟨rfl, hB⟩
    have E10 := Lib.hid (E9.out.step hB)
    clear E9 hB  
    clear k_b0 k_b1
    have k_b0 := E10.out.cellv 1 rfl 0 _ rfl
    have k_b1 := E10.out.cellv 1 rfl 1 _ rfl
    go_wp2
    go_ret
    exact ⟨rfl, E10.out.bel⟩
  · obtain rfl : K = sz := by omega
    have C8 := Lib.hid (fun W => CF.out W rfl)
    clear CC CF
    refine (C8.out _).mono ?_
    rintro e w4 ⟨q8, c8, rfl, hv, hB⟩
    have E5 := Lib.hid ((E4.out.step hB).add hv)
    clear E4 hB hv 
    clear k_b0
    have k_b0 := E5.out.cellv 0 rfl 0 _ rfl
    have k_b1 := E5.out.cellv 0 rfl 1 _ rfl
    go_wp2_with fail
    refine (CO.out _).mono ?_
    rintro e w5 ⟨rfl, hB⟩
    have E6 := Lib.hid (E5.out.step hB)
    clear E5 hB  
    clear k_b0 k_b1
    have E7 := Lib.hid (E6.out.box #[.string (txt O), .int .i64 (O.length : Nat)] 28 (w5.heap.size) (by simp))
    clear E6 
    have k_o0 := E7.out.cellv 0 rfl 0 _ rfl
    go_wp2_with fail
    refine (CE.out _).mono ?_
    rintro e w6 ⟨rfl, hB⟩
    have E8 := Lib.hid (E7.out.step hB)
    clear E7 hB  
    clear k_o0
    have k_o0 := E8.out.cellv 0 rfl 0 _ rfl
    go_wp2_with fail
    refine (CG.out _).mono ?_
    rintro e w7 ⟨q9, c9, rfl, hv, hB⟩
    have E9 := Lib.hid ((E8.out.step hB).add hv)
    clear E8 hB hv 
    clear k_o0
    have k_b0 := E9.out.cellv 1 rfl 0 _ rfl
    have k_b1 := E9.out.cellv 1 rfl 1 _ rfl
    go_wp2_with fail
    refine (CI.out _ _ _ (E9.out.get 0 rfl) (E9.out.get 2 rfl)).mono ?_
    rintro e w8 ⟨rfl, hB⟩
    have E10 := Lib.hid (E9.out.step hB)
    clear E9 hB  
    clear k_b0 k_b1
    have k_b0 := E10.out.cellv 1 rfl 0 _ rfl
    have k_b1 := E10.out.cellv 1 rfl 1 _ rfl
    go_wp2
    go_ret
    exact ⟨rfl, E10.out.bel⟩
end Go.Proofs.Ytpccdohhiojlkaa
