/- MagicMoved: the walk. -/
import Derived.Test.YtbanageccecmnaaLaw02First
import Derived.Test.YtbanageccecmnaaEnv
import Derived.Test.YtbanageccecmnaaBitsFacts
namespace Go.Proofs.Ytbanageccecmnaa
open Go.RowKit
set_option linter.unusedVariables false

theorem at_there {a b P C D : List Bool} {m k : Nat} (hP : B.low m k = P) (hC : a ++ P = C) (hD : C ++ b = D) : at_ (B.pack D) m k a.length = true := by
  have hl : P.length = k := by rw [← hP, B.length_low]
  unfold at_
  rw [B.slice_pack_at _ _ _ (by rw [← hD, ← hC]; simp; omega), beq_iff_eq, ← hD, ← hC, List.append_assoc, List.drop_left, ← hl, List.take_left, hl, ← hP, B.num_low]
theorem plc_count {h : Nat → Bool} {c f a : Nat} (hf : f ≤ a) (hc : a < c) (ha : h a = true) : (plc h c f).count a = 1 := by
  have hn : (plc h c f).Nodup := List.Nodup.sublist List.filter_sublist List.nodup_range'
  rw [hn.count, if_pos (plc_mem.2 ⟨hf, hc, ha⟩)]
theorem count_take {Y : List Nat} {i a : Nat} (h : i < Y.length) : (Y.take (i + 1)).count a = (Y.take i).count a + if Y[i] = a then 1 else 0 := by
  rw [List.take_succ_eq_append_getElem h, List.count_append, List.count_singleton]
  congr 1
  by_cases e : Y[i] = a <;> simp [e]
theorem all_is (t : ByteArray) (m k : Nat) (X : List Nat) (W : World) (hs : t.size ≤ 1048576) (hm : m < 18446744073709551616) (h1 : 1 ≤ k) (h2 : k ≤ 64) (hX : plc (at_ t.data.toList m k) (cntOf t.size k) 0 = X) :
    Calls Try.prog 9 #[.string t, .int .u64 m, .int .i64 (k : Nat)] W fun e W' => ∃ q c, e = .returned (.slice q X.length c) ∧ IsInts W' W'.heap.size (.slice q X.length c) (ints X) ∧ Below W.heap.size W W' := by
  have hl : t.data.toList.length = t.size := by simp
  refine (all_any t m k W hs hm (by omega) (by omega)).mono ?_
  rintro e W' ⟨v, rfl, hr, hB⟩
  rw [allL_nat _ _ _ h1 h2, hl, hX] at hr
  have hi : IsInts W' W'.heap.size v (ints X) := Rd.own hr
  obtain ⟨q, c, rfl, _, _⟩ := hi.shape
  rw [length_ints] at hi ⊢
  exact ⟨q, c, rfl, hi, hB⟩

set_option maxRecDepth 100000 in
set_option maxHeartbeats 6400000 in
theorem moved_walk (w : World) (v1 v2 : Value) (one two : List Int) (m : Nat) (n : Int) (hr1 : IsInts w w.heap.size v1 one) (hb1 : I64s one) (hr2 : IsInts w w.heap.size v2 two) (hb2 : I64s two) (hm : m < 18446744073709551616) (hn : -9223372036854775808 ≤ n) (hn' : n ≤ 9223372036854775807) :
    Calls Try.prog 6 #[v1, v2, .int .u64 m, .int .i64 n] w fun e w' => e = .returned (.bool true) ∧ Below w.heap.size w w' := by
  have HR1 := Lib.hid hr1
  have HR2 := Lib.hid hr2
  obtain ⟨A1, ca1, rfl, hc1, hc2⟩ := hr1.shape
  obtain ⟨A2, ca2, rfl, hc3, hc4⟩ := hr2.shape
  have hp := pickF_lt n 64 (by omega)
  obtain ⟨p, hpp⟩ : ∃ k : Nat, pickF n 64 = (k : Int) := ⟨(pickF n 64).toNat, by omega⟩
  have hp1 : p < 64 := by omega
  have Hpp := Lib.hid hpp
  have ha40 := length_rawBits one 40
  have hb40 := length_rawBits two 40
  have CA : Hid (∀ W, IsInts W W.heap.size (.slice A1 one.length ca1) one → Calls Try.prog 14 #[.slice A1 one.length ca1, .int .i64 40] W fun e w' => e = .returned (.agg #[.string (txt (rawBits one 40)), .int .i64 ((rawBits one 40).length : Nat)]) ∧ Below W.heap.size W w') := fun W hv => lawBits_any W _ one 40 hv hb1 (by omega)
  have CB : Hid (∀ W, IsInts W W.heap.size (.slice A2 two.length ca2) two → Calls Try.prog 14 #[.slice A2 two.length ca2, .int .i64 40] W fun e w' => e = .returned (.agg #[.string (txt (rawBits two 40)), .int .i64 ((rawBits two 40).length : Nat)]) ∧ Below W.heap.size W w') := fun W hv => lawBits_any W _ two 40 hv hb2 (by omega)
  generalize rawBits one 40 = a at *
  generalize rawBits two 40 = b at *
  obtain ⟨P, hP⟩ : ∃ P, B.low m (1 + p) = P := ⟨_, rfl⟩
  obtain ⟨C, hC⟩ : ∃ C, a ++ P = C := ⟨_, rfl⟩
  obtain ⟨D, hD⟩ : ∃ D, C ++ b = D := ⟨_, rfl⟩
  have hPl : P.length = 1 + p := by rw [← hP, B.length_low]
  have hCl : C.length = a.length + (1 + p) := by rw [← hC, List.length_append, hPl]
  have hDl : D.length = C.length + b.length := by rw [← hD, List.length_append]
  have hKK : (1 + (p : Int)) = ((1 + p : Nat) : Int) := by omega
  have C1 : Hid (∀ W, Calls Try.prog 15 #[.agg #[.string (txt a), .int .i64 (a.length : Nat)], .int .u64 m, .int .i64 (1 + (p : Int))] W fun e w' => e = .returned (.tuple #[.agg #[.string (txt C), .int .i64 (C.length : Nat)], .int .i64 0]) ∧ Below W.heap.size W w') := fun W => by rw [hKK]; exact put_is W a m (1 + p) C (by rw [hP, hC]) (by omega) hm (by omega)
  have C3 : Hid (∀ W, Calls Try.prog 15 #[.agg #[.string ⟨#[]⟩, .int .i64 0], .int .u64 m, .int .i64 (1 + (p : Int))] W fun e w' => e = .returned (.tuple #[.agg #[.string (txt P), .int .i64 (P.length : Nat)], .int .i64 0]) ∧ Below W.heap.size W w') := fun W => by rw [hKK]; exact put_nil W m (1 + p) P hP hm (by omega)
  have hatD : at_ (B.pack D) m (1 + p) a.length = true := at_there hP hC hD
  have hatC : at_ (B.pack C) m (1 + p) a.length = true := at_there (b := []) hP hC (List.append_nil _)
  have hatP : at_ (B.pack P) m (1 + p) 0 = true := at_there (a := []) (b := []) hP rfl (List.append_nil _)
  have hsD := txt_size D
  have hsC := txt_size C
  have hsP := txt_size P
  have cD : a.length < cntOf (txt D).size (1 + p) := by unfold cntOf; omega
  have cC : a.length < cntOf (txt C).size (1 + p) := by unfold cntOf; omega
  have cP : 0 < cntOf (txt P).size (1 + p) := by unfold cntOf; omega
  have CFi : Hid (∀ W, Calls Try.prog 10 #[.string (txt D), .int .i64 (a.length : Nat), .int .u64 m, .int .i64 (1 + (p : Int))] W fun e w' => e = .returned (.int .i64 (a.length : Nat)) ∧ Below W.heap.size W w') := fun W => by
    rw [hKK]
    refine (find_any (txt D) (a.length : Nat) m (1 + p : Nat) W (by omega) hm (by omega) (by omega) (by omega) (by omega)).mono ?_
    rintro e w' ⟨rfl, hB⟩
    rw [findV_nat _ _ _ _ (by omega) (by omega), txt_list, plc_yes (by have : (B.pack D).length = (txt D).size := rfl; rw [this]; exact cD) hatD]
    exact ⟨rfl, hB⟩
  have CMa : Hid (∀ W, Calls Try.prog 11 #[.string (txt D), .int .i64 (a.length : Nat), .int .u64 m, .int .i64 (1 + (p : Int))] W fun e w' => e = .returned (.bool true) ∧ Below W.heap.size W w') := fun W => by
    rw [hKK]
    refine (match_any (txt D) (a.length : Nat) m (1 + p : Nat) W (by omega) hm (by omega) (by omega) (by omega) (by omega)).mono ?_
    rintro e w' ⟨rfl, hB⟩
    rw [matchV_nat _ _ _ _ (by omega) (by omega), txt_list, hatD, decide_eq_true (by have : (B.pack D).length = (txt D).size := rfl; rw [this]; exact cD)]
    exact ⟨rfl, hB⟩
  obtain ⟨X, hX⟩ : ∃ X, plc (at_ (B.pack P) m (1 + p)) (cntOf (txt P).size (1 + p)) 0 = X := ⟨_, rfl⟩
  obtain ⟨Y, hY⟩ : ∃ Y, plc (at_ (B.pack C) m (1 + p)) (cntOf (txt C).size (1 + p)) 0 = Y := ⟨_, rfl⟩
  have CX : Hid (∀ W, Calls Try.prog 9 #[.string (txt P), .int .u64 m, .int .i64 (1 + (p : Int))] W fun e W' => ∃ q c, e = .returned (.slice q X.length c) ∧ IsInts W' W'.heap.size (.slice q X.length c) (ints X) ∧ Below W.heap.size W W') := fun W => by rw [hKK]; exact all_is (txt P) m (1 + p) X W (by omega) hm (by omega) (by omega) hX
  have CY : Hid (∀ W, Calls Try.prog 9 #[.string (txt C), .int .u64 m, .int .i64 (1 + (p : Int))] W fun e W' => ∃ q c, e = .returned (.slice q Y.length c) ∧ IsInts W' W'.heap.size (.slice q Y.length c) (ints Y) ∧ Below W.heap.size W W') := fun W => by rw [hKK]; exact all_is (txt C) m (1 + p) Y W (by omega) hm (by omega) (by omega) hY
  have hXc : X.count 0 = 1 := by rw [← hX]; exact plc_count (Nat.zero_le _) cP hatP
  have hYc : Y.count a.length = 1 := by rw [← hY]; exact plc_count (Nat.zero_le _) cC hatC
  have hXl : X.length ≤ 8 * (txt P).size + 1 := by have := plc_len (h := at_ (B.pack P) m (1 + p)) (c := cntOf (txt P).size (1 + p)) (f := 0); rw [hX] at this; unfold cntOf at this; omega
  have hYl : Y.length ≤ 8 * (txt C).size + 1 := by have := plc_len (h := at_ (B.pack C) m (1 + p)) (c := cntOf (txt C).size (1 + p)) (f := 0); rw [hY] at this; unfold cntOf at this; omega
  have hXl2 : X.length ≤ 200 := by omega
  have hYl2 : Y.length ≤ 400 := by omega
  have hXb : Hid (∀ x ∈ X, x ≤ 1000) := fun x hx => by rw [← hX] at hx; have := (plc_mem.1 hx).2.1; unfold cntOf at this; omega
  have hYb : Hid (∀ x ∈ Y, x ≤ 1000) := fun x hx => by rw [← hY] at hx; have := (plc_mem.1 hx).2.1; unfold cntOf at this; omega
  have HXc := Lib.hid hXc
  have HYc := Lib.hid hYc
  have HC := Lib.hid hC
  have HD := Lib.hid hD
  have HPl := Lib.hid hPl
  have HCl := Lib.hid hCl
  have hDb : D.length ≤ 200 := by omega
  have hCb : C.length ≤ 200 := by omega
  have hPb : P.length ≤ 200 := by omega
  clear hp hpp hatD hatC hatP hsD hsC hsP cD cC cP hX hY hXc hYc hXl hYl hKK hP hC hD hPl hCl hDl hr1 hr2 hb1 hb2
  go_enter Try.func6, Try.ntmps6
  have E0 := Lib.hid (Env.nil w)
  go_wp2_with fail
  refine (awake2_any _).mono ?_
  rintro e w1 ⟨rfl, hB⟩
  have F1 := Lib.hid (E0.out.step hB)
  clear E0 hB  
  have E1 := Lib.hid F1.out
  clear F1
  go_wp2_with fail
  refine (CA.out _ (E1.out.old HR1.out)).mono ?_
  rintro e w2 ⟨rfl, hB⟩
  have F2 := Lib.hid (E1.out.step hB)
  clear E1 hB  
  have E2 := Lib.hid (F2.out.box #[.string (txt a), .int .i64 (a.length : Nat)] 39 _ rfl)
  clear F2
  go_wp2_with fail
  refine (CB.out _ (E2.out.old HR2.out)).mono ?_
  rintro e w3 ⟨rfl, hB⟩
  have F3 := Lib.hid (E2.out.step hB)
  clear E2 hB  
  have E3 := Lib.hid (F3.out.box #[.string (txt b), .int .i64 (b.length : Nat)] 39 _ rfl)
  clear F3
  go_wp2_with fail
  refine (pick2_any n 64 _ hn hn' (by omega) (by omega)).mono ?_
  rintro e w_ ⟨rfl, rfl⟩
  rw [Hpp.out]
  have k10 := E3.out.cellv 1 rfl 0 _ rfl
  have k11 := E3.out.cellv 1 rfl 1 _ rfl
  go_wp2_with fail
  refine (C1.out _).mono ?_
  rintro e w4 ⟨rfl, hB⟩
  have F4 := Lib.hid (E3.out.step hB)
  clear E3 hB  k10 k11
  have E4 := Lib.hid (F4.out.box #[.string (txt C), .int .i64 (C.length : Nat)] 39 _ rfl)
  clear F4
  have k00 := E4.out.cellv 0 rfl 0 _ rfl
  have k01 := E4.out.cellv 0 rfl 1 _ rfl
  have k10 := E4.out.cellv 1 rfl 0 _ rfl
  have k11 := E4.out.cellv 1 rfl 1 _ rfl
  go_wp2_with fail
  have hcat : IsPairs ((w4.alloc (.cells #[.string (txt C), .int .i64 (C.length : Nat)] 39)).alloc (.cells #[.string (txt C), .int .i64 (C.length : Nat), .string (txt b), .int .i64 (b.length : Nat)] 39)) ((w4.alloc (.cells #[.string (txt C), .int .i64 (C.length : Nat)] 39)).alloc (.cells #[.string (txt C), .int .i64 (C.length : Nat), .string (txt b), .int .i64 (b.length : Nat)] 39)).heap.size (.slice (some ⟨w4.heap.size + 1, 0, none⟩) 2 2) ([C, b].map pairOf) := IsPairs.new _ _ (by simp) _ _ rfl (by simp [maxLen])
  refine (cat_is _ _ [C, b] D (by simpa using HD.out) hcat (by simp; omega)).mono ?_
  rintro e w5 ⟨rfl, hB⟩
  have F5 := Lib.hid ((E4.out.alloc _).step hB)
  clear E4 hB hcat k00 k01 k10 k11
  have E5 := Lib.hid (F5.out.box #[.string (txt D), .int .i64 (D.length : Nat)] 39 _ rfl)
  clear F5
  have k00 := E5.out.cellv 0 rfl 0 _ rfl
  have k01 := E5.out.cellv 0 rfl 1 _ rfl
  have k30 := E5.out.cellv 3 rfl 0 _ rfl
  have k31 := E5.out.cellv 3 rfl 1 _ rfl
  go_wp2_with fail
  refine (CFi.out _).mono ?_
  rintro e w6 ⟨rfl, hB⟩
  have F6 := Lib.hid (E5.out.step hB)
  clear E5 hB  k00 k01 k30 k31
  have E6 := Lib.hid F6.out
  clear F6
  go_wp2_with fail
  refine (C3.out _).mono ?_
  rintro e w7 ⟨rfl, hB⟩
  have F7 := Lib.hid (E6.out.step hB)
  clear E6 hB  
  have E7 := Lib.hid (F7.out.box #[.string (txt P), .int .i64 (P.length : Nat)] 39 _ rfl)
  clear F7
  have k10 := E7.out.cellv 1 rfl 0 _ rfl
  have k11 := E7.out.cellv 1 rfl 1 _ rfl
  have k40 := E7.out.cellv 4 rfl 0 _ rfl
  have k41 := E7.out.cellv 4 rfl 1 _ rfl
  go_wp2_with fail
  refine (CMa.out _).mono ?_
  rintro e w8 ⟨rfl, hB⟩
  have F8 := Lib.hid (E7.out.step hB)
  clear E7 hB  k10 k11 k40 k41
  have E8 := Lib.hid F8.out
  clear F8
  have k00 := E8.out.cellv 0 rfl 0 _ rfl
  have k01 := E8.out.cellv 0 rfl 1 _ rfl
  go_wp2_with fail
  refine (CX.out _).mono ?_
  rintro e w9 ⟨qx, cx, rfl, hv, hB⟩
  have F9 := Lib.hid ((E8.out.step hB).add hv)
  clear E8 hB hv k00 k01
  have E9 := Lib.hid F9.out
  clear F9
  have k40 := E9.out.cellv 4 rfl 0 _ rfl
  have k41 := E9.out.cellv 4 rfl 1 _ rfl
  have k00 := E9.out.cellv 0 rfl 0 _ rfl
  have k01 := E9.out.cellv 0 rfl 1 _ rfl
  go_wp2_with fail
  have hcat : IsPairs (w9.alloc (.cells #[.string (txt a), .int .i64 (a.length : Nat), .string (txt P), .int .i64 (P.length : Nat)] 39)) (w9.alloc (.cells #[.string (txt a), .int .i64 (a.length : Nat), .string (txt P), .int .i64 (P.length : Nat)] 39)).heap.size (.slice (some ⟨w9.heap.size, 0, none⟩) 2 2) ([a, P].map pairOf) := IsPairs.new _ _ (by simp) _ _ rfl (by simp [maxLen])
  refine (cat_is _ _ [a, P] C (by simpa using HC.out) hcat (by simp; omega)).mono ?_
  rintro e w10 ⟨rfl, hB⟩
  have F10 := Lib.hid ((E9.out.alloc _).step hB)
  clear E9 hB hcat k40 k41 k00 k01
  have E10 := Lib.hid (F10.out.box #[.string (txt C), .int .i64 (C.length : Nat)] 39 _ rfl)
  clear F10
  have k00 := E10.out.cellv 0 rfl 0 _ rfl
  have k01 := E10.out.cellv 0 rfl 1 _ rfl
  go_wp2_with fail
  refine (CY.out _).mono ?_
  rintro e w11 ⟨qy, cy, rfl, hv, hB⟩
  have F11 := Lib.hid ((E10.out.step hB).add hv)
  clear E10 hB hv k00 k01
  have E11 := Lib.hid F11.out
  clear F11
  go_wp2_with fail
  obtain ⟨xl, hxl⟩ : ∃ k, X.length = k := ⟨_, rfl⟩
  obtain ⟨yl, hyl⟩ : ∃ k, Y.length = k := ⟨_, rfl⟩
  rw [hxl] at hXl2 E11 ⊢
  rw [hyl] at hYl2 E11 ⊢
  have Hxl := Lib.hid hxl
  have Hyl := Lib.hid hyl
  clear hxl hyl
  go_loopw [24, 25] (fun mv iv wr => ∃ i : Nat, i ≤ yl ∧ iv = .int .i64 i ∧ mv = .int .i64 ((Y.take i).count a.length : Nat) ∧ Env w wr [(.slice qy yl cy, ints Y), (.slice qx xl cx, ints X)] [(w10.heap.size, #[.string (txt C), .int .i64 (C.length : Nat)], 39), (w7.heap.size, #[.string (txt P), .int .i64 (P.length : Nat)], 39), (w5.heap.size, #[.string (txt D), .int .i64 (D.length : Nat)], 39), (w4.heap.size, #[.string (txt C), .int .i64 (C.length : Nat)], 39), (w3.heap.size, #[.string (txt b), .int .i64 (b.length : Nat)], 39), (w2.heap.size, #[.string (txt a), .int .i64 (a.length : Nat)], 39)]) (fun _ iv _ => yl + 1 - (intOf iv).toNat)
  case atStart => exact ⟨0, Nat.zero_le _, rfl, rfl, E11.out⟩
  case round =>
    obtain ⟨i, hi, rfl, rfl, hE⟩ := hrel
    have HE := Lib.hid hE
    clear hE E11
    have k00 := HE.out.cellv 0 rfl 0 _ rfl
    have k01 := HE.out.cellv 0 rfl 1 _ rfl
    have k10 := HE.out.cellv 1 rfl 0 _ rfl
    have k11 := HE.out.cellv 1 rfl 1 _ rfl
    have k50 := HE.out.cellv 5 rfl 0 _ rfl
    have k51 := HE.out.cellv 5 rfl 1 _ rfl
    have hcl := List.count_le_length (a := a.length) (l := Y.take i)
    rw [List.length_take] at hcl
    by_cases hlt : i < yl
    · obtain ⟨g, o, rfl, hg, hcx⟩ := (HE.out.get 0 rfl).at i (by rw [length_ints, Hyl.out]; exact hlt)
      have hil : i < Y.length := by rw [Hyl.out]; exact hlt
      rw [show (ints Y)[i]?.getD 0 = (Y[i] : Int) by simp [ints, List.getElem?_eq_getElem hil]] at hcx
      have hsn : (Y.take (i + 1)).count a.length = (Y.take i).count a.length + if Y[i] = a.length then 1 else 0 := count_take hil
      have hyb := hYb.out Y[i] (List.getElem_mem hil)
      obtain ⟨y, hy⟩ : ∃ y, Y[i] = y := ⟨_, rfl⟩
      rw [hy] at hcx hsn hyb
      obtain ⟨cnt, hcnt⟩ : ∃ k, (Y.take i).count a.length = k := ⟨_, rfl⟩
      rw [hcnt] at hsn hcl ⊢
      have hcb : cnt ≤ 400 := by omega
      have Hsn := Lib.hid hsn
      clear hy hcnt hsn hcl
      have HCl2 := HCl.out
      obtain ⟨cl, hcl2⟩ : ∃ k, C.length = k := ⟨_, rfl⟩
      rw [hcl2] at HCl2
      rw [hcl2] at k01
      rw [hcl2] at hCb
      clear hcl2
      rcases Nat.lt_trichotomy y a.length with hya | hya | hya
      · rw [if_neg (by omega), Nat.add_zero] at Hsn
        have hd : decide (a.length ≤ y) = false := by simp; omega
        go_wp2
        go_quiet (fail)
        go_wp2
        go_roundw
        case rel => exact ⟨i + 1, by omega, by go_num, by rw [show (Y.take (i + 1)).count a.length = cnt from Hsn.out], HE.out.drewN _⟩
        case measure => simp [intOf]; omega
      · subst hya
        rw [if_pos rfl] at Hsn
        go_wp2
        go_quiet (fail)
        go_wp2
        go_roundw
        case rel => exact ⟨i + 1, by omega, by go_num, by rw [Hsn.out]; go_num, HE.out.drewN _⟩
        case measure => simp [intOf]; omega
      · rw [if_neg (by omega), Nat.add_zero] at Hsn
        have hd : decide (a.length ≤ y) = true := by simp; omega
        go_wp2
        go_quiet (fail)
        go_wp2
        go_roundw
        case rel => exact ⟨i + 1, by omega, by go_num, by rw [show (Y.take (i + 1)).count a.length = cnt from Hsn.out], HE.out.drewN _⟩
        case measure => simp [intOf]; omega
    · obtain rfl : i = yl := by omega
      have hmany : (Y.take i).count a.length = 1 := by rw [List.take_of_length_le (by rw [Hyl.out]; exact Nat.le_refl _)]; exact HYc.out
      rw [hmany]
      clear hmany hcl k00 k01 k10 k11 k50 k51
      go_wp2_with fail
      go_loopw [26, 27] (fun mv iv wr => ∃ i2 : Nat, i2 ≤ xl ∧ iv = .int .i64 i2 ∧ mv = .int .i64 ((X.take i2).count 0 : Nat) ∧ Env w wr [(.slice qy i cy, ints Y), (.slice qx xl cx, ints X)] [(w10.heap.size, #[.string (txt C), .int .i64 (C.length : Nat)], 39), (w7.heap.size, #[.string (txt P), .int .i64 (P.length : Nat)], 39), (w5.heap.size, #[.string (txt D), .int .i64 (D.length : Nat)], 39), (w4.heap.size, #[.string (txt C), .int .i64 (C.length : Nat)], 39), (w3.heap.size, #[.string (txt b), .int .i64 (b.length : Nat)], 39), (w2.heap.size, #[.string (txt a), .int .i64 (a.length : Nat)], 39)]) (fun _ iv _ => xl + 1 - (intOf iv).toNat)
      case atStart => exact ⟨0, Nat.zero_le _, rfl, rfl, HE.out⟩
      case round =>
        obtain ⟨i2, hi2, rfl, rfl, hE2⟩ := hrel
        have HE2 := Lib.hid hE2
        clear hE2 HE
        have k10 := HE2.out.cellv 1 rfl 0 _ rfl
        have k11 := HE2.out.cellv 1 rfl 1 _ rfl
        have hcl := List.count_le_length (a := 0) (l := X.take i2)
        rw [List.length_take] at hcl
        by_cases hlt2 : i2 < xl
        · obtain ⟨g, o, rfl, hg, hcx⟩ := (HE2.out.get 1 rfl).at i2 (by rw [length_ints, Hxl.out]; exact hlt2)
          have hil : i2 < X.length := by rw [Hxl.out]; exact hlt2
          rw [show (ints X)[i2]?.getD 0 = (X[i2] : Int) by simp [ints, List.getElem?_eq_getElem hil]] at hcx
          have hsn : (X.take (i2 + 1)).count 0 = (X.take i2).count 0 + if X[i2] = 0 then 1 else 0 := count_take hil
          have hyb := hXb.out X[i2] (List.getElem_mem hil)
          obtain ⟨y, hy⟩ : ∃ y, X[i2] = y := ⟨_, rfl⟩
          rw [hy] at hcx hsn hyb
          obtain ⟨cnt, hcnt⟩ : ∃ k, (X.take i2).count 0 = k := ⟨_, rfl⟩
          rw [hcnt] at hsn hcl ⊢
          have hcb : cnt ≤ 400 := by omega
          have Hsn := Lib.hid hsn
          clear hy hcnt hsn hcl
          have HPl2 := HPl.out
          obtain ⟨pl, hpl2⟩ : ∃ k, P.length = k := ⟨_, rfl⟩
          rw [hpl2] at HPl2
          rw [hpl2] at k11
          rw [hpl2] at hPb
          clear hpl2
          by_cases hya : y = 0
          · subst hya
            rw [if_pos rfl] at Hsn
            go_wp2
            go_quiet (fail)
            go_wp2
            go_roundw
            case rel => exact ⟨i2 + 1, by omega, by go_num, by rw [Hsn.out]; go_num, HE2.out.drewN _⟩
            case measure => simp [intOf]; omega
          · rw [if_neg hya] at Hsn
            go_wp2
            go_quiet (fail)
            go_wp2
            go_roundw
            case rel => exact ⟨i2 + 1, by omega, by go_num, by rw [show (X.take (i2 + 1)).count 0 = cnt from Hsn.out], HE2.out.drewN _⟩
            case measure => simp [intOf]; omega
        · obtain rfl : i2 = xl := by omega
          have hown : (X.take i2).count 0 = 1 := by rw [List.take_of_length_le (by rw [Hxl.out]; exact Nat.le_refl _)]; exact HXc.out
          rw [hown]
          clear hown hcl k10 k11
          go_wp2
          go_ret
          exact ⟨rfl, HE2.out.bel⟩
end Go.Proofs.Ytbanageccecmnaa
