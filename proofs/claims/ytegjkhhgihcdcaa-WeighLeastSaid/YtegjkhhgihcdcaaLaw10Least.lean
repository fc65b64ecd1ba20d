/- WeighLeast: the walk. -/
import Derived.Test.YtegjkhhgihcdcaaWeights
import Derived.Test.YtegjkhhgihcdcaaWLaws
import Derived.Test.YtegjkhhgihcdcaaLensK
namespace Go.Proofs.Ytegjkhhgihcdcaa
open Go.RowKit
set_option linter.unusedVariables false

theorem code_take {l : List Nat} (h : Code l) (i : Nat) (hi : 2 ≤ i) : Code (l.take i) := by
  have h1 := kraft_append (l.take i) (l.drop i)
  rw [List.take_append_drop] at h1
  refine ⟨?_, ?_, fun x hx => h.fits x (List.mem_of_mem_take hx), ?_⟩
  · have := h.two; rw [List.length_take]; omega
  · have := h.most; rw [List.length_take]; omega
  · have := h.room; omega
theorem dot_nat (a : List Nat) : ∀ b : List Nat, dotI (ints a) (ints b) = ((List.zipWith (fun x y => x * y) b a).sum : Nat) := by
  induction a with
  | nil => intro b; cases b <;> simp [dotI, ints]
  | cons x a ih =>
    intro b
    cases b with
    | nil => simp [dotI, ints]
    | cons y b =>
      have := ih b
      unfold dotI ints at *
      simp only [List.map_cons, List.zipWith_cons_cons, List.sum_cons]
      rw [this]
      push_cast
      rw [Int.mul_comm]
theorem cost_nat (a b : List Nat) (h : a.length = b.length) (ha : ∀ x ∈ a, x ≤ 1048576) (hb : ∀ x ∈ b, x ≤ 1048576) : costF (ints a) (ints b) = ((((List.zipWith (fun x y => x * y) b a).sum : Nat) : Int), 0) := by
  have hm : ∀ l : List Nat, (∀ x ∈ l, x ≤ 1048576) → mayW (ints l) = true := fun l hl => (mayW_iff _).2 fun x hx => by
    simp only [ints, List.mem_map] at hx
    obtain ⟨y, hy, rfl⟩ := hx
    have := hl y hy
    omega
  unfold costF
  rw [if_pos ⟨by rw [length_ints, length_ints, h], hm a ha, hm b hb⟩, dot_nat]

set_option maxRecDepth 100000 in
set_option maxHeartbeats 6400000 in
theorem wleast_walk (w : World) (v v2 : Value) (raw lens : List Int) (hv : IsInts w w.heap.size v raw) (hr : I64s raw) (hv2 : IsInts w w.heap.size v2 lens) (hr2 : I64s lens) :
    Calls Try.prog 8 #[v, v2] w fun e w' => e = .returned (.bool true) ∧ Below w.heap.size w w' := by
  obtain ⟨A, ca, rfl, hc1, hc2⟩ := hv.shape
  obtain ⟨A2, ca2, rfl, hd1, hd2⟩ := hv2.shape
  have HV := Lib.hid hv
  have HV2 := Lib.hid hv2
  have HR := Lib.hid hr
  have HR2 := Lib.hid hr2
  clear hv hv2 hr hr2
  go_enter Try.func8, Try.ntmps8
  have E0 := Lib.hid (Env.nil w)
  go_wp2_with fail
  refine (awake10_any _).mono ?_
  rintro e w1 ⟨rfl, hB⟩
  have E1 := Lib.hid (E0.out.step hB)
  clear E0 hB  
  go_wp2_with fail
  refine (lens08_any _ _ lens 20 (E1.out.old HV2.out) HR2.out (by omega)).mono ?_
  rintro e w2 ⟨u, l, rfl, ho, hcode, hl, hB⟩
  obtain ⟨q1, c1, rfl⟩ := ho.shape
  rw [length_ints] at ho ⊢
  have hv := ho.is
  have E2 := Lib.hid ((E1.out.step hB).add hv)
  obtain ⟨L, hL⟩ : ∃ L, l.length = L := ⟨_, rfl⟩
  have HL := Lib.hid hL
  have Hcode := Lib.hid hcode
  have hL2 := hcode.two
  rw [hL] at E2 hl hL2 ⊢
  have hl20 : L ≤ 20 := by omega
  clear hL hcode hv hB ho E1 hl
  go_wp2_with fail
  refine (weights_any _ _ raw 20 (E2.out.old HV.out) HR.out (by omega)).mono ?_
  rintro e w3 ⟨q2, c2, rfl, ho, hB⟩
  have hW2 := wF_two raw 20
  have hW20 : (wF raw 20).length ≤ 20 := by rw [length_wF]; omega
  have hWle := wF_le raw 20
  generalize wF raw 20 = ws at *
  obtain ⟨M, hM⟩ : ∃ M, ws.length = M := ⟨_, rfl⟩
  obtain ⟨b, cap, he, -⟩ := ho.place (by rw [length_ints]; omega)
  rw [length_ints] at he
  injection he with e1 e2 e3
  subst e1 e3
  clear e2
  have HM := Lib.hid hM
  rw [hM] at ho hW2 hW20 ⊢
  obtain ⟨n, hn⟩ : ∃ n, min L M = n := ⟨_, rfl⟩
  have hmin : (if (M : Int) < (L : Int) then (M : Int) else (L : Int)) = (n : Int) := by rw [← hn]; split <;> omega
  have hn2 : 2 ≤ n := by omega
  have hnL : n ≤ L := by omega
  have hnM : n ≤ M := by omega
  have hn20 : n ≤ 20 := by omega
  have HOw : Hid (OwnInts w3 w2.heap.size (.slice (some ⟨b, 0, none⟩) M c2) (ints (mixN (fun x => max x 1) ws 0))) := by rw [mixN_zero]; exact ho
  have HBw := Lib.hid hB
  have HWL := Lib.hid hWle
  clear hM hn ho hB hWle
  rcases Nat.lt_or_ge M L with hML | hML
  · obtain rfl : n = M := by omega
    go_wp2_with fail
    go_loopw [9] (fun iv wr => ∃ i : Nat, i ≤ n ∧ iv = .int .i64 i ∧ Hid (OwnInts wr w2.heap.size (.slice (some ⟨b, 0, none⟩) n c2) (ints (mixN (fun x => max x 1) ws i))) ∧ Hid (Below w2.heap.size w2 wr)) (fun iv _ => n + 1 - (intOf iv).toNat)
    case atStart => exact ⟨0, Nat.zero_le _, rfl, HOw, HBw⟩
    case round =>
      clear HOw HBw
      obtain ⟨i, hi, rfl, HOw, HBw⟩ := hrel
      by_cases hlt : i < n
      · obtain ⟨x, hx⟩ : ∃ x, ws[i]? = some x := ⟨_, List.getElem?_eq_getElem (by rw [HM.out]; omega)⟩
        obtain ⟨m1, m2, m3, m4, m5⟩ := HOw.out.mine (by rw [length_ints, length_mixN, HM.out]) (by omega)
        have hc := m1 i x (ints_get _ _ _ (by rw [mixN_get _ _ _ (by rw [HM.out]; omega)]; exact hx))
        have hf := m2 i
        have HO2 : Hid (OwnInts (wr.setCell ⟨b, i, none⟩ (.int .i64 ((max x 1 : Nat) : Int))) w2.heap.size (.slice (some ⟨b, 0, none⟩) n c2) (ints (mixN (fun x => max x 1) ws (i + 1)))) := by
          have := m3 i ((max x 1 : Nat) : Int)
          rw [ints_set, mixN_set (fun x => max x 1) ws i x hx] at this
          exact this
        have HB2 : Hid (Below w2.heap.size w2 (wr.setCell ⟨b, i, none⟩ (.int .i64 ((max x 1 : Nat) : Int)))) := HBw.out.setCell (p := ⟨b, i, none⟩) m4 _
        have hmx : Hid ((if (x : Int) < 1 then 1 else (x : Int)) = ((max x 1 : Nat) : Int)) := by
          show _ = _
          split <;> omega
        have hiM : i < n := by omega
        clear m1 m2 m3 hx
        go_wp2_with fail
        go_roundw
        case rel => exact ⟨i + 1, by omega, by go_num, by rw [hmx.out]; exact HO2, by rw [hmx.out]; exact HB2⟩
        case measure => simp [intOf]; omega
      · obtain rfl : i = n := by omega
        obtain ⟨t, ht⟩ : ∃ t, startW (ws.take i) = t := ⟨_, rfl⟩
        have htl : t.length = i := by rw [← ht, length_startW, List.length_take, HM.out]; omega
        have htp : ∀ x ∈ t, 1 ≤ x := by rw [← ht]; exact startW_pos _
        have htm : ∀ x ∈ t, x ≤ 1048576 := fun x hx => by
          rw [← ht] at hx
          simp only [startW, List.mem_map] at hx
          obtain ⟨y, hy, rfl⟩ := hx
          have := HWL.out y (List.mem_of_mem_take hy)
          omega
        have hts : startW t = t := by
          unfold startW
          conv => rhs; rw [← List.map_id t]
          exact List.map_congr_left fun x hx => by have := htp x hx; simp; omega
        have hmt : (mixN (fun x => max x 1) ws i).take i = t := by
          rw [← ht]
          unfold mixN startW
          rw [List.take_append_of_le_length (by simp; have := HM.out; omega), List.take_of_length_le (by simp; omega)]
        have hcode : Code (l.take i) := code_take Hcode.out i hn2
        have hll : (l.take i).length = i := by rw [List.length_take, HL.out]; omega
        have hlen : lenF t 20 = depthsF t := by
          unfold lenF
          rw [hts]
          exact lengthsF_done (not_deep htp (by omega)) _
        have hfitD := lenF_fits t 20 (by omega) (by omega) (by omega)
        rw [hlen] at hfitD
        have hleast := depths_least t (l.take i) htp (by rw [hll, htl]) hcode
        have hcA : costF (ints (depthsF t)) (ints t) = ((((List.zipWith (fun a b => a * b) t (depthsF t)).sum : Nat) : Int), 0) := cost_nat (depthsF t) t (by rw [length_depthsF]) (fun x hx => by have := hfitD x hx; omega) htm
        have hcB : costF (ints (l.take i)) (ints t) = ((((List.zipWith (fun a b => a * b) t (l.take i)).sum : Nat) : Int), 0) := cost_nat (l.take i) t (by rw [hll, htl]) (fun x hx => by have := hcode.fits x hx; omega) htm
        have CL : Hid (∀ W u, IsInts W W.heap.size u (ints t) → Calls Try.prog 12 #[u, .int .i64 20] W fun e w' => ∃ q c, e = .returned (.tuple #[.slice q i c, .int .i64 0]) ∧ IsInts w' w'.heap.size (.slice q i c) (ints (depthsF t)) ∧ Below W.heap.size W w') := fun W u h => by
          have := lengths_ok W u t 20 h htm (by omega) (by omega) (by omega) (by omega)
          rw [htl, hlen] at this
          exact this
        have CA : Hid (∀ W u v, IsInts W W.heap.size u (ints (depthsF t)) → IsInts W W.heap.size v (ints t) → Calls Try.prog 15 #[u, v] W fun e w' => e = .returned (.tuple #[.int .i64 ((List.zipWith (fun a b => a * b) t (depthsF t)).sum : Nat), .int .i64 0]) ∧ Below W.heap.size W w') := fun W u v h1 h2 => cost_is W u v _ _ _ h1 h2 (by rw [length_ints, length_depthsF]; omega) (by rw [length_ints]; omega) hcA
        have CB : Hid (∀ W u v, IsInts W W.heap.size u (ints (l.take i)) → IsInts W W.heap.size v (ints t) → Calls Try.prog 15 #[u, v] W fun e w' => e = .returned (.tuple #[.int .i64 ((List.zipWith (fun a b => a * b) t (l.take i)).sum : Nat), .int .i64 0]) ∧ Below W.heap.size W w') := fun W u v h1 h2 => cost_is W u v _ _ _ h1 h2 (by rw [length_ints, hll]; omega) (by rw [length_ints]; omega) hcB
        have CK : Hid (∀ W u, IsInts W W.heap.size u (ints (l.take i)) → Calls Try.prog 18 #[u] W fun e w' => e = .returned (.int .i64 0) ∧ Below W.heap.size W w') := fun W u h => by
          have := check_any W u _ h (by rw [length_ints, hll]; omega)
          rw [hcode.ok] at this
          exact this
        obtain ⟨Z1, hZ1⟩ : ∃ Z, (List.zipWith (fun a b => a * b) t (depthsF t)).sum = Z := ⟨_, rfl⟩
        obtain ⟨Z2, hZ2⟩ : ∃ Z, (List.zipWith (fun a b => a * b) t (l.take i)).sum = Z := ⟨_, rfl⟩
        rw [hZ1] at CA hleast
        rw [hZ2] at CB hleast
        clear hZ1 hZ2 hcA hcB hlen hfitD hcode hll hts
        obtain ⟨vb, hb1, ⟨qb, cb, hb2⟩, -, -, hb5⟩ := HOw.out.is.cut 0 i (Nat.zero_le _) hnM
        subst hb2
        have hsb := hb5 rfl
        rw [List.drop_zero, show (ints (mixN (fun x => max x 1) ws i)).take i = ints t by rw [← hmt]; simp [ints, List.map_take]] at hb1
        have E3 := Lib.hid ((E2.out.step HBw.out).add hb1)
        obtain ⟨vc, hc1', ⟨qc, cc, hc2'⟩, -, -, hc5⟩ := (E3.out.get 1 rfl).cut 0 i (Nat.zero_le _) hnL
        subst hc2'
        have hsc := hc5 rfl
        rw [List.drop_zero, show (ints l).take i = ints (l.take i) by simp [ints, List.map_take]] at hc1'
        have E4 := Lib.hid (E3.out.add hc1')
        clear hb1 hb5 hc1' hc5 HOw HBw E2 E3 hmt ht
        go_wp2_with fail
        refine (CL.out _ _ (E4.out.get 1 rfl)).mono ?_
        rintro e w5 ⟨q5, c5, rfl, hv, hB⟩
        have E5 := Lib.hid ((E4.out.step hB).add hv)
        clear E4 hB hv CL
        go_wp2_with fail
        refine (CA.out _ _ _ (E5.out.get 0 rfl) (E5.out.get 2 rfl)).mono ?_
        rintro e w6 ⟨rfl, hB⟩
        have E6 := Lib.hid (E5.out.step hB)
        clear E5 hB  CA
        go_wp2_with fail
        refine (CB.out _ _ _ (E6.out.get 1 rfl) (E6.out.get 2 rfl)).mono ?_
        rintro e w7 ⟨rfl, hB⟩
        have E7 := Lib.hid (E6.out.step hB)
        clear E6 hB  CB
        go_wp2_with fail
        refine (CK.out _ _ (E7.out.get 1 rfl)).mono ?_
        rintro e w8 ⟨rfl, hB⟩
        have E8 := Lib.hid (E7.out.step hB)
        clear E7 hB  CK
        go_wp2_with fail
        go_ret
        exact ⟨rfl, E8.out.bel⟩
  · obtain rfl : n = L := by omega
    go_wp2_with fail
    go_loopw [9] (fun iv wr => ∃ i : Nat, i ≤ n ∧ iv = .int .i64 i ∧ Hid (OwnInts wr w2.heap.size (.slice (some ⟨b, 0, none⟩) M c2) (ints (mixN (fun x => max x 1) ws i))) ∧ Hid (Below w2.heap.size w2 wr)) (fun iv _ => n + 1 - (intOf iv).toNat)
    case atStart => exact ⟨0, Nat.zero_le _, rfl, HOw, HBw⟩
    case round =>
      clear HOw HBw
      obtain ⟨i, hi, rfl, HOw, HBw⟩ := hrel
      by_cases hlt : i < n
      · obtain ⟨x, hx⟩ : ∃ x, ws[i]? = some x := ⟨_, List.getElem?_eq_getElem (by rw [HM.out]; omega)⟩
        obtain ⟨m1, m2, m3, m4, m5⟩ := HOw.out.mine (by rw [length_ints, length_mixN, HM.out]) (by omega)
        have hc := m1 i x (ints_get _ _ _ (by rw [mixN_get _ _ _ (by rw [HM.out]; omega)]; exact hx))
        have hf := m2 i
        have HO2 : Hid (OwnInts (wr.setCell ⟨b, i, none⟩ (.int .i64 ((max x 1 : Nat) : Int))) w2.heap.size (.slice (some ⟨b, 0, none⟩) M c2) (ints (mixN (fun x => max x 1) ws (i + 1)))) := by
          have := m3 i ((max x 1 : Nat) : Int)
          rw [ints_set, mixN_set (fun x => max x 1) ws i x hx] at this
          exact this
        have HB2 : Hid (Below w2.heap.size w2 (wr.setCell ⟨b, i, none⟩ (.int .i64 ((max x 1 : Nat) : Int)))) := HBw.out.setCell (p := ⟨b, i, none⟩) m4 _
        have hmx : Hid ((if (x : Int) < 1 then 1 else (x : Int)) = ((max x 1 : Nat) : Int)) := by
          show _ = _
          split <;> omega
        have hiM : i < M := by omega
        clear m1 m2 m3 hx
        go_wp2_with fail
        go_roundw
        case rel => exact ⟨i + 1, by omega, by go_num, by rw [hmx.out]; exact HO2, by rw [hmx.out]; exact HB2⟩
        case measure => simp [intOf]; omega
      · obtain rfl : i = n := by omega
        obtain ⟨t, ht⟩ : ∃ t, startW (ws.take i) = t := ⟨_, rfl⟩
        have htl : t.length = i := by rw [← ht, length_startW, List.length_take, HM.out]; omega
        have htp : ∀ x ∈ t, 1 ≤ x := by rw [← ht]; exact startW_pos _
        have htm : ∀ x ∈ t, x ≤ 1048576 := fun x hx => by
          rw [← ht] at hx
          simp only [startW, List.mem_map] at hx
          obtain ⟨y, hy, rfl⟩ := hx
          have := HWL.out y (List.mem_of_mem_take hy)
          omega
        have hts : startW t = t := by
          unfold startW
          conv => rhs; rw [← List.map_id t]
          exact List.map_congr_left fun x hx => by have := htp x hx; simp; omega
        have hmt : (mixN (fun x => max x 1) ws i).take i = t := by
          rw [← ht]
          unfold mixN startW
          rw [List.take_append_of_le_length (by simp; have := HM.out; omega), List.take_of_length_le (by simp; omega)]
        have hcode : Code (l.take i) := code_take Hcode.out i hn2
        have hll : (l.take i).length = i := by rw [List.length_take, HL.out]; omega
        have hlen : lenF t 20 = depthsF t := by
          unfold lenF
          rw [hts]
          exact lengthsF_done (not_deep htp (by omega)) _
        have hfitD := lenF_fits t 20 (by omega) (by omega) (by omega)
        rw [hlen] at hfitD
        have hleast := depths_least t (l.take i) htp (by rw [hll, htl]) hcode
        have hcA : costF (ints (depthsF t)) (ints t) = ((((List.zipWith (fun a b => a * b) t (depthsF t)).sum : Nat) : Int), 0) := cost_nat (depthsF t) t (by rw [length_depthsF]) (fun x hx => by have := hfitD x hx; omega) htm
        have hcB : costF (ints (l.take i)) (ints t) = ((((List.zipWith (fun a b => a * b) t (l.take i)).sum : Nat) : Int), 0) := cost_nat (l.take i) t (by rw [hll, htl]) (fun x hx => by have := hcode.fits x hx; omega) htm
        have CL : Hid (∀ W u, IsInts W W.heap.size u (ints t) → Calls Try.prog 12 #[u, .int .i64 20] W fun e w' => ∃ q c, e = .returned (.tuple #[.slice q i c, .int .i64 0]) ∧ IsInts w' w'.heap.size (.slice q i c) (ints (depthsF t)) ∧ Below W.heap.size W w') := fun W u h => by
          have := lengths_ok W u t 20 h htm (by omega) (by omega) (by omega) (by omega)
          rw [htl, hlen] at this
          exact this
        have CA : Hid (∀ W u v, IsInts W W.heap.size u (ints (depthsF t)) → IsInts W W.heap.size v (ints t) → Calls Try.prog 15 #[u, v] W fun e w' => e = .returned (.tuple #[.int .i64 ((List.zipWith (fun a b => a * b) t (depthsF t)).sum : Nat), .int .i64 0]) ∧ Below W.heap.size W w') := fun W u v h1 h2 => cost_is W u v _ _ _ h1 h2 (by rw [length_ints, length_depthsF]; omega) (by rw [length_ints]; omega) hcA
        have CB : Hid (∀ W u v, IsInts W W.heap.size u (ints (l.take i)) → IsInts W W.heap.size v (ints t) → Calls Try.prog 15 #[u, v] W fun e w' => e = .returned (.tuple #[.int .i64 ((List.zipWith (fun a b => a * b) t (l.take i)).sum : Nat), .int .i64 0]) ∧ Below W.heap.size W w') := fun W u v h1 h2 => cost_is W u v _ _ _ h1 h2 (by rw [length_ints, hll]; omega) (by rw [length_ints]; omega) hcB
        have CK : Hid (∀ W u, IsInts W W.heap.size u (ints (l.take i)) → Calls Try.prog 18 #[u] W fun e w' => e = .returned (.int .i64 0) ∧ Below W.heap.size W w') := fun W u h => by
          have := check_any W u _ h (by rw [length_ints, hll]; omega)
          rw [hcode.ok] at this
          exact this
        obtain ⟨Z1, hZ1⟩ : ∃ Z, (List.zipWith (fun a b => a * b) t (depthsF t)).sum = Z := ⟨_, rfl⟩
        obtain ⟨Z2, hZ2⟩ : ∃ Z, (List.zipWith (fun a b => a * b) t (l.take i)).sum = Z := ⟨_, rfl⟩
        rw [hZ1] at CA hleast
        rw [hZ2] at CB hleast
        clear hZ1 hZ2 hcA hcB hlen hfitD hcode hll hts
        obtain ⟨vb, hb1, ⟨qb, cb, hb2⟩, -, -, hb5⟩ := HOw.out.is.cut 0 i (Nat.zero_le _) hnM
        subst hb2
        have hsb := hb5 rfl
        rw [List.drop_zero, show (ints (mixN (fun x => max x 1) ws i)).take i = ints t by rw [← hmt]; simp [ints, List.map_take]] at hb1
        have E3 := Lib.hid ((E2.out.step HBw.out).add hb1)
        obtain ⟨vc, hc1', ⟨qc, cc, hc2'⟩, -, -, hc5⟩ := (E3.out.get 1 rfl).cut 0 i (Nat.zero_le _) hnL
        subst hc2'
        have hsc := hc5 rfl
        rw [List.drop_zero, show (ints l).take i = ints (l.take i) by simp [ints, List.map_take]] at hc1'
        have E4 := Lib.hid (E3.out.add hc1')
        clear hb1 hb5 hc1' hc5 HOw HBw E2 E3 hmt ht
        go_wp2_with fail
        refine (CL.out _ _ (E4.out.get 1 rfl)).mono ?_
        rintro e w5 ⟨q5, c5, rfl, hv, hB⟩
        have E5 := Lib.hid ((E4.out.step hB).add hv)
        clear E4 hB hv CL
        go_wp2_with fail
        refine (CA.out _ _ _ (E5.out.get 0 rfl) (E5.out.get 2 rfl)).mono ?_
        rintro e w6 ⟨rfl, hB⟩
        have E6 := Lib.hid (E5.out.step hB)
        clear E5 hB  CA
        go_wp2_with fail
        refine (CB.out _ _ _ (E6.out.get 1 rfl) (E6.out.get 2 rfl)).mono ?_
        rintro e w7 ⟨rfl, hB⟩
        have E7 := Lib.hid (E6.out.step hB)
        clear E6 hB  CB
        go_wp2_with fail
        refine (CK.out _ _ (E7.out.get 1 rfl)).mono ?_
        rintro e w8 ⟨rfl, hB⟩
        have E8 := Lib.hid (E7.out.step hB)
        clear E7 hB  CK
        go_wp2_with fail
        go_ret
        exact ⟨rfl, E8.out.bel⟩
end Go.Proofs.Ytegjkhhgihcdcaa
