/- weigh.Lengths: the walk. -/
import Derived.Test.YtodniacnjdnffaaDepths
import Derived.Test.YtodniacnjdnffaaHuff3
import Derived.Test.YtodniacnjdnffaaClone
import Derived.Test.YtodniacnjdnffaaCostW
import Derived.Test.YtodniacnjdnffaaChkK
namespace Go.Proofs.Ytodniacnjdnffaa
open Go.RowKit
set_option linter.unusedVariables false

theorem OwnInts.mine {w : World} {base g n cap : Nat} {xs : List Int} (h : OwnInts w base (.slice (some ⟨g, 0, none⟩) n cap) xs) (hn : xs.length = n) (h0 : 0 < n) :
    (∀ j x, xs[j]? = some x → w.cell? ⟨g, j, none⟩ = some (.int .i64 x)) ∧ (∀ j, w.frozen? ⟨g, j, none⟩ = false) ∧ (∀ (j : Nat) (x : Int), OwnInts (w.setCell ⟨g, j, none⟩ (.int .i64 x)) base (.slice (some ⟨g, 0, none⟩) n cap) (xs.set j x)) ∧ base ≤ g ∧ g < w.heap.size := by
  subst hn
  obtain ⟨g', cap', he, h1, h2, h3, h4, h5⟩ := h.place h0
  injection he with e1 e2 e3
  injection e1 with e1
  injection e1 with e1
  subst e1 e3
  refine ⟨fun j x hx => ?_, h4, fun j x => (h5 j x).1, h1, h2⟩
  rw [h3 j (List.getElem?_eq_some_iff.1 hx).1, hx]
  rfl

/-- a row of which the first k are changed -/
def mixN (f : Nat → Nat) (u : List Nat) (k : Nat) : List Nat := (u.take k).map f ++ u.drop k
theorem length_mixN (f : Nat → Nat) (u : List Nat) (k : Nat) : (mixN f u k).length = u.length := by simp [mixN]; omega
theorem mixN_zero (f : Nat → Nat) (u : List Nat) : mixN f u 0 = u := by simp [mixN]
theorem mixN_all (f : Nat → Nat) (u : List Nat) (k : Nat) (h : u.length ≤ k) : mixN f u k = u.map f := by simp [mixN, List.take_of_length_le h, h]
theorem mixN_get (f : Nat → Nat) (u : List Nat) (k : Nat) (h : k < u.length) : (mixN f u k)[k]? = u[k]? := by
  unfold mixN
  rw [List.getElem?_append_right (by simp; omega), List.getElem?_drop]
  simp [Nat.min_eq_left (Nat.le_of_lt h)]
theorem mixN_set (f : Nat → Nat) (u : List Nat) (k x : Nat) (h : u[k]? = some x) : (mixN f u k).set k (f x) = mixN f u (k + 1) := by
  have hk := (List.getElem?_eq_some_iff.1 h).1
  have hx := (List.getElem?_eq_some_iff.1 h).2
  unfold mixN
  rw [List.set_append_right _ _ (by simp; omega), List.take_add_one, h]
  rw [show k - ((u.take k).map f).length = 0 by simp; omega]
  rw [List.drop_eq_getElem_cons hk, hx]
  simp
theorem ints_set (l : List Nat) (i n : Nat) : (ints l).set i (n : Int) = ints (l.set i n) := by simp [ints, List.map_set]
theorem ints_get (l : List Nat) (i n : Nat) (h : l[i]? = some n) : (ints l)[i]? = some (n : Int) := by simp [ints, h]
/-- the sum of a block's first cells -/
def sumOf (w : World) (g n : Nat) : Nat := ((List.range n).map fun i => (intOf ((w.cell? ⟨g, i, none⟩).getD (.int .i64 0))).toNat).sum
theorem sumOf_own {w : World} {base g n cap : Nat} {l : List Nat} (h : OwnInts w base (.slice (some ⟨g, 0, none⟩) n cap) (ints l)) (hn : l.length = n) (h0 : 0 < n) : sumOf w g n = l.sum := by
  have h1 := (h.mine (by rw [length_ints]; exact hn) h0).1
  unfold sumOf
  congr 1
  apply List.ext_getElem?
  intro i
  rw [List.getElem?_map]
  by_cases hi : i < n
  · rw [List.getElem?_range hi]
    have hx : l[i]? = some l[i] := List.getElem?_eq_getElem (by omega)
    rw [hx, Option.map_some, h1 i _ (ints_get l i _ hx)]
    simp [intOf]
  · rw [List.getElem?_eq_none (by simp; omega), List.getElem?_eq_none (by omega)]
    rfl

def startW (u : List Nat) : List Nat := u.map fun x => max x 1
theorem length_startW (u : List Nat) : (startW u).length = u.length := by simp [startW]
theorem startW_pos (u : List Nat) : ∀ x ∈ startW u, 1 ≤ x := by
  intro x hx
  simp only [startW, List.mem_map] at hx
  obtain ⟨y, _, rfl⟩ := hx
  omega
theorem sum_le (l : List Nat) (b : Nat) (h : ∀ x ∈ l, x ≤ b) : l.sum ≤ b * l.length := by
  induction l with
  | nil => simp
  | cons x l ih =>
    have h1 := h x (by simp)
    have h2 := ih fun y hy => h y (by simp [hy])
    rw [List.sum_cons, List.length_cons, Nat.mul_succ]
    omega
theorem mem_sum (l : List Nat) (x : Nat) (h : x ∈ l) : x ≤ l.sum := by
  induction l with
  | nil => simp at h
  | cons y l ih =>
    rw [List.sum_cons]
    rcases List.mem_cons.1 h with rfl | h
    · omega
    · have := ih h; omega
theorem startW_sum (u : List Nat) (hu : ∀ x ∈ u, x ≤ 1048576) (hl : u.length ≤ 258) : (startW u).sum ≤ 1000000000 := by
  have := sum_le (startW u) 1048576 (fun x hx => by
    simp only [startW, List.mem_map] at hx
    obtain ⟨y, hy, rfl⟩ := hx
    have := hu y hy
    omega)
  rw [length_startW] at this
  omega
/-- what Lengths tells -/
def lenF (u : List Nat) (most : Nat) : List Nat := lengthsF (startW u).sum (startW u) most
theorem deep_max (ws : List Nat) (most : Nat) (h : ws ≠ []) : decide ((most : Int) < maxI (ints (depthsF ws))) = tooDeep ws most := by
  have hne : depthsF ws ≠ [] := fun e => h (List.eq_nil_of_length_eq_zero (by rw [← length_depthsF, e]; rfl))
  have h2 := foldl_max_gt (ints (depthsF ws)).tail most ((ints (depthsF ws)).headD 0)
  have e : ints (depthsF ws) = (ints (depthsF ws)).headD 0 :: (ints (depthsF ws)).tail := by
    cases hd : depthsF ws with
    | nil => exact absurd hd hne
    | cons a l => rfl
  rw [Bool.eq_iff_iff, decide_eq_true_iff]
  unfold maxI tooDeep
  rw [h2, List.any_eq_true]
  have hm : ∀ x : Int, x ∈ ints (depthsF ws) ↔ ∃ d ∈ depthsF ws, x = (d : Int) := fun x => by
    simp only [ints, List.mem_map]
    exact ⟨fun ⟨d, h, e⟩ => ⟨d, h, e.symm⟩, fun ⟨d, h, e⟩ => ⟨d, h, e.symm⟩⟩
  constructor
  · intro hh
    have : ∃ x ∈ ints (depthsF ws), (most : Int) < x := by
      rcases hh with hh | ⟨x, hx, hh⟩
      · exact ⟨_, by rw [e]; simp, hh⟩
      · exact ⟨x, by rw [e]; simp [hx], hh⟩
    obtain ⟨x, hx, hlt⟩ := this
    obtain ⟨d, hd, rfl⟩ := (hm x).1 hx
    exact ⟨d, hd, by simp; omega⟩
  · rintro ⟨d, hd, hlt⟩
    have hx := (hm (d : Int)).2 ⟨d, hd, rfl⟩
    have hlt : most < d := by simpa using hlt
    rw [e] at hx
    rcases List.mem_cons.1 hx with hx | hx
    · exact .inl (by omega)
    · exact .inr ⟨_, hx, by omega⟩

set_option maxRecDepth 100000 in
set_option maxHeartbeats 6400000 in
theorem lengths_ty (w : World) (v : Value) (u : List Nat) (most : Nat) (hv : IsInts w w.heap.size v (ints u)) (hu : ∀ x ∈ u, x ≤ 1048576) (h2 : 2 ≤ u.length) (h258 : u.length ≤ 258) (h9 : 9 ≤ most) (h20 : most ≤ 20) :
    Calls Try.prog 11 #[v, .int .i64 (most : Nat)] w fun e w' => ∃ q c, e = .returned (.tuple #[.slice q u.length c, .int .i64 0]) ∧ (IsInts w' w'.heap.size (.slice q u.length c) (ints (lenF u most)) ∧ TypedInts w' (.slice q u.length c)) ∧ Below w.heap.size w w' := by
  have hmay : mayW (ints u) = true := (mayW_iff _).2 fun x hx => by
    simp only [ints, List.mem_map] at hx
    obtain ⟨y, hy, rfl⟩ := hx
    have := hu y hy
    omega
  have CW := Lib.hid (within_any w v (ints u) hv (by rw [length_ints]; omega))
  rw [hmay] at CW
  have CC : Hid (∀ W, Below w.heap.size w W → Calls Try.prog 23 #[v] W fun e w' => ∃ q c, e = .returned (.slice q u.length c) ∧ OwnInts w' W.heap.size (.slice q u.length c) (ints u) ∧ Below W.heap.size W w') := fun W hB => by
    have := clone_any W v (ints u) (ints_up hv hB) (by rw [length_ints]; omega) (by rw [length_ints]; omega)
    rw [length_ints] at this
    exact this
  obtain ⟨A, ca, rfl, hc1, hc2⟩ := hv.shape
  have hsum := startW_sum u hu h258
  have hpos := startW_pos u
  have hlst := length_startW u
  have hR : lenF u most = lengthsF (startW u).sum (startW u) most := rfl
  have hst : startW u = u.map fun x => max x 1 := rfl
  generalize lenF u most = R at *
  rw [length_ints] at hc1 CW ⊢
  rw [length_ints] at CC hv
  obtain ⟨N, hN⟩ : ∃ N, u.length = N := ⟨_, rfl⟩
  rw [hN] at h2 h258 hc1 CW CC hv hlst ⊢
  have HN := Lib.hid hN
  have HV := Lib.hid hv
  have HS := Lib.hid hsum
  have HP := Lib.hid hpos
  have HL := Lib.hid hlst
  have HR := Lib.hid hR
  have HST := Lib.hid hst
  have CD : Hid (∀ (W : World) (v : Value) (ws : List Nat), IsInts W W.heap.size v (ints ws) → ws.length = N → (∀ x ∈ ws, 1 ≤ x) → ws.sum ≤ 1000000000 → Calls Try.prog 24 #[v] W fun e w' => ∃ q c, e = .returned (.slice q N c) ∧ (IsInts w' w'.heap.size (.slice q N c) (ints (depthsF ws)) ∧ TypedInts w' (.slice q N c)) ∧ Below W.heap.size W w') := fun W v ws h hl hp hs => by
    subst hl
    exact depths_ty W v ws h h2 h258 hp (by omega)
  have CM : Hid (∀ (W : World) (v : Value) (ws : List Nat), IsInts W W.heap.size v (ints (depthsF ws)) → ws.length = N → Calls Try.prog 25 #[v] W fun e w' => e = .returned (.int .i64 (maxI (ints (depthsF ws)))) ∧ W = w') := fun W v ws h hl => by
    refine max_any W v _ h (by rw [length_ints, length_depthsF]; omega) fun e => ?_
    have := congrArg List.length e
    rw [length_ints, length_depthsF, List.length_nil] at this
    omega
  have d1 : decide ((N : Int) < 2) = false := decide_eq_false (by omega)
  have d2 : decide (258 < (N : Int)) = false := decide_eq_false (by omega)
  have d3 : decide ((most : Int) < 9) = false := decide_eq_false (by omega)
  have d4 : decide (20 < (most : Int)) = false := decide_eq_false (by omega)
  clear hmay hu hv hsum hpos hlst hR hN hst
  go_enter Try.func11, Try.ntmps11
  go_wp2_with fail
  refine CW.out.mono ?_
  rintro e w1 ⟨rfl, hB1⟩
  go_wp2_with fail
  refine (CC.out _ hB1).mono ?_
  rintro e w2 ⟨q, c, rfl, ho, hB2⟩
  obtain ⟨g, cap, he, -⟩ := ho.place (by rw [length_ints, HN.out]; omega)
  rw [length_ints, HN.out] at he
  injection he with e1 e2 e3
  subst e1 e3
  clear e2
  have ho := ho.mono hB1.size
  have HO := Lib.hid ho
  have HB := Lib.hid (hB1.trans (hB2.mono hB1.size))
  clear ho hB1 hB2 CC CW
  go_wp2_with fail
  go_loopw [37] (fun iv wr => ∃ k : Nat, k ≤ N ∧ iv = .int .i64 k ∧ Hid (OwnInts wr w.heap.size (.slice (some ⟨g, 0, none⟩) N c) (ints (mixN (fun x => max x 1) u k))) ∧ Hid (Below w.heap.size w wr)) (fun iv _ => N + 1 - (intOf iv).toNat)
  case atStart => exact ⟨0, Nat.zero_le _, rfl, by rw [mixN_zero]; exact HO, HB⟩
  case round =>
    clear HO HB
    obtain ⟨k, hk, rfl, HO, HB⟩ := hrel
    by_cases hlt : k < N
    · obtain ⟨x, hx⟩ : ∃ x, u[k]? = some x := ⟨_, List.getElem?_eq_getElem (by rw [HN.out]; exact hlt)⟩
      obtain ⟨m1, m2, m3, m4, m5⟩ := HO.out.mine (by rw [length_ints, length_mixN, HN.out]) (by omega)
      have hc := m1 k x (ints_get _ _ _ (by rw [mixN_get _ _ _ (by rw [HN.out]; exact hlt)]; exact hx))
      have hf := m2 k
      have HO2 : Hid (OwnInts (wr.setCell ⟨g, k, none⟩ (.int .i64 ((max x 1 : Nat) : Int))) w.heap.size (.slice (some ⟨g, 0, none⟩) N c) (ints (mixN (fun x => max x 1) u (k + 1)))) := by
        have := m3 k ((max x 1 : Nat) : Int)
        rw [ints_set, mixN_set (fun x => max x 1) u k x hx] at this
        exact this
      have HB2 : Hid (Below w.heap.size w (wr.setCell ⟨g, k, none⟩ (.int .i64 ((max x 1 : Nat) : Int)))) := HB.out.setCell (p := ⟨g, k, none⟩) m4 _
      have hmx : Hid ((if (x : Int) < 1 then 1 else (x : Int)) = ((max x 1 : Nat) : Int)) := by
        show _ = _
        split <;> omega
      clear m1 m2 m3 hx
      go_wp2_with fail
      go_roundw
      case rel => exact ⟨k + 1, by omega, by go_num, by rw [hmx.out]; exact HO2, by rw [hmx.out]; exact HB2⟩
      case measure => simp [intOf]; omega
    · obtain rfl : k = N := by omega
      have hO := HO.out
      rw [mixN_all _ _ _ (by rw [HN.out]; exact Nat.le_refl _), ← HST.out] at hO
      have HO1 := Lib.hid hO
      have hz0 := HB.out.size
      clear HO ho hO
      go_wp2_with fail
      refine (CD.out _ _ (startW u) HO1.out.is HL.out HP.out HS.out).mono ?_
      rintro e w3 ⟨q2, c3, rfl, ⟨hv3, hty3⟩, hB3⟩
      have HTY3 := Lib.hid hty3
      clear hty3
      have HV3 := Lib.hid hv3
      have HO3 := Lib.hid (HO1.out.below hB3)
      have HB3 := Lib.hid (HB.out.trans (hB3.mono hz0))
      clear hv3 hB3 HO1 HB hz0
      go_wp2_with fail
      go_loopw [9] (fun ov wr => ∃ (ws : List Nat) (q : Option Addr) (c3 : Nat), ov = .slice q k c3 ∧ ws.length = k ∧ Hid (∀ x ∈ ws, 1 ≤ x) ∧ Hid (ws.sum ≤ 1000000000) ∧ Hid (∃ n, ws.sum ≤ n ∧ R = lengthsF n ws most) ∧ Hid (IsInts wr wr.heap.size (.slice q k c3) (ints (depthsF ws))) ∧ Hid (TypedInts wr (.slice q k c3)) ∧ Hid (OwnInts wr w.heap.size (.slice (some ⟨g, 0, none⟩) k c) (ints ws)) ∧ Hid (Below w.heap.size w wr)) (fun ov wr => sumOf wr g k)
      case atStart => exact ⟨startW u, q2, c3, rfl, HL.out, HP, HS, ⟨_, Nat.le_refl _, HR.out⟩, HV3, HTY3, HO3, HB3⟩
      case round =>
        clear HV3 HTY3 HO3 HB3 HP HS HR HL HST
        obtain ⟨ws, q, c3, rfl, hwl, HP, HS, HR, HV3, HTY, HO, HB⟩ := hrel
        have hmz : sumOf wr g k = ws.sum := sumOf_own HO.out hwl (by omega)
        have CM1 := Lib.hid (CM.out wr _ ws HV3.out hwl)
        have hdm := deep_max ws most (fun e => by rw [e] at hwl; simp at hwl; omega)
        obtain ⟨M, hM⟩ : ∃ M, maxI (ints (depthsF ws)) = M := ⟨_, rfl⟩
        rw [hM] at CM1 hdm
        clear hM
        have HMZ := Lib.hid hmz
        clear hmz
        cases htd : tooDeep ws most with
        | false =>
          rw [htd] at hdm
          have hRd : Hid (R = depthsF ws) := by
            obtain ⟨n, _, h⟩ := HR.out
            show _ = _
            rw [h, lengthsF_done htd]
          have HWL := Lib.hid hwl
          clear htd HR HP HS HMZ hwl CM CD
          go_wp2_with fail
          refine CM1.out.mono ?_
          rintro e w_ ⟨rfl, rfl⟩
          go_wp2_with fail
          go_ret2
          exact ⟨q, c3, rfl, ⟨by rw [hRd.out]; exact HV3.out, HTY.out⟩, HB.out⟩
        | true =>
          rw [htd] at hdm
          obtain ⟨n, hn, hRn⟩ := HR.out
          obtain ⟨n', hn', hn2, hn3⟩ := halve_step HP.out (by omega) (by omega) h9 htd hn
          have h3x : (halve ws).sum < ws.sum := by
            obtain ⟨n2, e1, e2, _⟩ := halve_step HP.out (by omega) (by omega) h9 htd (Nat.le_refl _)
            omega
          have HR2 : Hid (∃ n, (halve ws).sum ≤ n ∧ R = lengthsF n (halve ws) most) := ⟨n', hn2, hRn.trans hn3⟩
          have HP2 := Lib.hid (halve_pos ws)
          have HS2 : Hid ((halve ws).sum ≤ 1000000000) := by
            have := HS.out
            show _ ≤ _
            omega
          have HLT := Lib.hid h3x
          have HWL := Lib.hid hwl
          clear htd HR hn hRn hn' hn2 hn3 h3x HP hwl HV3
          go_wp2_with fail
          refine CM1.out.mono ?_
          rintro e w_ ⟨rfl, rfl⟩
          clear CM1
          go_wp2_with fail
          have HOs : Hid (OwnInts wr w.heap.size (.slice (some ⟨g, 0, none⟩) k c) (ints (mixN (fun x => x / 2 + 1) ws 0))) := by
            rw [mixN_zero]; exact HO
          clear HO
          go_loopw [56] (fun iv wr => ∃ j : Nat, j ≤ k ∧ iv = .int .i64 j ∧ Hid (OwnInts wr w.heap.size (.slice (some ⟨g, 0, none⟩) k c) (ints (mixN (fun x => x / 2 + 1) ws j))) ∧ Hid (Below w.heap.size w wr)) (fun iv _ => k + 1 - (intOf iv).toNat)
          case atStart => exact ⟨0, Nat.zero_le _, rfl, HOs, HB⟩
          case round =>
            clear HOs HB
            obtain ⟨j, hj, rfl, HO, HB⟩ := hrel
            by_cases hlt2 : j < k
            · obtain ⟨x, hx⟩ : ∃ x, ws[j]? = some x := ⟨_, List.getElem?_eq_getElem (by rw [HWL.out]; exact hlt2)⟩
              obtain ⟨m1, m2, m3, m4, m5⟩ := HO.out.mine (by rw [length_ints, length_mixN, HWL.out]) (by omega)
              have hc := m1 j x (ints_get _ _ _ (by rw [mixN_get _ _ _ (by rw [HWL.out]; exact hlt2)]; exact hx))
              have hf := m2 j
              have hxs : x ≤ 1000000000 := Nat.le_trans (mem_sum ws x (List.mem_of_getElem? hx)) HS.out
              have hhx : Hid ((x : Int) / 2 + 1 = ((x / 2 + 1 : Nat) : Int)) := by
                show _ = _
                omega
              have HO2 : Hid (OwnInts (wr.setCell ⟨g, j, none⟩ (.int .i64 ((x / 2 + 1 : Nat) : Int))) w.heap.size (.slice (some ⟨g, 0, none⟩) k c) (ints (mixN (fun x => x / 2 + 1) ws (j + 1)))) := by
                have := m3 j ((x / 2 + 1 : Nat) : Int)
                rw [ints_set, mixN_set (fun x => x / 2 + 1) ws j x hx] at this
                exact this
              have HB2 : Hid (Below w.heap.size w (wr.setCell ⟨g, j, none⟩ (.int .i64 ((x / 2 + 1 : Nat) : Int)))) := HB.out.setCell (p := ⟨g, j, none⟩) m4 _
              clear m1 m2 m3 hx
              go_wp2_with fail
              go_roundw
              case rel => exact ⟨j + 1, by omega, by go_num, by rw [hhx.out]; exact HO2, by rw [hhx.out]; exact HB2⟩
              case measure => simp [intOf]; omega
            · obtain rfl : j = k := by omega
              have hO := HO.out
              rw [mixN_all _ _ _ (by rw [HWL.out]; exact Nat.le_refl _)] at hO
              have HO1 : Hid (OwnInts wr w.heap.size (.slice (some ⟨g, 0, none⟩) j c) (ints (halve ws))) := hO
              have HHL : Hid ((halve ws).length = j) := by
                show _ = _
                rw [length_halve]; exact HWL.out
              have hz0 := HB.out.size
              clear HO hO
              go_wp2_with fail
              refine (CD.out _ _ (halve ws) HO1.out.is HHL.out HP2.out HS2.out).mono ?_
              rintro e w4 ⟨q4, c4, rfl, ⟨hv4, hty4⟩, hB4⟩
              have HTY4 := Lib.hid hty4
              clear hty4
              have HV4 := Lib.hid hv4
              have HO4 := Lib.hid (HO1.out.below hB4)
              have HB4 := Lib.hid (HB.out.trans (hB4.mono hz0))
              have HMW : Hid (sumOf w4 g j = (halve ws).sum) := sumOf_own HO4.out HHL.out (by omega)
              clear hv4 hB4 HO1 HB hz0
              go_wp2_with fail
              go_roundw
              case rel => exact ⟨halve ws, q4, c4, rfl, HHL.out, HP2, HS2, HR2, HV4, HTY4, HO4, HB4⟩
              case measure => rw [HMZ.out, HMW.out]; exact HLT.out
theorem lengths_ok (w : World) (v : Value) (u : List Nat) (most : Nat) (hv : IsInts w w.heap.size v (ints u)) (hu : ∀ x ∈ u, x ≤ 1048576) (h2 : 2 ≤ u.length) (h258 : u.length ≤ 258) (h9 : 9 ≤ most) (h20 : most ≤ 20) :
    Calls Try.prog 11 #[v, .int .i64 (most : Nat)] w fun e w' => ∃ q c, e = .returned (.tuple #[.slice q u.length c, .int .i64 0]) ∧ IsInts w' w'.heap.size (.slice q u.length c) (ints (lenF u most)) ∧ Below w.heap.size w w' :=
  (lengths_ty w v u most hv hu h2 h258 h9 h20).mono fun e w' h => by
    obtain ⟨q, c, h1, h2, h3⟩ := h
    exact ⟨q, c, h1, h2.1, h3⟩
end Go.Proofs.Ytodniacnjdnffaa
