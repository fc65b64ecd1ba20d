/- Lengths of the document's answer: the walk. -/
import Derived.Test.YtegjkhhgihcdcaaRefLen
namespace Go.Proofs.Ytegjkhhgihcdcaa
open Go.RowKit
set_option linter.unusedVariables false

/-- the sum of what a slice of ints has -/
def sumV (w : World) : Value → Nat
  | .slice (some ⟨g, _, _⟩) n _ => sumOf w g n
  | _ => 0
theorem sumV_own {w : World} {base n cap : Nat} {q : Option Addr} {l : List Nat} (h : OwnInts w base (.slice q n cap) (ints l)) (hn : l.length = n) (h0 : 0 < n) : sumV w (.slice q n cap) = l.sum := by
  obtain ⟨g, cap', he, -⟩ := h.place (by rw [length_ints]; omega)
  injection he with e1 e2 e3
  subst e1 e3
  exact sumOf_own h hn h0
theorem startW_take (u : List Nat) (k x : Nat) (h : u[k]? = some x) : (startW u).take (k + 1) = (startW u).take k ++ [max x 1] := by
  rw [List.take_add_one]
  simp [startW, h]
theorem halve_take (u : List Nat) (k x : Nat) (h : u[k]? = some x) : (halve u).take (k + 1) = (halve u).take k ++ [x / 2 + 1] := by
  rw [List.take_add_one]
  simp [halve, h]
set_option maxRecDepth 100000 in
set_option maxHeartbeats 6400000 in
theorem rlengths_ok (w : World) (v : Value) (u : List Nat) (most : Nat) (hv : IsInts w w.heap.size v (ints u)) (hu : ∀ x ∈ u, x ≤ 1048576) (h2 : 2 ≤ u.length) (h258 : u.length ≤ 258) (h9 : 9 ≤ most) (h20 : most ≤ 20) :
    Calls Try.prog 13 #[v, .int .i64 (most : Nat)] w fun e w' => ∃ q c, e = .returned (.tuple #[.slice q u.length c, .int .i64 0]) ∧ IsInts w' w'.heap.size (.slice q u.length c) (ints (lenF u most)) ∧ Below w.heap.size w w' := by
  have hmay : mayW (ints u) = true := (mayW_iff _).2 fun x hx => by
    simp only [ints, List.mem_map] at hx
    obtain ⟨y, hy, rfl⟩ := hx
    have := hu y hy
    omega
  have CW := Lib.hid (may_any w v (ints u) hv (by rw [length_ints]; omega))
  rw [hmay] at CW
  obtain ⟨A, ca, rfl, hc1, hc2⟩ := hv.shape
  have hsum := startW_sum u hu h258
  have hpos := startW_pos u
  have hlst := length_startW u
  have hR : lenF u most = lengthsF (startW u).sum (startW u) most := rfl
  generalize lenF u most = R at *
  rw [length_ints] at hc1 CW hv ⊢
  obtain ⟨N, hN⟩ : ∃ N, u.length = N := ⟨_, rfl⟩
  rw [hN] at h2 h258 hc1 CW hv hlst ⊢
  have HN := Lib.hid hN
  have HV := Lib.hid hv
  have HS := Lib.hid hsum
  have HP := Lib.hid hpos
  have HL := Lib.hid hlst
  have HR := Lib.hid hR
  have HU := Lib.hid hu
  have CD : Hid (∀ (W : World) (v : Value) (ws : List Nat), IsInts W W.heap.size v (ints ws) → ws.length = N → (∀ x ∈ ws, 1 ≤ x) → ws.sum ≤ 1000000000 → Calls Try.prog 24 #[v] W fun e w' => ∃ q c, e = .returned (.slice q N c) ∧ IsInts w' w'.heap.size (.slice q N c) (ints (depthsF ws)) ∧ Below W.heap.size W w') := fun W v ws h hl hp hs => by
    subst hl
    exact joined_any W v ws h (by omega) h258 hp hs
  have CM : Hid (∀ (W : World) (v : Value) (ws : List Nat), IsInts W W.heap.size v (ints (depthsF ws)) → ws.length = N → Calls Try.prog 25 #[v] W fun e w' => e = .returned (.int .i64 (dmax (depthsF ws) : Nat)) ∧ W = w') := fun W v ws h hl => deepest_any W v _ h (by rw [length_depthsF]; omega)
  have d1 : decide ((N : Int) < 2) = false := decide_eq_false (by omega)
  have d2 : decide (258 < (N : Int)) = false := decide_eq_false (by omega)
  have d3 : decide ((most : Int) < 9) = false := decide_eq_false (by omega)
  have d4 : decide (20 < (most : Int)) = false := decide_eq_false (by omega)
  clear hmay hu hv hsum hpos hlst hR hN
  go_enter Try.func13, Try.ntmps13
  go_wp2_with fail
  refine CW.out.mono ?_
  rintro e w_ ⟨rfl, rfl⟩
  clear CW
  go_wp2_with fail
  go_loopw [7, 8] (fun ov iv wr => ∃ (k c : Nat) (q : Option Addr), k ≤ N ∧ iv = .int .i64 k ∧ ov = .slice q k c ∧ Hid (OwnInts wr w.heap.size (.slice q k c) (ints ((startW u).take k))) ∧ Hid (Below w.heap.size w wr)) (fun _ iv _ => N + 1 - (intOf iv).toNat)
  case atStart => exact ⟨0, 0, none, Nat.zero_le _, rfl, rfl, OwnInts.nil _ _, Below.refl _ _⟩
  case round =>
    obtain ⟨k, c, q, hk, rfl, rfl, HO, HB⟩ := hrel
    have hz := HB.out.size
    by_cases hlt : k < N
    · obtain ⟨x, hx⟩ : ∃ x, u[k]? = some x := ⟨_, List.getElem?_eq_getElem (by rw [HN.out]; exact hlt)⟩
      obtain ⟨g, o, rfl, hg, hc⟩ := (HV.out.below HB.out (Nat.le_refl _)).at k (by rw [length_ints, HN.out]; exact hlt)
      rw [show (ints u)[k]?.getD 0 = (x : Int) by simp [ints, hx]] at hc
      have HT := Lib.hid (startW_take u k x hx)
      obtain ⟨y, hy⟩ : ∃ y, max x 1 = y := ⟨_, rfl⟩
      have hmx : (if (x : Int) < 1 then 1 else (x : Int)) = (y : Int) := by rw [← hy]; split <;> omega
      rw [hy] at HT
      have HTL : Hid ((ints ((startW u).take k)).length = k) := by
        show _ = _
        rw [length_ints, List.length_take, HL.out]; omega
      clear hx hy
      go_wp2_with
        (at_builtin
         refine wpList_append_ints rfl _ _ rfl w.heap.size _ (ints ((startW u).take k)) rfl (HO.out.alloc _) (wr.heap.size + 1) _ [(y : Int)] rfl (IsInts.new wr [(y : Int)] _ _ _ rfl rfl rfl (by simp [maxLen])) (by rw [HTL.out]; simp; omega) (by simp; omega) ?_
         intro q' c' w1 hown1 hg1 hat1
         rw [show (ints ((startW u).take k)).length + [(y : Int)].length = k + 1 by rw [HTL.out]; rfl] at hown1 ⊢
         rw [show ints ((startW u).take k) ++ [(y : Int)] = ints ((startW u).take (k + 1)) by rw [HT.out]; simp [ints]] at hown1
         have Hown1 := Lib.hid hown1
         have HB1 : Hid (Below w.heap.size w w1) := bel_grown hg1 (HB.out.alloc (by omega) _) (fun k hk => own_ge HO.out hk)
         clear hg1 hat1 hown1)
      go_roundw
      case rel => exact ⟨k + 1, _, _, by omega, by go_num, rfl, Hown1, HB1⟩
      case measure => simp [intOf]; omega
    · obtain rfl : k = N := by omega
      have hO := HO.out
      rw [List.take_of_length_le (by rw [HL.out]; exact Nat.le_refl _)] at hO
      have HO1 := Lib.hid hO
      clear HO hO
      go_wp2_with fail
      refine (CD.out _ _ (startW u) HO1.out.is HL.out HP.out HS.out).mono ?_
      rintro e w3 ⟨q2, c3, rfl, hv3, hB3⟩
      have HV3 := Lib.hid hv3
      have HO3 := Lib.hid (HO1.out.below hB3)
      have HB3 := Lib.hid (HB.out.trans (hB3.mono hz))
      clear hv3 hB3 HO1 HB hz
      go_wp2_with fail
      go_loopw [7, 9] (fun nv ov wr => ∃ (ws : List Nat) (q q9 : Option Addr) (c c9 : Nat), nv = .slice q9 k c9 ∧ ov = .slice q k c ∧ ws.length = k ∧ Hid (∀ x ∈ ws, 1 ≤ x) ∧ Hid (ws.sum ≤ 1000000000) ∧ Hid (∃ n, ws.sum ≤ n ∧ R = lengthsF n ws most) ∧ Hid (IsInts wr wr.heap.size (.slice q k c) (ints (depthsF ws))) ∧ Hid (OwnInts wr w.heap.size (.slice q9 k c9) (ints ws)) ∧ Hid (Below w.heap.size w wr)) (fun nv ov wr => sumV wr nv)
      case atStart => exact ⟨startW u, q2, q, c3, c, rfl, rfl, HL.out, HP, HS, ⟨_, Nat.le_refl _, HR.out⟩, HV3, HO3, HB3⟩
      case round =>
        clear HV3 HO3 HB3 HP HS HR HL
        obtain ⟨ws, q, q9, c, c9, rfl, rfl, hwl, HP, HS, HR, HV3, HO, HB⟩ := hrel
        have hmz : sumV wr (.slice q9 k c9) = ws.sum := sumV_own HO.out hwl (by omega)
        have CM1 := Lib.hid (CM.out wr _ ws HV3.out hwl)
        have hdm : decide (most < dmax (depthsF ws)) = tooDeep ws most := by simpa using dmax_deep ws most
        obtain ⟨Z, hZ⟩ : ∃ Z, dmax (depthsF ws) = Z := ⟨_, rfl⟩
        rw [hZ] at CM1 hdm
        clear hZ
        have HMZ := Lib.hid hmz
        clear hmz
        cases htd : tooDeep ws most with
        | false =>
          rw [htd] at hdm
          have hRd : Hid (R = depthsF ws) := by
            obtain ⟨n, _, h⟩ := HR.out
            show _ = _
            rw [h, lengthsF_done htd]
          have HWL := Lib.hid hwl
          clear htd HR HP HS HMZ hwl CM CD
          go_wp2_with fail
          refine CM1.out.mono ?_
          rintro e w_ ⟨rfl, rfl⟩
          go_wp2_with fail
          go_ret2
          exact ⟨q, c, rfl, by rw [hRd.out]; exact HV3.out, HB.out⟩
        | true =>
          rw [htd] at hdm
          obtain ⟨n, hn, hRn⟩ := HR.out
          obtain ⟨n', hn', hn2, hn3⟩ := halve_step HP.out (by omega) (by omega) h9 htd hn
          have h3x : (halve ws).sum < ws.sum := by
            obtain ⟨n2, e1, e2, _⟩ := halve_step HP.out (by omega) (by omega) h9 htd (Nat.le_refl _)
            omega
          have HR2 : Hid (∃ n, (halve ws).sum ≤ n ∧ R = lengthsF n (halve ws) most) := ⟨n', hn2, hRn.trans hn3⟩
          have HP2 := Lib.hid (halve_pos ws)
          have HS2 : Hid ((halve ws).sum ≤ 1000000000) := by
            have := HS.out
            show _ ≤ _
            omega
          have HLT := Lib.hid h3x
          have HWL := Lib.hid hwl
          clear htd HR hn hRn hn' hn2 hn3 h3x HP hwl HV3
          go_wp2_with fail
          refine CM1.out.mono ?_
          rintro e w_ ⟨rfl, rfl⟩
          clear CM1
          have HWW : Hid (IsInts wr wr.heap.size (.slice q9 k c9) (ints ws)) := HO.out.is
          have hz9 := HB.out.size
          clear HO
          obtain ⟨W0, hW0⟩ : ∃ W0, wr = W0 := ⟨_, rfl⟩
          rw [hW0] at HWW hz9 HB ⊢
          clear hW0
          go_wp2_with fail
          go_loopw [10, 11] (fun xv iv ww => ∃ (j c : Nat) (q : Option Addr), j ≤ k ∧ iv = .int .i64 j ∧ xv = .slice q j c ∧ Hid (OwnInts ww W0.heap.size (.slice q j c) (ints ((halve ws).take j))) ∧ Hid (Below W0.heap.size W0 ww)) (fun _ iv _ => k + 1 - (intOf iv).toNat)
          case atStart => exact ⟨0, 0, none, Nat.zero_le _, rfl, rfl, OwnInts.nil _ _, Below.refl _ _⟩
          case round =>
            obtain ⟨j, cj, qj, hj, rfl, rfl, HO, HBj⟩ := hrel
            have hzj := HBj.out.size
            by_cases hlt2 : j < k
            · obtain ⟨x, hx⟩ : ∃ x, ws[j]? = some x := ⟨_, List.getElem?_eq_getElem (by rw [HWL.out]; exact hlt2)⟩
              obtain ⟨g, o, hq9, hg, hc⟩ := (HWW.out.below HBj.out (Nat.le_refl _)).at j (by rw [length_ints, HWL.out]; exact hlt2)
              subst hq9
              rw [show (ints ws)[j]?.getD 0 = (x : Int) by simp [ints, hx]] at hc
              have hxs : x ≤ 1000000000 := Nat.le_trans (mem_sum ws x (List.mem_of_getElem? hx)) HS.out
              have HT := Lib.hid (halve_take ws j x hx)
              obtain ⟨y, hy⟩ : ∃ y, x / 2 + 1 = y := ⟨_, rfl⟩
              have hhx : (x : Int) / 2 + 1 = (y : Int) := by omega
              rw [hy] at HT
              have HTL : Hid ((ints ((halve ws).take j)).length = j) := by
                show _ = _
                rw [length_ints, List.length_take, length_halve, HWL.out]; omega
              clear hx hy
              go_wp2_with
                (at_builtin
                 refine wpList_append_ints rfl _ _ rfl W0.heap.size _ (ints ((halve ws).take j)) rfl (HO.out.alloc _) (wr.heap.size + 1) _ [(y : Int)] rfl (IsInts.new wr [(y : Int)] _ _ _ rfl rfl rfl (by simp [maxLen])) (by rw [HTL.out]; simp; omega) (by simp; omega) ?_
                 intro q' c' w1 hown1 hg1 hat1
                 rw [show (ints ((halve ws).take j)).length + [(y : Int)].length = j + 1 by rw [HTL.out]; rfl] at hown1 ⊢
                 rw [show ints ((halve ws).take j) ++ [(y : Int)] = ints ((halve ws).take (j + 1)) by rw [HT.out]; simp [ints]] at hown1
                 have Hown1 := Lib.hid hown1
                 have HB1 : Hid (Below W0.heap.size W0 w1) := bel_grown hg1 (HBj.out.alloc (by omega) _) (fun k hk => own_ge HO.out hk)
                 clear hg1 hat1 hown1)
              go_roundw
              case rel => exact ⟨j + 1, _, _, by omega, by go_num, rfl, Hown1, HB1⟩
              case measure => simp [intOf]; omega
            · obtain rfl : j = k := by omega
              have hO := HO.out
              have HHL : Hid ((halve ws).length = j) := by
                show _ = _
                rw [length_halve]; exact HWL.out
              rw [List.take_of_length_le (by rw [HHL.out]; exact Nat.le_refl _)] at hO
              have HO1 := Lib.hid (hO.mono hz9)
              have HBw := Lib.hid (HB.out.trans (HBj.out.mono hz9))
              have hzw := HBw.out.size
              clear HO hO HBj HB
              go_wp2_with fail
              refine (CD.out _ _ (halve ws) HO1.out.is HHL.out HP2.out HS2.out).mono ?_
              rintro e w4 ⟨q4, c4, rfl, hv4, hB4⟩
              have HV4 := Lib.hid hv4
              have HO4 := Lib.hid (HO1.out.below hB4)
              have HB4 := Lib.hid (HBw.out.trans (hB4.mono hzw))
              have HMW : Hid (sumV w4 (.slice qj j cj) = (halve ws).sum) := sumV_own HO4.out HHL.out (by omega)
              clear hv4 hB4 HO1 HBw hzw
              go_wp2_with fail
              go_roundw
              case rel => exact ⟨halve ws, q4, qj, c4, cj, rfl, rfl, HHL.out, HP2, HS2, HR2, HV4, HO4, HB4⟩
              case measure => rw [HMZ.out, HMW.out]; exact HLT.out
end Go.Proofs.Ytegjkhhgihcdcaa
