/- Tables and Bits where they refuse; Lists of pressmarkref11 at equal lists. -/
import Derived.Test.YtodniacnjdnffaaTables
namespace Go.Proofs.Ytodniacnjdnffaa
open Go.RowKit
set_option linter.unusedVariables false

set_option maxHeartbeats 1600000 in
theorem tables_arg (w : World) (v : Value) (l : List Int) (n : Int) (hv : IsInts w w.heap.size v l) (hn : n < 2) :
    Calls Try.prog 10 #[v, .int .i64 n] w fun e w' => e = .returned (.tuple #[.slice none 0 0, .slice none 0 0, .int .i64 1]) ∧ Below w.heap.size w w' := by
  obtain ⟨A, ca, rfl, hc1, hc2⟩ := hv.shape
  have d1 : decide (n < 2) = true := decide_eq_true hn
  clear hv hn
  go_enter Try.func10, Try.ntmps10
  go_wp2_with fail
  go_ret3
  exact ⟨rfl, Below.refl _ _⟩
set_option maxHeartbeats 1600000 in
theorem tables_none (w : World) (v : Value) (l : List Int) (n : Nat) (hv : IsInts w w.heap.size v l) (hl0 : 0 < l.length) (hl : l.length ≤ 1000000) (h2 : 2 ≤ n) (h258 : n ≤ 258) (ho : l.any (oddF (n : Nat)) = true) :
    Calls Try.prog 10 #[v, .int .i64 (n : Nat)] w fun e w' => e = .returned (.tuple #[.slice none 0 0, .slice none 0 0, .int .i64 5]) ∧ Below w.heap.size w w' := by
  have CO := Lib.hid (odd_any w v l (n : Nat) hv hl)
  rw [ho] at CO
  obtain ⟨A, ca, rfl, hc1, hc2⟩ := hv.shape
  obtain ⟨M, hM⟩ : ∃ M, l.length = M := ⟨_, rfl⟩
  rw [hM] at hl0 hl hc1 CO ⊢
  have d1 : decide ((n : Int) < 2) = false := decide_eq_false (by omega)
  have d2 : decide (258 < (n : Int)) = false := decide_eq_false (by omega)
  have d3 : ((M : Int) == 0) = false := by rw [beq_eq_false_iff_ne]; omega
  have d4 : decide (1048576 < (M : Int)) = false := decide_eq_false (by omega)
  clear hv ho hM
  go_enter Try.func10, Try.ntmps10
  go_wp2_with fail
  refine CO.out.mono ?_
  rintro e w1 ⟨rfl, hB1⟩
  go_wp2_with fail
  go_ret3
  exact ⟨rfl, hB1⟩
set_option maxHeartbeats 1600000 in
theorem cbits_er (w : World) (v u : Value) (l : List Int) (z : Int) (hv : IsInts w w.heap.size v l) (hl : l.length ≤ 1000000) (hz : checkF l = z) (hz0 : z ≠ 0) :
    Calls Try.prog 15 #[v, u] w fun e w' => e = .returned (.tuple #[.int .i64 0, .int .i64 z]) ∧ Below w.heap.size w w' := by
  have CK := Lib.hid (check_any w v l hv hl)
  rw [hz] at CK
  obtain ⟨A, ca, rfl, hc1, hc2⟩ := hv.shape
  have d1 : (z != 0) = true := by rw [bne_iff_ne]; exact hz0
  clear hv hz hz0
  go_enter Try.func15, Try.ntmps15
  go_wp2_with fail
  refine CK.out.mono ?_
  rintro e w1 ⟨rfl, hB1⟩
  go_wp2_with fail
  go_ret2
  exact ⟨rfl, hB1⟩
set_option maxHeartbeats 1600000 in
theorem cbits_none (w : World) (v u : Value) (l m : List Int) (hv : IsInts w w.heap.size v l) (hu : IsInts w w.heap.size u m) (hl : l.length ≤ 1000000) (hm : m.length ≤ 1000000) (hz : checkF l = 0) (ho : m.any (oddF (l.length : Nat)) = true) :
    Calls Try.prog 15 #[v, u] w fun e w' => e = .returned (.tuple #[.int .i64 0, .int .i64 5]) ∧ Below w.heap.size w w' := by
  have CK := Lib.hid (check_any w v l hv hl)
  rw [hz] at CK
  have CO : Hid (∀ W, Below w.heap.size w W → Calls Try.prog 21 #[u, .int .i64 (l.length : Nat)] W fun e w' => e = .returned (.bool true) ∧ Below W.heap.size W w') := fun W hB => by
    have := odd_any W u m (l.length : Nat) (ints_up hu hB) hm
    rw [ho] at this
    exact this
  obtain ⟨A, ca, rfl, hc1, hc2⟩ := hv.shape
  obtain ⟨A2, ca2, rfl, hd1, hd2⟩ := hu.shape
  generalize l.length = N at *
  clear hv hu hz ho
  go_enter Try.func15, Try.ntmps15
  go_wp2_with fail
  refine CK.out.mono ?_
  rintro e w1 ⟨rfl, hB1⟩
  go_wp2_with fail
  refine (CO.out _ hB1).mono ?_
  rintro e w2 ⟨rfl, hB2⟩
  have HB := Lib.hid (hB1.trans (hB2.mono hB1.size))
  go_wp2_with fail
  go_ret2
  exact ⟨rfl, HB.out⟩
set_option maxRecDepth 100000 in
set_option maxHeartbeats 3200000 in
theorem lists_eq (w : World) (u v : Value) (La Lb : List SV) (hu : IsSl w w.heap.size u La) (hv : IsSl w w.heap.size v Lb) (he : La.map (·.2) = Lb.map (·.2)) (hl : La.length ≤ 1000000) (hs : ∀ p ∈ La, p.2.length ≤ 1000000) :
    Calls Try.prog 19 #[u, v] w fun e w' => e = .returned (.bool true) ∧ Below w.heap.size w w' := by
  obtain ⟨q, c, rfl, hc1, hc2⟩ := hu.shape
  obtain ⟨q2, c2, rfl, hd1, hd2⟩ := hv.shape
  have hlen : Lb.length = La.length := by have := congrArg List.length he; rw [List.length_map, List.length_map] at this; exact this.symm
  have hat : ∀ i, i < La.length → ∃ va vb xs, La[i]? = some (va, xs) ∧ Lb[i]? = some (vb, xs) ∧ xs.length ≤ 1000000 := fun i hi => by
    have h1 : La[i]? = some La[i] := List.getElem?_eq_getElem hi
    have h2 : Lb[i]? = some Lb[i] := List.getElem?_eq_getElem (by omega)
    have h3 : (La.map (·.2))[i]? = (Lb.map (·.2))[i]? := by rw [he]
    rw [List.getElem?_map, List.getElem?_map, h1, h2] at h3
    injection h3 with h3
    dsimp only at h3
    exact ⟨La[i].1, Lb[i].1, La[i].2, h1, by rw [h2, h3], hs _ (List.getElem_mem _)⟩
  rw [hlen] at hv hd1 ⊢
  obtain ⟨N, hN⟩ : ∃ N, La.length = N := ⟨_, rfl⟩
  rw [hN] at hu hv hl hc1 hd1 hat ⊢
  have HU := Lib.hid hu
  have HV := Lib.hid hv
  have HA := Lib.hid hat
  clear hu hv hat he hs hlen hN
  go_enter Try.func19, Try.ntmps19
  go_wp2_with fail
  go_loopw [5] (fun iv wr => ∃ i : Nat, i ≤ N ∧ iv = .int .i64 i ∧ Hid (Below w.heap.size w wr)) (fun iv _ => N + 1 - (intOf iv).toNat)
  case atStart => exact ⟨0, Nat.zero_le _, rfl, Below.refl _ _⟩
  case round =>
    obtain ⟨i, hi, rfl, HB⟩ := hrel
    by_cases hlt : i < N
    · obtain ⟨va, vb, xs, h1, h2, hxs⟩ := HA.out i hlt
      obtain ⟨g, o, hq, hg, hca, hia⟩ := HU.out.at i _ h1
      obtain ⟨g2, o2, hq2, hg2, hcb, hib⟩ := HV.out.at i _ h2
      subst hq hq2
      dsimp only at hca hcb hia hib
      obtain ⟨pa, ka, hae, -⟩ := hia.shape
      obtain ⟨pb, kb, hbe, -⟩ := hib.shape
      obtain ⟨T, hT⟩ : ∃ T, xs.length = T := ⟨_, rfl⟩
      rw [hT] at hae hbe hxs
      subst hae hbe
      have hca1 := (HB.out.cell (p := ⟨g, o + i, none⟩) hg).trans hca
      have hcb1 := (HB.out.cell (p := ⟨g2, o2 + i, none⟩) hg2).trans hcb
      have HIA := Lib.hid hia
      have HIB := Lib.hid hib
      have HCA := Lib.hid hca
      have HCB := Lib.hid hcb
      have HT := Lib.hid hT
      clear h1 h2 hia hib hT hca hcb
      go_wp2_with fail
      go_quiet (fail)
      have HB2 := Lib.hid (below_drewN HB.out nq)
      generalize wr.drewN nq = W2 at *
      clear hca1 hcb1 HB
      go_wp2_with fail
      go_loopw [6] (fun tv wr => ∃ t : Nat, t ≤ T ∧ tv = .int .i64 t ∧ Hid (Below w.heap.size w wr)) (fun tv _ => T + 1 - (intOf tv).toNat)
      case atStart => exact ⟨0, Nat.zero_le _, rfl, HB2⟩
      case round =>
        clear HB2
        obtain ⟨t, ht, rfl, HB⟩ := hrel
        have hca1 := (HB.out.cell (p := ⟨g, o + i, none⟩) hg).trans HCA.out
        have hcb1 := (HB.out.cell (p := ⟨g2, o2 + i, none⟩) hg2).trans HCB.out
        by_cases hlt2 : t < T
        · obtain ⟨g3, o3, hq3, hg3, hx3⟩ := (HIA.out.below HB.out (Nat.le_refl _)).at t (by rw [HT.out]; exact hlt2)
          obtain ⟨g4, o4, hq4, hg4, hx4⟩ := (HIB.out.below HB.out (Nat.le_refl _)).at t (by rw [HT.out]; exact hlt2)
          subst hq3 hq4
          generalize xs[t]?.getD 0 = x at *
          go_wp2_with fail
          go_quiet (fail)
          go_wp2_with fail
          go_roundw
          case rel => exact ⟨t + 1, by omega, by go_num, below_drewN HB.out _⟩
          case measure => simp [intOf]; omega
        · obtain rfl : t = T := by omega
          go_wp2_with fail
          go_roundw
          case rel => exact ⟨i + 1, by omega, by go_num, HB⟩
          case measure => simp [intOf]; omega
    · go_wp2_with fail
      go_ret
      exact ⟨rfl, HB.out⟩
end Go.Proofs.Ytodniacnjdnffaa
