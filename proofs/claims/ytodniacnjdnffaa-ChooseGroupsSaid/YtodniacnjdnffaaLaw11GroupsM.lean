/- ChooseGroups: the walk. -/
import Derived.Test.YtodniacnjdnffaaCodeB
import Derived.Test.YtodniacnjdnffaaAwake11
import Derived.Test.YtodniacnjdnffaaSymsK
import Derived.Test.YtodniacnjdnffaaLensK
namespace Go.Proofs.Ytodniacnjdnffaa
open Go.RowKit
set_option linter.unusedVariables false

set_option maxRecDepth 100000 in
set_option maxHeartbeats 6400000 in
theorem cgroups_walk (w : World) (v v2 : Value) (raw lens : List Int) (hi : IsInts w w.heap.size v raw) (hr : I64s raw) (hi2 : IsInts w w.heap.size v2 lens) (hr2 : I64s lens) :
    Calls Try.prog 6 #[v, v2] w fun e w' => e = .returned (.bool true) ∧ Below w.heap.size w w' := by
  have HI := Lib.hid hi
  have HR := Lib.hid hr
  have HI2 := Lib.hid hi2
  have HR2 := Lib.hid hr2
  clear hi hr hi2 hr2
  go_enter Try.func6, Try.ntmps6
  have E0 := Lib.hid (Env.nil w)
  go_wp2_with fail
  refine (awake11_any _).mono ?_
  rintro e w1 ⟨rfl, hB⟩
  have E1 := Lib.hid (E0.out.step hB)
  clear E0 hB  
  go_wp2_with fail
  refine (lens08_any _ _ lens 40 (E1.out.old HI2.out) HR2.out (by omega)).mono ?_
  rintro e w2 ⟨u, lw, rfl, ho, hcode, hl40, hB⟩
  obtain ⟨q1, c1, rfl⟩ := ho.shape
  rw [length_ints] at ho ⊢
  obtain ⟨n, hn⟩ : ∃ n, lw.length = n := ⟨_, rfl⟩
  have HN := Lib.hid hn
  have HC := Lib.hid hcode
  have hn2 := hcode.two
  rw [hn] at hn2 hl40 ho ⊢
  have hn40 : n ≤ 40 := by omega
  have hv := ho.is
  have E2 := Lib.hid ((E1.out.step hB).add hv)
  clear E1 hn hcode ho hB hv HI2 HR2 hl40
  have hlt := symsF_lt raw n 80 (by omega)
  have hml := symsF_len raw n 80
  have CS : Hid (∀ W (u : Value), IsInts W W.heap.size u raw → Calls Try.prog 9 #[u, .int .i64 (n : Nat), .int .i64 80] W fun e w' => ∃ q c, e = .returned (.slice q (symsF raw n 80).length c) ∧ IsInts w' w'.heap.size (.slice q (symsF raw n 80).length c) (ints (symsF raw n 80)) ∧ Below W.heap.size W w') := fun W u h => syms_is W u raw n 80 h HR.out (by omega) (by omega) (by omega)
  generalize symsF raw n 80 = m at *
  obtain ⟨M, hM⟩ : ∃ M, m.length = M := ⟨_, rfl⟩
  rw [hM] at CS hml
  have HM := Lib.hid hM
  have HMS := Lib.hid hlt
  obtain ⟨G, hG⟩ : ∃ G, cntG M = G := ⟨_, rfl⟩
  have hG8 : G ≤ 8 := by rw [← hG]; unfold cntG; omega
  have HG10 : Hid (M ≤ 10 * G ∧ 10 * G < M + 10) := by
    show _ ∧ _
    rw [← hG]; unfold cntG; omega
  have CG : Hid (∀ W u, IsInts W W.heap.size u (ints m) → Calls Try.prog 13 #[u] W fun e w' => ∃ (L : List SV) (q : Option Addr) (c : Nat), e = .returned (.slice q G c) ∧ IsSl w' w'.heap.size (.slice q G c) L ∧ (∀ i, i < G → ∃ vi, L[i]? = some (vi, ints (grN m i))) ∧ Below W.heap.size W w') := fun W u h => (groups_any W u (ints m) h (by rw [length_ints, HM.out]; omega)).mono fun e w' h => by
    obtain ⟨L, q, c, rfl, h2, h3, h4⟩ := h
    have hLl : L.length = G := by
      have := congrArg List.length h3
      rw [List.length_map] at this
      rw [this]
      simp [groupsF, length_ints, HM.out, hG]
    have hLi : ∀ i, i < G → ∃ vi, L[i]? = some (vi, ints (grN m i)) := fun i hi => by
      have hx : L[i]? = some L[i] := List.getElem?_eq_getElem (by omega)
      have h5 : (L.map (·.2))[i]? = some (grp (ints m) i) := by
        rw [h3]
        unfold groupsF
        rw [length_ints, HM.out, hG, List.getElem?_map, List.getElem?_range hi]
        rfl
      rw [List.getElem?_map, hx] at h5
      injection h5 with h5
      exact ⟨L[i].1, by rw [hx, ← grp_ints, ← h5]⟩
    have h6 := h2.is
    rw [hLl] at h6 ⊢
    exact ⟨L, q, c, rfl, h6, hLi, h4⟩
  have CB : Hid (∀ W u v (x : List Nat), IsInts W W.heap.size u (ints lw) → IsInts W W.heap.size v (ints x) → (∀ s ∈ x, s ∈ m) → x.length ≤ 80 → Calls Try.prog 15 #[u, v] W fun e w' => e = .returned (.tuple #[.int .i64 (bitsN lw x : Nat), .int .i64 0]) ∧ Below W.heap.size W w') := fun W u v x h1 h2 h3 h4 => cbits_ok W u v _ _ h1 h2 HC.out (by omega) (fun s hs => by rw [HN.out]; exact HMS.out s (h3 s hs))
  have CP : Hid (∀ W u v, IsInts W W.heap.size u (ints lw) → IsInts W W.heap.size v (ints m) → Calls Try.prog 18 #[u, v] W fun e w' => e = .returned (.tuple #[.agg #[.string (txt (putB lw m)), .int .i64 (bitsN lw m : Nat)], .int .i64 0]) ∧ Below W.heap.size W w') := fun W u v h1 h2 => by
    have := cput_nat W u v lw m _ rfl h1 HC.out h2 (by rw [HM.out]; omega) (fun s hs => by rw [HN.out]; exact HMS.out s hs)
    rw [length_putB] at this
    exact this
  have HBL : Hid (∀ x : List Nat, bitsN lw x ≤ 20 * x.length) := fun x => bitsN_le lw x HC.out.fits
  clear hM hlt hG
  go_wp2_with fail
  refine (CS.out _ _ (E2.out.old HI.out)).mono ?_
  rintro e w3 ⟨q2, c2, rfl, hv, hB⟩
  have E3 := Lib.hid ((E2.out.step hB).add hv)
  clear E2 hv hB CS HI HR
  go_wp2_with fail
  refine (CG.out _ _ (E3.out.get 0 rfl)).mono ?_
  rintro e W ⟨L, q5, c5, rfl, hGr, hLI, hB⟩
  have HLI := Lib.hid hLI
  have HG := Lib.hid hGr
  have HBf : Hid (Below w.heap.size w W) := (E3.out.step hB).bel
  have HLW : Hid (IsInts W W.heap.size (.slice q1 n c1) (ints lw)) := ints_up (E3.out.get 1 rfl) hB
  have HV : Hid (IsInts W W.heap.size (.slice q2 M c2) (ints m)) := ints_up (E3.out.get 0 rfl) hB
  have hb0 : Below W.heap.size W W := Below.refl _ _
  have HB0 := Lib.hid hb0
  clear hLI hGr hB E3 CG hb0
  go_wp2_with fail
  go_loopw [9, 10, 11] (fun sv bv iv wr => ∃ (i t x : Nat) (q : Option Addr) (c : Nat), i ≤ G ∧ iv = .int .i64 i ∧ sv = .slice q t c ∧ bv = .int .i64 x ∧ Hid (t = (m.take (10 * i)).length) ∧ Hid (x = bitsN lw (m.take (10 * i))) ∧ Hid (OwnInts wr W.heap.size (.slice q t c) (ints (m.take (10 * i)))) ∧ Hid (Below W.heap.size W wr)) (fun _ _ iv _ => G + 1 - (intOf iv).toNat)
  case atStart => exact ⟨0, 0, 0, none, 0, Nat.zero_le _, rfl, rfl, rfl, by show 0 = _; simp, by show 0 = _; simp [bitsN], OwnInts.nil _ _, HB0.out⟩
  case round =>
    clear HB0
    obtain ⟨i, t, x, q, c, hi, rfl, rfl, rfl, HT, HX, HOw, HB⟩ := hrel
    have hzr := HB.out.size
    have hx80 : x ≤ 1600 := by
      rw [HX.out]
      have h1 := HBL.out (m.take (10 * i))
      have h2 : (m.take (10 * i)).length ≤ M := by rw [List.length_take, HM.out]; omega
      omega
    have ht80 : t ≤ 80 := by
      rw [HT.out, List.length_take, HM.out]; omega
    by_cases hlt : i < G
    · obtain ⟨vi, hvi⟩ := HLI.out i hlt
      obtain ⟨gg, og, hqg, hgg, hcg, hig⟩ := HG.out.at i _ hvi
      subst hqg
      dsimp only at hcg hig
      obtain ⟨qi, di, hve, -, -⟩ := hig.shape
      rw [length_ints] at hve
      obtain ⟨T, hT⟩ : ∃ T, (grN m i).length = T := ⟨_, rfl⟩
      rw [hT] at hve
      subst hve
      have hTr : (1 ≤ T ∧ T ≤ 10) ∧ (i + 1 < G → T = 10) := by
        rw [← hT, length_grN_is, HM.out]
        have h1 := HG10.out
        omega
      obtain ⟨⟨hT1, hT10⟩, hTe⟩ := hTr
      have HTE := Lib.hid hTe
      have HTT := Lib.hid hT
      have HIG := Lib.hid (ints_up hig HB.out)
      have kg : wr.cell? ⟨gg, og + i, none⟩ = some (.slice qi T di) := (HB.out.cell (p := ⟨gg, og + i, none⟩) hgg).trans hcg
      have HkG : Hid (∀ w', Below W.heap.size W w' → w'.cell? ⟨gg, og + i, none⟩ = some (.slice qi T di)) := fun w' h => (h.cell (p := ⟨gg, og + i, none⟩) hgg).trans hcg
      have HIGW : Hid (IsInts W W.heap.size (.slice qi T di) (ints (grN m i))) := hig
      clear hvi hcg hig hT hTe
      go_wp2_with
        (at_builtin
         refine wpList_append_ints rfl _ _ rfl W.heap.size (.slice q t c) (ints (m.take (10 * i))) rfl HOw.out wr.heap.size _ (ints (grN m i)) rfl HIG.out (by rw [length_ints, length_ints, ← HT.out, HTT.out]; omega) hzr ?_
         intro qa ca wa hown1 hg1 hat1
         have hWa : Below W.heap.size W wa := bel_grown hg1 HB.out (fun k hk => own_ge HOw.out hk)
         rw [show (ints (m.take (10 * i))).length + (ints (grN m i)).length = t + T by rw [length_ints, length_ints, ← HT.out, HTT.out]] at hown1 ⊢
         rw [show ints (m.take (10 * i)) ++ ints (grN m i) = ints (m.take (10 * (i + 1))) by rw [take_grN]; simp [ints]] at hown1
         have Hown1 := Lib.hid hown1
         have HBa := Lib.hid hWa
         have ka := HkG.out wa hWa
         clear hg1 hat1 hown1 hWa kg)
      refine (CB.out _ _ _ (grN m i) (ints_up HLW.out HBa.out) (ints_up HIGW.out HBa.out) (fun s hs => grN_mem hs) (by rw [HTT.out]; omega)).mono ?_
      rintro e w8 ⟨rfl, hB8⟩
      have HB8 := Lib.hid (bel_call hB8 HBa.out)
      have HO8 : Hid (OwnInts w8 W.heap.size (.slice qa (t + T) ca) (ints (m.take (10 * (i + 1))))) := Hown1.out.below hB8
      have kb := HkG.out w8 HB8.out
      have HX2 : Hid (x + bitsN lw (grN m i) = bitsN lw (m.take (10 * (i + 1)))) := by
        show _ = _
        rw [take_grN, bitsN_append, HX.out]
      have HT2 : Hid (t + T = (m.take (10 * (i + 1))).length) := by
        show _ = _
        rw [take_grN, List.length_append, HTT.out, ← HT.out]
      have hy : bitsN lw (grN m i) ≤ 200 := by
        have := HBL.out (grN m i)
        rw [HTT.out] at this
        omega
      obtain ⟨y, hyy⟩ : ∃ y, bitsN lw (grN m i) = y := ⟨_, rfl⟩
      rw [hyy] at hy HX2 ⊢
      clear hyy hB8 HBa Hown1 ka HX HT HOw HB HIG HIGW HkG
      have d0 : decide ((T : Int) < 1) = false := decide_eq_false (by omega)
      have d1 : decide (10 < (T : Int)) = false := decide_eq_false (by omega)
      have d2 : decide (10 < T) = false := decide_eq_false (by omega)
      have d3 : decide (T < 1) = false := decide_eq_false (by omega)
      have hw1 : IntKind.i64.wrap ((i : Int) + 1) = (i : Int) + 1 := IntWalk.i64_in _ (by omega)
      have hw2 : IntKind.i64.wrap ((x : Int) + (y : Int)) = (x : Int) + (y : Int) := IntWalk.i64_in _ (by omega)
      by_cases hnx : i + 1 < G
      · obtain rfl : T = 10 := HTE.out hnx
        have d5 : decide ((i : Int) + 1 < (G : Int)) = true := decide_eq_true (by omega)
        have d6 : decide (i + 1 < G) = true := decide_eq_true hnx
        clear d0 d1 d2 d3 HTE
        go_wp2_with fail
        go_roundw
        case rel => exact ⟨i + 1, t + 10, x + y, _, _, by omega, by go_num, rfl, by go_num, HT2, HX2, HO8, HB8⟩
        case measure => simp [intOf]; omega
      · have d5 : decide ((i : Int) + 1 < (G : Int)) = false := decide_eq_false (by omega)
        have d6 : decide (i + 1 < G) = false := decide_eq_false hnx
        go_wp2_with fail
        go_roundw
        case rel => exact ⟨i + 1, t + T, x + y, _, _, by omega, by go_num, rfl, by go_num, HT2, HX2, HO8, HB8⟩
        case measure => simp [intOf]; omega
    · obtain rfl : i = G := by omega
      have hall : m.take (10 * i) = m := List.take_of_length_le (by rw [HM.out]; have := HG10.out; omega)
      have hxe : x = bitsN lw m := by rw [HX.out, hall]
      have hte : t = M := by rw [HT.out, hall, HM.out]
      have HOe : Hid (OwnInts wr W.heap.size (.slice q t c) (ints m)) := by
        have := HOw.out
        rw [hall] at this
        exact this
      have CBm : Hid (∀ w', Below W.heap.size W w' → Calls Try.prog 15 #[.slice q1 n c1, .slice q2 M c2] w' fun e w'' => e = .returned (.tuple #[.int .i64 (x : Nat), .int .i64 0]) ∧ Below w'.heap.size w' w'') := fun w' h => by
        rw [hxe]
        exact CB.out w' _ _ m (ints_up HLW.out h) (ints_up HV.out h) (fun s hs => hs) (by rw [HM.out]; omega)
      have CPm : Hid (∀ w', Below W.heap.size W w' → Calls Try.prog 18 #[.slice q1 n c1, .slice q2 M c2] w' fun e w'' => e = .returned (.tuple #[.agg #[.string (txt (putB lw m)), .int .i64 (x : Nat)], .int .i64 0]) ∧ Below w'.heap.size w' w'') := fun w' h => by
        rw [hxe]
        exact CP.out w' _ _ (ints_up HLW.out h) (ints_up HV.out h)
      subst hte
      obtain ⟨tx, htx⟩ : ∃ tx, txt (putB lw m) = tx := ⟨_, rfl⟩
      rw [htx] at CPm
      clear htx hxe hall HX HT HOw CB CP HBL HLI HG HC HN HG10
      go_wp2_with fail
      refine (CBm.out _ HB.out).mono ?_
      rintro e w8 ⟨rfl, hB8⟩
      have HB8 := Lib.hid (bel_call hB8 HB.out)
      have HO8 := Lib.hid (HOe.out.below hB8)
      clear hB8 HB HOe CBm
      go_wp2_with fail
      refine (CPm.out _ HB8.out).mono ?_
      rintro e w9 ⟨rfl, hB9⟩
      have HB9 := Lib.hid (bel_call hB9 HB8.out)
      have HO9 := Lib.hid (HO8.out.below hB9)
      clear hB9 HB8 HO8 CPm
      have hz9 := HB9.out.size
      go_wp2_with fail
      have hBa : Below W.heap.size W (w9.alloc (.cells #[.string tx, .int .i64 (x : Int)] 41)) := HB9.out.alloc hz9 _
      refine (aw11_ints _ _ _ (ints m) (ints_up HO9.out.is ((Below.refl _ _).alloc (Nat.le_refl _) _)) (ints_up HV.out hBa) (by rw [length_ints, HM.out]; omega)).mono ?_
      rintro e w10 ⟨rfl, hB10⟩
      have hh := heap_call hB10 (heap_new w9 (.cells #[.string tx, .int .i64 (x : Int)] 41) _ rfl)
      have k1 : w10.cell? ⟨w9.heap.size, 1, none⟩ = some (.int .i64 (x : Int)) := (cell_of_heap hh 1).trans rfl
      have HB10 : Hid (Below w.heap.size w w10) := HBf.out.trans ((bel_call hB10 hBa).mono HBf.out.size)
      clear hh hB10 hBa HB9 HO9 HV HLW
      go_wp2_with fail
      go_ret
      exact ⟨rfl, HB10.out⟩
end Go.Proofs.Ytodniacnjdnffaa
