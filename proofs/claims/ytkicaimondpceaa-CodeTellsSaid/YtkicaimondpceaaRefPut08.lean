/- Put of the document's answer, layer 8. -/
import Derived.Test.YtkicaimondpceaaRefWords
import Derived.Test.YtkicaimondpceaaCodePut
import Derived.Test.YtkicaimondpceaaRefGet
namespace Go.Proofs.Ytkicaimondpceaa
open Go.RowKit
set_option linter.unusedVariables false

theorem codePut_bad (l : List Nat) (m : List Int) (x : Int) (hx : x ∈ m) (h : x < 0 ∨ (l.length : Int) ≤ x) : codePut l m = ([], 5) := by
  unfold codePut
  rw [if_neg fun hh => ?_]
  have := hh x hx
  omega
theorem putB_nats (l : List Nat) (m : List Int) (i s : Nat) (h : m[i]? = some (s : Int)) : putB l ((m.take (i + 1)).map Int.toNat) = putB l ((m.take i).map Int.toNat) ++ wordB l s := by
  rw [List.take_add_one, h]
  simp [putB]
set_option maxRecDepth 100000 in
set_option maxHeartbeats 4000000 in
theorem rput8_any (w : World) (v1 v2 : Value) (l : List Nat) (m : List Int) (hv : IsInts w w.heap.size v1 (ints l)) (hl : Code l) (hv2 : IsInts w w.heap.size v2 m) (hm : m.length ≤ 1000) :
    Calls Try.prog 19 #[v1, v2] w fun e w' => e = .returned (.tuple #[.agg #[.string (txt (codePut l m).1), .int .i64 ((codePut l m).1.length : Nat)], .int .i64 (codePut l m).2]) ∧ Below w.heap.size w w' := by
  obtain ⟨A, ca, rfl, hc1, hc2⟩ := hv.shape
  obtain ⟨A2, ca2, rfl, hc3, hc4⟩ := hv2.shape
  have hli := length_ints l
  obtain ⟨N, hN⟩ : ∃ N, l.length = N := ⟨_, rfl⟩
  obtain ⟨M, hM⟩ : ∃ M, m.length = M := ⟨_, rfl⟩
  have CW : Hid (∀ W, Below w.heap.size w W → Calls Try.prog 14 #[.slice A (ints l).length ca] W fun e w' => ∃ u, e = .returned (.tuple #[u, .int .i64 0]) ∧ IsWords w' u l ∧ Below W.heap.size W w') := fun W hB => rwords_ok W _ l (ints_up hv hB) hl
  rw [hM] at hm hc3 hv2 ⊢
  rw [hli, hN] at CW hc1 ⊢
  have hN258 : N ≤ 258 := by rw [← hN]; exact hl.most
  have Hv2 := Lib.hid hv2
  have HN := Lib.hid hN
  have HM := Lib.hid hM
  have Hlc := Lib.hid hl
  clear hv hv2 hN hl hli hM
  go_enter Try.func19, Try.ntmps19
  go_wp2_with fail
  refine (CW.out _ ((Below.refl _ w).alloc (Nat.le_refl _) _)).mono ?_
  rintro e w1 ⟨_, rfl, ⟨g, cg, rfl, hg⟩, hB1⟩
  have E1 := Lib.hid (((Env.nil w).box #[.string ⟨#[]⟩, .int .i64 0] 37 w.heap.size rfl).fresh hB1 hg)
  rw [HN.out]
  clear hB1 CW hg
  have g1 := E1.out.lt 0 rfl
  have g2 := E1.out.lt 1 rfl
  have g3 := E1.out.size
  have hgw := Lib.hid (E1.out.blk 0 rfl)
  have hbw := Lib.hid (E1.out.blk 1 rfl)
  have hBw := Lib.hid E1.out.bel
  clear E1
  obtain ⟨base, hbase⟩ : ∃ b, w1.heap.size = b := ⟨_, rfl⟩
  have Hb1 := Lib.hid (Nat.le_of_eq hbase.symm)
  rw [hbase] at g1 g2 g3
  clear hbase
  go_wp2_with fail
  go_loopw [8, 9] (fun ov iv wr => ∃ i : Nat, i ≤ M ∧ iv = .int .i64 i ∧ Hid (∀ x ∈ m.take i, 0 ≤ x ∧ x < l.length) ∧ Hid (OwnInts wr base ov (bins (putB l ((m.take i).map Int.toNat)))) ∧ Hid (wr.heap[g]? = some (.cells (outC l fun _ => true) 34 (0, 0))) ∧ Hid (wr.heap[w.heap.size]? = some (.cells #[.string ⟨#[]⟩, .int .i64 0] 37 (0, 0))) ∧ Hid (Below w.heap.size w wr) ∧ base ≤ wr.heap.size) (fun _ iv _ => M + 1 - (intOf iv).toNat)
  case atStart => exact ⟨0, Nat.zero_le _, rfl, (fun x hx => by simp at hx), OwnInts.nil _ _, hgw.out, hbw.out, hBw.out, Hb1.out⟩
  case round =>
    clear hgw hbw hBw Hb1
    obtain ⟨i, hi, rfl, HG, HO, HW, HX, HB, hbs⟩ := hrel
    by_cases hit : i < M
    · obtain ⟨g4, o4, rfl, hg4, hx⟩ := (Hv2.out.below HB.out (Nat.le_refl _)).at i (by rw [HM.out]; exact hit)
      obtain ⟨x, hxm⟩ : ∃ x, m[i]? = some x := ⟨_, List.getElem?_eq_getElem (by rw [HM.out]; exact hit)⟩
      rw [hxm, Option.getD_some] at hx
      by_cases hbad : 0 ≤ x ∧ x < N
      · obtain ⟨s, rfl⟩ : ∃ s : Nat, x = s := ⟨x.toNat, by omega⟩
        have hsN : s < N := by omega
        obtain ⟨n, hn⟩ : ∃ n, l[s]? = some n := ⟨_, List.getElem?_eq_getElem (by rw [HN.out]; exact hsN)⟩
        have hn20 := Hlc.out.fits n (List.mem_of_getElem? hn)
        have hvlt := wordV_lt Hlc.out hn
        have hp20 : 2 ^ n ≤ 2 ^ 20 := Nat.pow_le_pow_right (by omega) hn20.2
        have h20 : (2 : Nat) ^ 20 = 1048576 := by decide
        have hwb : wordB l s = B.low (wordV l s) n := by unfold wordB; rw [hn]; rfl
        have hpl := length_putB_le Hlc.out.fits ((m.take i).map Int.toNat)
        have hml : ((m.take i).map Int.toNat).length ≤ M := by rw [List.length_map, List.length_take, HM.out]; omega
        have k0 : wr.cell? ⟨g, s * 2, none⟩ = some (.int .i64 (n : Nat)) := by
          rw [cell_of_heap HW.out, outC_get _ _ _ (by rw [HN.out]; omega)]
          unfold wcell
          rw [if_pos (by omega), show s * 2 / 2 = s by omega, hn]
          rfl
        have k1 : wr.cell? ⟨g, s * 2 + 1, none⟩ = some (.int .u64 (wordV l s : Nat)) := by
          rw [cell_of_heap HW.out, outC_get _ _ _ (by rw [HN.out]; omega)]
          unfold wcell
          rw [if_neg (by omega), show (s * 2 + 1) / 2 = s by omega]
          rfl
        have CN : Hid (∀ W, Calls Try.prog 30 #[.int .u64 (wordV l s : Nat), .int .i64 (n : Nat)] W fun e w' => ∃ q c, e = .returned (.slice q n c) ∧ OwnInts w' W.heap.size (.slice q n c) (bins (wordB l s)) ∧ Below W.heap.size W w') := fun W => by
          rw [hwb]
          exact rnumber_any W _ _ (by omega) (by omega)
        have HZ : Hid (bins (putB l ((m.take (i + 1)).map Int.toNat)) = bins (putB l ((m.take i).map Int.toNat)) ++ bins (wordB l s)) := by
          show _ = _
          rw [putB_nats l m i s hxm, bins_append]
        have HG2 : Hid (∀ x ∈ m.take (i + 1), 0 ≤ x ∧ x < l.length) := fun y hy => by
          rw [List.take_add_one, hxm, List.mem_append] at hy
          rcases hy with hy | hy
          · exact HG.out y hy
          · simp at hy
            subst hy
            rw [HN.out]
            omega
        have hXl : (bins (putB l ((m.take i).map Int.toNat))).length ≤ 20000 := by rw [length_bins]; omega
        have hYl : (bins (wordB l s)).length = n := by rw [length_bins, length_wordB, hn]; rfl
        have hgb : (⟨g4, o4 + i, none⟩ : Addr).block < w.heap.size := hg4
        obtain ⟨Z, hZ⟩ : ∃ Z, bins (putB l ((m.take (i + 1)).map Int.toNat)) = Z := ⟨_, rfl⟩
        rw [hZ] at HZ
        have HZe := Lib.hid hZ
        clear hZ
        generalize bins (putB l ((m.take i).map Int.toNat)) = X at *
        generalize bins (wordB l s) = Y at *
        generalize wordV l s = wv at *
        have HK : Hid (∀ W' : World, Below base wr W' → W'.cell? ⟨g4, o4 + i, none⟩ = some (.int .i64 (s : Int)) ∧ W'.cell? ⟨g, s * 2, none⟩ = some (.int .i64 (n : Nat)) ∧ W'.cell? ⟨g, s * 2 + 1, none⟩ = some (.int .u64 (wv : Nat))) := fun W' h1 =>
          ⟨(h1.cell (p := ⟨g4, o4 + i, none⟩) (by simp; omega)).trans hx, (h1.cell (p := ⟨g, s * 2, none⟩) g1).trans k0, (h1.cell (p := ⟨g, s * 2 + 1, none⟩) g1).trans k1⟩
        clear hwb hpl hml hn hxm hvlt hp20 h20 HG
        go_wp2_with fail
        have hr0 : Below base wr wr := Below.refl _ _
        go_region_held3 (fun w' => w'.cell? ⟨g4, o4 + i, none⟩ = some (.int .i64 (s : Int)) ∧ w'.cell? ⟨g, s * 2, none⟩ = some (.int .i64 (n : Nat)) ∧ w'.cell? ⟨g, s * 2 + 1, none⟩ = some (.int .u64 (wv : Nat)))
          ((first | exact HK.out _ (hr0.drew) | exact HK.out _ HB8.out | exact HK.out _ HBa.out | fail))
          ((first
            | (go_at_call 30
               refine (CN.out _).mono ?_
               rintro e w8 ⟨q8, c8, rfl, hown8, hB8⟩
               have HB8 := Lib.hid ((bel_call hB8 (bel_drew (Below.refl _ _))).mono hbs)
               have HOu := Lib.hid (HO.out.below (bel_call hB8 (bel_drew (Below.refl _ _))))
               have Hown8 := Lib.hid hown8
               have hz8 := bel_size (bel_call hB8 (bel_drew (Below.refl _ _)))
               clear hown8 hB8)
            | (refine step_append_ints (by rfl) _ _ (by rfl) base _ X (by rfl) HOu.out _ _ Y (by rfl) Hown8.out.is (by omega) (by omega) ?_
               intro qa ca wa hown1 hg1 hat1
               have HBa := Lib.hid (HB8.out.grown hg1 (by omega) (fun k hk => own_ge HOu.out hk))
               have Hown1 := Lib.hid hown1
               have Hg1 := Lib.hid hg1
               clear hown1 hg1 hat1)
            | fail))
        have HZ2 : Hid (OwnInts wa base (.slice qa (X.length + n) ca) Z) := by
          show OwnInts _ _ _ _
          have := Hown1.out
          rw [hYl] at this
          rw [HZ.out]
          exact this
        go_wp2_with fail
        go_roundw
        case rel => exact ⟨i + 1, by omega, by go_num, HG2, by show OwnInts _ _ _ _; rw [HZe.out]; exact HZ2.out, (HBa.out.block g g1).trans HW.out, (HBa.out.block _ g2).trans HX.out, HB.out.trans (HBa.out.mono g3), Nat.le_trans hbs HBa.out.size⟩
        case measure => simp [intOf]; omega
      · have hcp := codePut_bad l m x (List.mem_of_getElem? hxm) (by rw [HN.out]; omega)
        have HCP := Lib.hid hcp
        have b0 := (cell_of_heap HX.out 0).trans rfl
        have b1 := (cell_of_heap HX.out 1).trans rfl
        have f0 := frozen_of_heap HX.out 0
        have f1 := frozen_of_heap HX.out 1
        have hb' : x < 0 ∨ (N : Int) ≤ x := by omega
        have hbl := lt_of_heap HX.out
        clear hxm hcp hbad
        rcases hb' with hb | hb
        all_goals
          go_wp2_with fail
          refine bodyPost_ret (results_cell_tmp rfl _ _ _ ⟨w.heap.size, 0, none⟩ _ rfl (loadVar_bits _ _ _ _ (heap_set2 HX.out _ _))) rfl ?_
          exact ⟨by rw [HCP.out]; rfl, (HB.out.setCell (p := ⟨w.heap.size, 0, none⟩) (Nat.le_refl _) _).setCell (p := ⟨w.heap.size, 1, none⟩) (Nat.le_refl _) _⟩
    · obtain rfl : i = M := by omega
      have hyes : Hid (codePut l m = (putB l (m.map Int.toNat), 0)) := by
        show _ = _
        unfold codePut
        rw [if_pos]
        have := HG.out
        rw [← HM.out, List.take_length] at this
        exact this
      have ho := HO.out
      rw [← HM.out, List.take_length] at ho
      have hpl := length_putB_le Hlc.out.fits (m.map Int.toNat)
      have hml : (m.map Int.toNat).length ≤ i := by rw [List.length_map, HM.out]; omega
      have CO : Hid (Calls Try.prog 31 #[u8] wr fun e w' => e = .returned (.agg #[.string (txt (putB l (m.map Int.toNat))), .int .i64 ((putB l (m.map Int.toNat)).length : Nat)]) ∧ Below wr.heap.size wr w') := by
        have := of_any wr u8 _ ho.is (bin_bins _) (by rw [length_bins]; omega)
        rw [asBits_bins] at this
        exact this
      clear ho hpl hml HG HO
      generalize putB l (m.map Int.toNat) = T at *
      go_wp2_with fail
      refine CO.out.mono ?_
      rintro e w5 ⟨rfl, hB⟩
      have hbx := heap_call hB HX.out
      have b0 := (cell_of_heap hbx 0).trans rfl
      have b1 := (cell_of_heap hbx 1).trans rfl
      have f0 := frozen_of_heap hbx 0
      have f1 := frozen_of_heap hbx 1
      have hbl := lt_of_heap hbx
      have Hbx := Lib.hid hbx
      have HB5 := Lib.hid (HB.out.trans (hB.mono HB.out.size))
      clear hbx hB CO
      go_wp2_with fail
      refine bodyPost_ret (results_cell_tmp rfl _ _ _ ⟨w.heap.size, 0, none⟩ _ rfl (loadVar_bits _ _ _ _ (heap_set2 Hbx.out _ _))) rfl ?_
      exact ⟨by rw [hyes.out]; rfl, (HB5.out.setCell (p := ⟨w.heap.size, 0, none⟩) (Nat.le_refl _) _).setCell (p := ⟨w.heap.size, 1, none⟩) (Nat.le_refl _) _⟩
set_option maxRecDepth 100000 in
set_option maxHeartbeats 1600000 in
theorem rput8_er (w : World) (v1 v2 : Value) (l : List Int) (hv : IsInts w w.heap.size v1 l) (hl : l.length ≤ 1000000) (hc : checkF l ≠ 0) :
    Calls Try.prog 19 #[v1, v2] w fun e w' => e = .returned (.tuple #[.agg #[.string (txt []), .int .i64 (([] : List Bool).length : Nat)], .int .i64 (checkF l)]) ∧ Below w.heap.size w w' := by
  have CW : Hid (∀ W, Below w.heap.size w W → Calls Try.prog 14 #[v1] W fun e w' => e = .returned (.tuple #[.slice none 0 0, .int .i64 (checkF l)]) ∧ W = w') := fun W hB => rwords_er W _ l (ints_up hv hB) hl hc
  obtain ⟨A, ca, rfl, hc1, hc2⟩ := hv.shape
  generalize checkF l = z at *
  have hz : (z != 0) = true := by rw [bne_iff_ne]; exact hc
  clear hv hc
  go_enter Try.func19, Try.ntmps19
  go_wp2_with fail
  refine (CW.out _ ((Below.refl _ w).alloc (Nat.le_refl _) _)).mono ?_
  rintro e w1 ⟨rfl, rfl⟩
  have E1 := Lib.hid ((Env.nil w).box #[.string ⟨#[]⟩, .int .i64 0] 37 w.heap.size rfl)
  have c0 := E1.out.cellv 0 rfl 0 _ rfl
  have c1 := E1.out.cellv 0 rfl 1 _ rfl
  have d0 := E1.out.frozen 0 rfl 0
  have d1 := E1.out.frozen 0 rfl 1
  have dl := E1.out.lt 0 rfl
  clear CW
  generalize w.alloc (.cells #[.string ⟨#[]⟩, .int .i64 0] 37) = W0 at *
  go_wp2_with fail
  refine bodyPost_ret (results_cell_tmp rfl _ _ _ ⟨w.heap.size, 0, none⟩ _ rfl (loadVar_bits _ _ _ _ (heap_set2 (E1.out.blk 0 rfl) _ _))) rfl ?_
  exact ⟨by rfl, (E1.out.bel.setCell (p := ⟨w.heap.size, 0, none⟩) (Nat.le_refl _) _).setCell (p := ⟨w.heap.size, 1, none⟩) (Nat.le_refl _) _⟩
end Go.Proofs.Ytkicaimondpceaa
