/- joined of the document's answer: the walk. -/
import Derived.Test.YtegjkhhgihcdcaaTrFns
import Derived.Test.YtegjkhhgihcdcaaLenW
import Derived.BigRegion
namespace Go.Proofs.Ytegjkhhgihcdcaa
open Go.RowKit
set_option linter.unusedVariables false

def muS : Value → Nat
  | .slice _ n _ => n
  | _ => 0
theorem muS_slice (q : Option Addr) (n c : Nat) : muS (.slice q n c) = n := rfl
theorem tr_rd {w : World} {k x : Nat} {v : Value} (t : TV) (hx : t.1.1.1 = x) (hv : t.2 = v) (h : w.heap[k]? = some (.cells #[.int .i64 (x : Int), v] 55 (0, 0))) : Rd w (k + 1) 2 (.slice (some ⟨k, 0, none⟩) 1 1) [t].length (trCells [t]) := by
  subst hx hv
  refine ⟨rfl, _, 1, rfl, Nat.le_refl _, by simp [maxLen], fun _ => ⟨k, 0, rfl, Nat.lt_succ_self _, fun i u hu => ?_⟩⟩
  have e : trCells [t] = [.int .i64 (t.1.1.1 : Int), t.2] := rfl
  rw [e] at hu
  rw [Nat.zero_add, cell_of_heap h, ← hu]
  simp
theorem own_lt' {w : World} {base : Nat} {v : Value} {xs : List Int} (h : OwnInts w base v xs) {k : Nat} (hk : v.ownBlock = some k) : k < w.heap.size := by
  obtain ⟨c, hc⟩ := own_heap h hk
  exact lt_of_heap hc
theorem TrOwn.avoid {w : World} {base d d' : Nat} {v : Value} {M : List TV} (h : TrOwn w base d v M) (hd : w.heap.size ≤ d') : TrOwn w base d' v M :=
  ⟨h.own, fun t ht => ⟨(h.has t ht).1, fun e => by have := own_lt' (h.has t ht).1 e; omega⟩⟩
theorem TrOwn.kept_ints {w w' : World} {base d b : Nat} {v x : Value} {M : List TV} {xs : List Int} (h : TrOwn w base d v M) (hg : w.grownBy w' v.ownBlock) (hx : OwnInts w b x xs) : OwnInts w' b x xs := by
  refine World.ownsRow.kept hx hg ?_
  cases hx0 : x.ownBlock with
  | none => exact .inl rfl
  | some g =>
    refine .inr fun e => ?_
    obtain ⟨c1, hc1⟩ := own_heap hx hx0
    obtain ⟨c2, hc2⟩ := own_heap h.own e.symm
    rw [hc1] at hc2
    injection hc2 with hc2
    injection hc2 with _ hc2
    exact tr_int hc2.symm
set_option maxRecDepth 100000 in
set_option maxHeartbeats 6400000 in
theorem joined_any (w : World) (v : Value) (ws : List Nat) (hv : IsInts w w.heap.size v (ints ws)) (h1 : 1 ≤ ws.length) (hl : ws.length ≤ 258) (hw : ∀ x ∈ ws, 1 ≤ x) (hs : ws.sum ≤ 1000000000) :
    Calls Try.prog 24 #[v] w fun e w' => ∃ q c, e = .returned (.slice q ws.length c) ∧ IsInts w' w'.heap.size (.slice q ws.length c) (ints (depthsF ws)) ∧ Below w.heap.size w w' := by
  obtain ⟨A, ca, rfl, hc1, hc2⟩ := hv.shape
  have hbase : 1 ≤ w.heap.size := by
    obtain ⟨g, o, -, hg, -⟩ := hv.at 0 (by rw [length_ints]; omega)
    omega
  have HJ := Lib.hid (JInv.start hw 1000000000 hs)
  rw [length_ints] at hv hc1 ⊢
  obtain ⟨N, hN⟩ : ∃ N, ws.length = N := ⟨_, rfl⟩
  rw [hN] at hv hc1 h1 hl HJ ⊢
  have HN := Lib.hid hN
  have HV := Lib.hid hv
  have HDB : Hid (∀ x ∈ depthsF ws, x ≤ 258) := fun x hx => by
    obtain ⟨i, hi, he⟩ := List.getElem_of_mem hx
    rw [length_depthsF] at hi
    have h6 := depthsF_get ws i hi
    rw [List.getElem?_eq_getElem (by rw [length_depthsF]; exact hi), he] at h6
    injection h6 with h6
    have := dpF_lt hw (List.getElem?_eq_getElem hi)
    omega
  obtain ⟨D, hD⟩ : ∃ D, depthsF ws = D := ⟨_, rfl⟩
  rw [hD] at HJ HDB ⊢
  obtain ⟨base, hb0⟩ : ∃ base, w.heap.size = base := ⟨_, rfl⟩
  obtain ⟨cz, hcz, hmk⟩ := run_make_ints N (by omega)
  have HCZ := Lib.hid hcz
  have HB0 := Lib.hid hb0
  rw [hb0] at hbase
  clear hv hN hD hw hs hcz hb0
  go_enter Try.func24, Try.ntmps24
  go_wp2_with fail
  go_loopw [3, 4] (fun rv iv wr => ∃ (k c : Nat) (q : Option Addr) (M : List TV), k ≤ N ∧ iv = .int .i64 k ∧ rv = .slice q k c ∧ Hid (M.map (·.1) = startR ws k) ∧ Hid (M.length = k) ∧ Hid (TrOwn wr base 0 (.slice q k c) M) ∧ Hid (Below base w wr)) (fun _ iv _ => N + 1 - (intOf iv).toNat)
  case atStart => exact ⟨0, 0, none, [], Nat.zero_le _, rfl, rfl, rfl, rfl, TrOwn.nil _ _ _, Below.refl _ _⟩
  case round =>
    obtain ⟨k, c, q, M, hk, rfl, rfl, HM, HL, HT, HB⟩ := hrel
    have hz := HB.out.size
    rw [HB0.out] at hz
    by_cases hlt : k < N
    · obtain ⟨x, hx⟩ : ∃ x, ws[k]? = some x := ⟨_, List.getElem?_eq_getElem (by rw [HN.out]; exact hlt)⟩
      obtain ⟨g, o, rfl, hg, hc⟩ := (HV.out.below HB.out (by rw [HB0.out]; exact Nat.le_refl _)).at k (by rw [length_ints, HN.out]; exact hlt)
      rw [show (ints ws)[k]?.getD 0 = (x : Int) by simp [ints, hx]] at hc
      have HS := Lib.hid (startR_snoc ws k x hx)
      clear hx
      have HO : Hid (OwnInts (wr.alloc (.cells #[.int .i64 (k : Int)] 3)) base (.slice (some ⟨wr.heap.size, 0, none⟩) 1 1) (ints [k])) := OwnInts.new wr base (ints [k]) _ _ _ rfl rfl rfl (by simp [ints, maxLen]) hz
      have HT2 := Lib.hid ((HT.out.alloc (.cells #[.int .i64 (k : Int)] 3)).alloc (.cells #[.int .i64 (x : Int), .slice (some ⟨wr.heap.size, 0, none⟩) 1 1] 55))
      have HRD : Hid (Rd ((wr.alloc (.cells #[.int .i64 (k : Int)] 3)).alloc (.cells #[.int .i64 (x : Int), .slice (some ⟨wr.heap.size, 0, none⟩) 1 1] 55)) (wr.heap.size + 1 + 1) 2 (.slice (some ⟨wr.heap.size + 1, 0, none⟩) 1 1) [((((x, k), [k]), .slice (some ⟨wr.heap.size, 0, none⟩) 1 1) : TV)].length (trCells [(((x, k), [k]), .slice (some ⟨wr.heap.size, 0, none⟩) 1 1)])) := tr_rd (((x, k), [k]), .slice (some ⟨wr.heap.size, 0, none⟩) 1 1) rfl rfl (heap_new _ _ _ (by simp))
      have HKK : Hid (∀ t ∈ [((((x, k), [k]), .slice (some ⟨wr.heap.size, 0, none⟩) 1 1) : TV)], OwnInts ((wr.alloc (.cells #[.int .i64 (k : Int)] 3)).alloc (.cells #[.int .i64 (x : Int), .slice (some ⟨wr.heap.size, 0, none⟩) 1 1] 55)) base t.2 (ints t.1.2) ∧ t.2.ownBlock ≠ some 0) := fun t ht => by
        simp at ht
        subst ht
        exact ⟨HO.out.alloc _, fun e => by
          injection (show some wr.heap.size = some 0 from e) with e
          omega⟩
      go_wp2_with
        (at_builtin
         refine wpList_append_tr rfl _ _ rfl base 0 _ M rfl HT2.out _ _ _ rfl HRD.out HKK.out (by rw [HL.out]; simp; omega) (by simp; omega) ?_
         intro q2 c2 w1 hown hg1 hat1
         rw [show M.length + [((((x, k), [k]), .slice (some ⟨wr.heap.size, 0, none⟩) 1 1) : TV)].length = k + 1 by rw [HL.out]; rfl] at hown hat1 ⊢
         have HO1 := Lib.hid hown
         have HB1 : Hid (Below base w w1) := ((HB.out.alloc hz _).alloc (by simp; omega) _).grown hg1 (by simp; omega) (fun k hk => HT.out.ge hk)
         clear hown hg1 hat1)
      go_roundw
      case rel => exact ⟨k + 1, _, _, _, by omega, by go_num, rfl, by show _ = _; rw [List.map_append, HM.out, HS.out]; rfl, by show _ = _; rw [List.length_append, HL.out]; rfl, HO1, HB1⟩
      case measure => simp [intOf]; omega
    · obtain rfl : k = N := by omega
      rw [show wr.heap.size = wr.heap.size from rfl] at *
      have HMF := Lib.hid HM.out
      go_wp2_with fail
      obtain ⟨d, hd⟩ : ∃ d, wr.heap.size = d := ⟨_, rfl⟩
      have hOd : OwnInts (wr.alloc (.cells cz 3)) base (.slice (some ⟨wr.heap.size, 0, none⟩) k k) (ints (List.replicate k 0)) := OwnInts.new wr base _ _ _ _ rfl (by simp [ints]) (by rw [HCZ.out]; congr 1; simp [ints]) (by simp [ints, maxLen]; omega) hz
      have hTd := ((HT.out.avoid (Nat.le_refl _)).alloc (.cells cz 3))
      have hBd := HB.out.alloc hz (.cells cz 3)
      rw [hd] at hOd hTd hz ⊢
      generalize wr.alloc (.cells cz 3) = W1 at *
      have HJ0 : Hid (JInv k 1000000000 (M.map (·.1)) (List.replicate k 0) D k k) := by rw [HM.out]; exact HJ
      have HO0 := Lib.hid hOd
      have HT0 := Lib.hid hTd
      have HB1 := Lib.hid hBd
      clear hOd hTd hBd HT HB HM HMF HJ hmk HCZ hd
      go_loopw [3] (fun rv wr => ∃ (n c m f : Nat) (q : Option Addr) (M : List TV) (deep : List Nat), 1 ≤ n ∧ n ≤ k ∧ rv = .slice q n c ∧ Hid (M.length = n) ∧ Hid (JInv k 1000000000 (M.map (·.1)) deep D m f) ∧ Hid (TrOwn wr base d (.slice q n c) M) ∧ Hid (OwnInts wr base (.slice (some ⟨d, 0, none⟩) k k) (ints deep)) ∧ Hid (Below base w wr)) (fun rv _ => muS rv)
      case atStart => exact ⟨k, c, k, k, q, M, _, h1, Nat.le_refl _, rfl, HL, HJ0, HT0, HO0, HB1⟩
      case round =>
        clear HL HJ0 HT0 HO0 HB1
        obtain ⟨n, c, m, f, q, M, deep, hn1, hnk, rfl, HL, HJ, HT, HO, HB⟩ := hrel
        have hz1 := HB.out.size
        rw [HB0.out] at hz1
        by_cases hlt2 : 1 < n
        · obtain ⟨f, rfl⟩ : ∃ f', f = f' + 1 := ⟨f - 1, by have := HJ.out.few; rw [List.length_map, HL.out] at this; omega⟩
          have CL1 := Lib.hid (least_any wr base d n c q M HT.out HL.out hn1 (by omega))
          go_wp2_with fail
          refine CL1.out.mono ?_
          rintro e w2 ⟨i, rfl, hi, hB2⟩
          have hil : i < n := by have := hi.lt; rw [List.length_map, HL.out] at this; exact this
          obtain ⟨a, ha⟩ : ∃ a, M[i]? = some a := ⟨_, List.getElem?_eq_getElem (by rw [HL.out]; exact hil)⟩
          have hT2 := HT.out.below hB2
          obtain ⟨g, rfl, hg, hca, hcv⟩ := hT2.at i a ha
          have HT2 := Lib.hid hT2
          have HO2 := Lib.hid (HO.out.below hB2)
          have HB2 := Lib.hid (HB.out.trans (hB2.mono hz1))
          obtain ⟨⟨⟨xa, ya⟩, la⟩, va⟩ := a
          have hsh := hT2.has _ (List.mem_of_getElem? ha)
          dsimp only at hsh hca hcv
          obtain ⟨pa, ka, hae⟩ := hsh.1.shape
          rw [length_ints] at hae
          subst hae
          have HHA := Lib.hid hsh
          have HI := Lib.hid hi
          have HA := Lib.hid ha
          clear hT2 hB2 hi ha CL1 HT HO HB hsh
          go_wp2_with fail
          have hbxA : (w2.alloc (.cells #[.int .i64 (xa : Int), .slice pa la.length ka] 55)).heap[w2.heap.size]? = some (.cells #[.int .i64 (xa : Int), .slice pa la.length ka] 55 (0, 0)) := heap_new _ _ _ rfl
          have HBXA := Lib.hid hbxA
          have hBW3 : Below w2.heap.size w2 (w2.alloc (.cells #[.int .i64 (xa : Int), .slice pa la.length ka] 55)) := (Below.refl _ _).alloc (Nat.le_refl _) _
          have hbw := HB2.out.size
          rw [HB0.out] at hbw
          have HT3 := Lib.hid (HT2.out.below hBW3)
          have HO3 := Lib.hid (HO2.out.below hBW3)
          have HHA3 : Hid (OwnInts _ base (.slice pa la.length ka) (ints la) ∧ (Value.slice pa la.length ka).ownBlock ≠ some d) := ⟨HHA.out.1.below hBW3, HHA.out.2⟩
          have HB3 := Lib.hid (HB2.out.trans (hBW3.mono hbw))
          obtain ⟨bA, hbA⟩ : ∃ bA, w2.heap.size = bA := ⟨_, rfl⟩
          have hdA : d < bA := by
            have := (HO2.out.mine (by rw [length_ints]; exact HJ.out.len.1) h1).2.2.2.2
            omega
          rw [hbA] at HBXA ⊢
          generalize w2.alloc (.cells #[.int .i64 (xa : Int), .slice pa la.length ka] 55) = W3 at *
          have hbw3 := HB3.out.size
          rw [HB0.out] at hbw3
          have CW1 := Lib.hid (without_any W3 base d n c i _ M HT3.out HL.out hil (by omega) hbw3)
          clear hbxA hBW3 HT2 HO2 HB2 HHA hca hcv hg hbA hbw
          refine CW1.out.mono ?_
          rintro e w4 ⟨q4, c4, rfl, hT4, hB4⟩
          obtain ⟨n1, hn1'⟩ : ∃ n1, n - 1 = n1 := ⟨_, rfl⟩
          have HL4 : Hid ((M.eraseIdx i).length = n1) := by
            show _ = _
            rw [List.length_eraseIdx, if_pos (by rw [HL.out]; exact hil), HL.out, hn1']
          rw [hn1'] at hT4 ⊢
          have hn11 : 1 ≤ n1 := by omega
          have hn12 : n1 + 1 ≤ n := by omega
          have hn13 : n ≤ n1 + 1 := by omega
          have HT4 := Lib.hid hT4
          have HO4 := Lib.hid (HO3.out.below hB4)
          have HHA4 : Hid (OwnInts _ base (.slice pa la.length ka) (ints la) ∧ (Value.slice pa la.length ka).ownBlock ≠ some d) := ⟨HHA3.out.1.below hB4, HHA3.out.2⟩
          have HB4 := Lib.hid (HB3.out.trans (hB4.mono hbw3))
          have HBXA4 := Lib.hid (heap_call hB4 HBXA.out)
          have CL2 := Lib.hid (least_any w4 base d n1 c4 q4 _ hT4 HL4.out hn11 (by omega))
          clear hT4 hB4 hn1' CW1 HT3 HO3 HHA3 HB3 HBXA hbw3
          go_wp2_with fail
          refine CL2.out.mono ?_
          rintro e w5 ⟨j, rfl, hj, hB5⟩
          have hjl : j < n1 := by have := hj.lt; rw [List.length_map, HL4.out] at this; exact this
          obtain ⟨b, hb⟩ : ∃ b, (M.eraseIdx i)[j]? = some b := ⟨_, List.getElem?_eq_getElem (by rw [HL4.out]; exact hjl)⟩
          have hT5 := HT4.out.below hB5
          have hz4 := HB4.out.size
          rw [HB0.out] at hz4
          obtain ⟨g, rfl, hg, hca, hcv⟩ := hT5.at j b hb
          have HT5 := Lib.hid hT5
          have HO5 := Lib.hid (HO4.out.below hB5)
          have HB5 := Lib.hid (HB4.out.trans (hB5.mono hz4))
          have HBXA5 := Lib.hid (heap_call hB5 HBXA4.out)
          have HHA5 : Hid (OwnInts _ base (.slice pa la.length ka) (ints la) ∧ (Value.slice pa la.length ka).ownBlock ≠ some d) := ⟨HHA4.out.1.below hB5, HHA4.out.2⟩
          obtain ⟨⟨⟨xb, yb⟩, lb⟩, vb⟩ := b
          have hsh := hT5.has _ (List.mem_of_getElem? hb)
          dsimp only at hsh hca hcv
          obtain ⟨pb, kb, hbe⟩ := hsh.1.shape
          rw [length_ints] at hbe
          subst hbe
          have HHB := Lib.hid hsh
          have HK := Lib.hid hj
          have HBB := Lib.hid hb
          clear hT5 hB5 hj hb CL2 HT4 HO4 HB4 HBXA4 HHA4 hsh hz4
          go_wp2_with fail
          have hbxB : (w5.alloc (.cells #[.int .i64 (xb : Int), .slice pb lb.length kb] 55)).heap[w5.heap.size]? = some (.cells #[.int .i64 (xb : Int), .slice pb lb.length kb] 55 (0, 0)) := heap_new _ _ _ rfl
          have HBXB := Lib.hid hbxB
          have hBW6 : Below w5.heap.size w5 (w5.alloc (.cells #[.int .i64 (xb : Int), .slice pb lb.length kb] 55)) := (Below.refl _ _).alloc (Nat.le_refl _) _
          have hbw := HB5.out.size
          rw [HB0.out] at hbw
          have HT6 := Lib.hid (HT5.out.below hBW6)
          have HO6 := Lib.hid (HO5.out.below hBW6)
          have HHA6 : Hid (OwnInts _ base (.slice pa la.length ka) (ints la) ∧ (Value.slice pa la.length ka).ownBlock ≠ some d) := ⟨HHA5.out.1.below hBW6, HHA5.out.2⟩
          have HHB6 : Hid (OwnInts _ base (.slice pb lb.length kb) (ints lb) ∧ (Value.slice pb lb.length kb).ownBlock ≠ some d) := ⟨HHB.out.1.below hBW6, HHB.out.2⟩
          have HB6 := Lib.hid (HB5.out.trans (hBW6.mono hbw))
          have HBXA6 := Lib.hid (heap_call hBW6 HBXA5.out)
          obtain ⟨bB, hbB⟩ : ∃ bB, w5.heap.size = bB := ⟨_, rfl⟩
          have hdB : d < bB := by
            have := (HO5.out.mine (by rw [length_ints]; exact HJ.out.len.1) h1).2.2.2.2
            omega
          rw [hbB] at HBXB ⊢
          generalize w5.alloc (.cells #[.int .i64 (xb : Int), .slice pb lb.length kb] 55) = W6 at *
          have hbw6 := HB6.out.size
          rw [HB0.out] at hbw6
          have CW2 := Lib.hid (without_any W6 base d n1 c4 j _ _ HT6.out HL4.out hjl (by omega) hbw6)
          clear hbxB hBW6 HT5 HO5 HB5 HHA5 HHB HBXA5 hca hcv hg hbB hbw
          refine CW2.out.mono ?_
          rintro e w7 ⟨q7, c7, rfl, hT7, hB7⟩
          obtain ⟨n2, hn2'⟩ : ∃ n2, n1 - 1 = n2 := ⟨_, rfl⟩
          have HL7 : Hid (((M.eraseIdx i).eraseIdx j).length = n2) := by
            show _ = _
            rw [List.length_eraseIdx, if_pos (by rw [HL4.out]; exact hjl), HL4.out, hn2']
          rw [hn2'] at hT7 ⊢
          have hn21 : n2 + 1 = n1 := by omega
          have HN2 := Lib.hid hn21
          have hn22 : n2 ≤ 258 := by omega
          have HT7 := Lib.hid hT7
          have HO7 := Lib.hid (HO6.out.below hB7)
          have HHA7 : Hid (OwnInts _ base (.slice pa la.length ka) (ints la) ∧ (Value.slice pa la.length ka).ownBlock ≠ some d) := ⟨HHA6.out.1.below hB7, HHA6.out.2⟩
          have HHB7 : Hid (OwnInts _ base (.slice pb lb.length kb) (ints lb) ∧ (Value.slice pb lb.length kb).ownBlock ≠ some d) := ⟨HHB6.out.1.below hB7, HHB6.out.2⟩
          have HB7 := Lib.hid (HB6.out.trans (hB7.mono hbw6))
          have HBXA7 := Lib.hid (heap_call hB7 HBXA6.out)
          have HBXB7 := Lib.hid (heap_call hB7 HBXB.out)
          have hb2 : ((M.map (·.1)).eraseIdx i)[j]? = some ((xb, yb), lb) := by rw [← map_erase, List.getElem?_map, HBB.out]; rfl
          have ha2 : (M.map (·.1))[i]? = some ((xa, ya), la) := by rw [List.getElem?_map, HA.out]; rfl
          have htwo := HJ.out.two ha2 hb2
          have hstep := HJ.out.step (i := i) (k := j) (by rw [List.map_map]; exact HI.out) ha2 (by rw [← map_erase, List.map_map]; exact HK.out) hb2
          obtain ⟨ht1, ht2, ht3, ht4⟩ := htwo
          dsimp only at ht1 ht2 ht3 hstep
          have HT34 := Lib.hid (And.intro ht3 ht4)
          have HST := Lib.hid hstep
          clear hT7 hB7 hn2' CW2 HT6 HO6 HHA6 HHB6 HB6 HBXA6 HBXB hbw6 hn21 ha2 hb2 ht3 ht4 hstep
          obtain ⟨La, hLa⟩ : ∃ La, la.length = La := ⟨_, rfl⟩
          obtain ⟨Lb, hLb⟩ : ∃ Lb, lb.length = Lb := ⟨_, rfl⟩
          rw [hLa] at HHA7 HBXA7
          rw [hLb] at HHB7 HBXB7
          rw [hLa, hLb] at ht2
          rw [hLa, hLb]
          have HLA := Lib.hid hLa
          have HLB := Lib.hid hLb
          clear hLa hLb
          go_wp2_with fail
          have hbA1 := (cell_of_heap HBXA7.out 1).trans rfl
          have hbB1 := (cell_of_heap HBXB7.out 1).trans rfl
          have hlA := lt_of_heap HBXA7.out
          have hlB := lt_of_heap HBXB7.out
          have HkW : Hid (∀ w' : World, Below w7.heap.size w7 w' → Below w7.heap.size w7 w' ∧ w'.cell? ⟨bA, 1, none⟩ = some (.slice pa La ka) ∧ w'.cell? ⟨bB, 1, none⟩ = some (.slice pb Lb kb)) := fun w' h => ⟨h, (h.cell (p := ⟨bA, 1, none⟩) hlA).trans hbA1, (h.cell (p := ⟨bB, 1, none⟩) hlB).trans hbB1⟩
          have hbW : Below w7.heap.size w7 w7 := Below.refl _ _
          have hbw7 := HB7.out.size
          rw [HB0.out] at hbw7
          have hd7 : d < w7.heap.size := by omega
          have hva := HHA7.out.1.is
          have hvb := HHB7.out.1.is
          clear hlA hlB
          go_region_held3 (fun w' => Below w7.heap.size w7 w' ∧ w'.cell? ⟨bA, 1, none⟩ = some (.slice pa La ka) ∧ w'.cell? ⟨bB, 1, none⟩ = some (.slice pb Lb kb))
            ((refine HkW.out _ ?_; first | assumption | exact bel_drew (by assumption) | exact And.left (by assumption)))
            ((first
              | (refine step_append_ints (by rfl) _ _ (by rfl) w7.heap.size (.slice none 0 0) [] (by rfl) (OwnInts.nil _ _) _ _ (ints la) (by rfl) (ints_up hva (And.left (by assumption))) (by simp only [List.length_nil, length_ints]; have := HLA.out; omega) (bel_size (And.left (by assumption))) ?_
                 intro q8 c8 w8 hown1 hg1 hat1
                 have hW8 : Below w7.heap.size w7 w8 := bel_grown hg1 (And.left (by assumption)) (fun k hk => by simp [Value.ownBlock] at hk)
                 rw [show ([] : List Int).length + (ints la).length = La by rw [length_ints, HLA.out]; exact Nat.zero_add _] at hown1 ⊢
                 rw [List.nil_append] at hown1
                 have Hown1 := Lib.hid hown1
                 clear hg1 hat1 hown1)
              | (refine step_append_ints (by rfl) _ _ (by rfl) w7.heap.size _ (ints la) (by rfl) Hown1.out _ _ (ints lb) (by rfl) (ints_up hvb (by first | assumption | exact And.left (by assumption))) (by rw [length_ints, length_ints, HLA.out, HLB.out]; omega) (bel_size (by first | assumption | exact And.left (by assumption))) ?_
                 intro q9 c9 w9 hown2 hg2 hat2
                 have hW9 : Below w7.heap.size w7 w9 := bel_grown hg2 (by first | assumption | exact And.left (by assumption)) (fun k hk => own_ge Hown1.out hk)
                 rw [show (ints la).length + (ints lb).length = La + Lb by rw [length_ints, length_ints, HLA.out, HLB.out]] at hown2 ⊢
                 rw [show ints la ++ ints lb = ints (la ++ lb) by simp [ints]] at hown2
                 have Hown2 := Lib.hid hown2
                 clear hg2 hat2 hown2)
              | fail))
          obtain ⟨Ll, hLl⟩ : ∃ Ll, La + Lb = Ll := ⟨_, rfl⟩
          have HLL : Hid ((la ++ lb).length = Ll) := by
            show _ = _
            rw [List.length_append, HLA.out, HLB.out, hLl]
          rw [hLl] at Hown2 ht2 ⊢
          have HAV : Hid (OwnInts w9 base (.slice q9 Ll c9) (ints (la ++ lb)) ∧ (Value.slice q9 Ll c9).ownBlock ≠ some d) := ⟨Hown2.out.mono hbw7, fun e => by have := own_ge Hown2.out e; omega⟩
          have HT9 := Lib.hid (HT7.out.below hW9)
          have HO9 := Lib.hid (HO7.out.below hW9)
          have HB9 := Lib.hid (HB7.out.trans (hW9.mono hbw7))
          have HBXA9 := Lib.hid (heap_call hW9 HBXA7.out)
          have HBXB9 := Lib.hid (heap_call hW9 HBXB7.out)
          have HD9 : Hid (∃ cs, w9.heap[d]? = some (.cells cs 3 (0, 0))) := own_heap HO9.out rfl
          have hO9 := HO9.out
          have HOS : Hid (OwnInts w9 base (.slice (some ⟨d, 0, none⟩) k k) (ints (incAll deep ((la ++ lb).take 0)))) := by rw [List.take_zero]; exact hO9
          generalize la ++ lb = al at *
          have hdl := HJ.out.len.1
          have HDL := Lib.hid hdl
          have hDl := HJ.out.len.2
          have HDDL := Lib.hid hDl
          clear hLl Hown2 Hown1 hW8 hW9 hva hvb hd7 hbw7 hbW HkW hbA1 hbB1 HBXA7 HBXB7 HHA7 HHB7 HT7 HO7 HB7 hO9 HO9 HLA HLB hdl hDl
          go_wp2_with fail
          go_loopw [11] (fun iv wr => ∃ t : Nat, t ≤ Ll ∧ iv = .int .i64 t ∧ Hid (OwnInts wr base (.slice (some ⟨d, 0, none⟩) k k) (ints (incAll deep (al.take t)))) ∧ Hid (Only d w9 wr)) (fun iv _ => Ll + 1 - (intOf iv).toNat)
          case atStart => exact ⟨0, Nat.zero_le _, rfl, HOS, Only.refl _ _⟩
          case round =>
            clear HOS
            obtain ⟨t, ht, rfl, HO, HY⟩ := hrel
            by_cases hlt3 : t < Ll
            · obtain ⟨x, hx⟩ : ∃ x, al[t]? = some x := ⟨_, List.getElem?_eq_getElem (by rw [HLL.out]; exact hlt3)⟩
              have hxk := HT34.out.1 x (List.mem_of_getElem? hx)
              have hav : OwnInts wr base (.slice q9 Ll c9) (ints al) := ownsRow_only HAV.out.1 HY.out HAV.out.2
              obtain ⟨g3, o3, hq3, hg3, hx3⟩ := hav.is.at t (by rw [length_ints, HLL.out]; exact hlt3)
              subst hq3
              rw [show (ints al)[t]?.getD 0 = (x : Int) by simp [ints, hx]] at hx3
              obtain ⟨dx, hdx⟩ : ∃ dx, deep[x]? = some dx := ⟨_, List.getElem?_eq_getElem (by rw [HDL.out]; exact hxk)⟩
              obtain ⟨ex, hex⟩ : ∃ ex, D[x]? = some ex := ⟨_, List.getElem?_eq_getElem (by rw [HDDL.out]; exact hxk)⟩
              have hde := HT34.out.2 x dx ex hdx hex
              have he258 := HDB.out ex (List.mem_of_getElem? hex)
              have hy := incAll_get (al.take t) deep x dx hdx
              have hcnt : (al.take t).count x ≤ 258 := Nat.le_trans List.count_le_length (by rw [List.length_take]; omega)
              have hsn := incAll_snoc deep al t x hx
              rw [hy, Option.getD_some] at hsn
              obtain ⟨y, hye⟩ : ∃ y, dx + (al.take t).count x = y := ⟨_, rfl⟩
              have hy600 : y ≤ 600 := by omega
              rw [hye] at hy hsn
              obtain ⟨m1, m2, m3, m4, m5⟩ := HO.out.mine (by rw [length_ints, length_incAll, HDL.out]) h1
              have hcy := m1 x y (ints_get _ _ _ hy)
              have hfx := m2 x
              have HO2 : Hid (OwnInts (wr.setCell ⟨d, x, none⟩ (.int .i64 ((y + 1 : Nat) : Int))).drew base (.slice (some ⟨d, 0, none⟩) k k) (ints (incAll deep (al.take (t + 1))))) := by
                have := m3 x ((y + 1 : Nat) : Int)
                rw [ints_set, ← hsn] at this
                exact this.below (Below.refl _ _).drew
              have HY2 : Hid (Only d w9 (wr.setCell ⟨d, x, none⟩ (.int .i64 ((y + 1 : Nat) : Int))).drew) := (HY.out.set x _).trans (Only.of (Below.refl _ _).drew)
              have hyw : Hid (((y + 1 : Nat) : Int) = (y : Int) + 1) := by show _ = _; omega
              clear hx hdx hex hde he258 hy hcnt hsn hye m1 m2 m3 m4 m5 hav
              go_wp2_with fail
              go_region
              go_wp2_with fail
              go_roundw
              case rel => exact ⟨t + 1, by omega, by go_num, by rw [← hyw.out]; exact HO2, by rw [← hyw.out]; exact HY2⟩
              case measure => simp [intOf]; omega
            · obtain rfl : t = Ll := by omega
              have HOe : Hid (OwnInts wr base (.slice (some ⟨d, 0, none⟩) k k) (ints (incAll deep al))) := by
                have := HO.out
                rw [List.take_of_length_le (by rw [HLL.out]; exact Nat.le_refl _)] at this
                exact this
              have hBXA := HY.out.other HBXA9.out (show bA ≠ d by omega)
              have hBXB := HY.out.other HBXB9.out (show bB ≠ d by omega)
              have hcA := (cell_of_heap hBXA 0).trans rfl
              have hcB := (cell_of_heap hBXB 0).trans rfl
              have HTe := HT9.out.only HY.out HD9.out
              have hav : OwnInts wr base (.slice q9 t c9) (ints al) := ownsRow_only HAV.out.1 HY.out HAV.out.2
              have hBe : Below base w wr := HY.out.bel HB9.out hz (by rw [HB0.out]; exact Nat.le_refl _)
              have hze := hBe.size
              rw [HB0.out] at hze
              have hwx : IntKind.i64.wrap ((xa : Int) + (xb : Int)) = ((xa + xb : Nat) : Int) := by rw [IntWalk.i64_in _ (by omega)]; omega
              obtain ⟨xs, hxs⟩ : ∃ xs, xa + xb = xs := ⟨_, rfl⟩
              rw [hxs] at hwx HST
              have HT2 := Lib.hid (HTe.alloc (.cells #[.int .i64 (xs : Int), .slice q9 t c9] 55))
              have HRD : Hid (Rd (wr.alloc (.cells #[.int .i64 (xs : Int), .slice q9 t c9] 55)) (wr.heap.size + 1) 2 (.slice (some ⟨wr.heap.size, 0, none⟩) 1 1) [((((xs, m), al), .slice q9 t c9) : TV)].length (trCells [(((xs, m), al), .slice q9 t c9)])) := tr_rd (((xs, m), al), .slice q9 t c9) rfl rfl (heap_new _ _ _ rfl)
              have HKK : Hid (∀ z ∈ [((((xs, m), al), .slice q9 t c9) : TV)], OwnInts (wr.alloc (.cells #[.int .i64 (xs : Int), .slice q9 t c9] 55)) base z.2 (ints z.1.2) ∧ z.2.ownBlock ≠ some d) := fun z hz' => by
                simp at hz'
                subst hz'
                exact ⟨hav.alloc _, HAV.out.2⟩
              have HOa := Lib.hid (HOe.out.alloc (.cells #[.int .i64 (xs : Int), .slice q9 t c9] 55))
              have HBe := Lib.hid (hBe.alloc hze (.cells #[.int .i64 (xs : Int), .slice q9 t c9] 55))
              clear hBXA hBXB HTe hav hBe hxs HO HY HOe
              go_wp2_with
                (at_builtin
                 refine wpList_append_tr rfl _ _ rfl base d _ _ rfl HT2.out _ _ _ rfl HRD.out HKK.out (by rw [HL7.out]; simp; omega) (by simp; omega) ?_
                 intro q10 c10 w10 hown hg1 hat1
                 rw [show ((M.eraseIdx i).eraseIdx j).length + [((((xs, m), al), .slice q9 t c9) : TV)].length = n1 by rw [HL7.out, ← HN2.out]; rfl] at hown hat1 ⊢
                 have HO10 := Lib.hid (HT2.out.kept_ints hg1 HOa.out)
                 have HT10 := Lib.hid hown
                 have HB10 : Hid (Below base w w10) := HBe.out.grown hg1 (by simp; omega) (fun k hk => HT2.out.ge hk)
                 clear hown hg1 hat1)
              go_roundw
              case rel => exact ⟨n1, c10, m + 1, f, q10, _, _, hn11, by omega, rfl, by show _ = _; rw [List.length_append, HL7.out, ← HN2.out]; rfl, by show JInv _ _ _ _ _ _ _; rw [List.map_append, map_erase, map_erase]; exact HST.out, HT10, HO10, HB10⟩
              case measure => simp only [muS_slice]; omega
        · obtain rfl : n = 1 := by omega
          have hdone := HJ.out.done (by rw [List.length_map, HL.out]; exact Nat.le_refl _)
          subst hdone
          go_wp2_with fail
          go_ret
          exact ⟨_, _, rfl, HO.out.is, by rw [HB0.out]; exact HB.out⟩
end Go.Proofs.Ytegjkhhgihcdcaa
