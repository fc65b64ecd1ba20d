/- Put of the document's answer, layer 12. -/
import Derived.Test.YtpccdohhiojlkaaFrontB
import Derived.Test.YtpccdohhiojlkaaBytesRow
import Derived.Test.YtpccdohhiojlkaaSelPut
import Derived.Deep.RegionHeld3
namespace Go.Proofs.Ytpccdohhiojlkaa
open Go.RowKit
set_option linter.unusedVariables false

theorem results_cell_tmp12 {fn : Func} {p q : Tmp} {ty : TypeId} (h : fn.results = #[.cell p ty, .tmp q]) (tmps : Array Value) (P : Program) (w : World) (a : Addr) (v : Value) (hp : tmps.getD p undef = .pointer (some a)) (hl : (loadVar ty a).run P w = .ok v w) :
    (results fn tmps).run P w = .ok (.tuple #[v, tmps.getD q undef]) w := by
  have hp' : tmps[p]?.getD undef = .pointer (some a) := by simpa using hp
  simp [results, h, hp', asAddr, hl]
theorem loadVar_bits12 (k : Nat) (w : World) (a b : Value) (h : w.heap[k]? = some (.cells #[a, b] 28 (0, 0))) : (loadVar 28 ⟨k, 0, none⟩).run Try.prog w = .ok (.agg #[a, b]) w := by
  have c0 := (cell_of_heap h 0).trans rfl
  have c1 := (cell_of_heap h 1).trans rfl
  go_simp
theorem perm_range (t : Nat) : Perm t (List.range t) := List.Perm.refl _
theorem ats_range (t : Nat) (ht : t ≤ 6) (ns : List Nat) (hn : ∀ n ∈ ns, n < t) : selL (List.range 6) ns = (atsL (List.range t) ns).flatMap unary := by
  rw [selL_ats, ats_take ht ns _ (tabs_start t ht) hn, List.take_range, Nat.min_eq_left ht]
theorem al_take (ns : List Nat) : (⟨(ns.map UInt8.ofNat).toArray⟩ : ByteArray) = al ns := rfl
theorem replicate_snoc (k : Nat) : List.replicate (k + 1) true = List.replicate k true ++ [true] := List.replicate_succ'
theorem length_unaries (L : List Nat) (t : Nat) (h : ∀ k ∈ L, k < t) : (L.flatMap unary).length ≤ t * L.length := by
  induction L with
  | nil => simp
  | cons k L ih =>
    have h1 := h k (by simp)
    have h2 := ih fun m hm => h m (by simp [hm])
    rw [List.flatMap_cons, List.length_append, length_unary, List.length_cons, Nat.mul_succ]
    omega
set_option maxRecDepth 100000 in
set_option maxHeartbeats 6400000 in
theorem rput12_any (w : World) (v : Value) (ns : List Nat) (t : Nat) (hv : IsInts w w.heap.size v (ints ns)) (hl : ns.length ≤ 1000) (ht : 2 ≤ t) (ht6 : t ≤ 6) (hn : ∀ n ∈ ns, n < t) :
    Calls Try.prog 12 #[v, .int .i64 (t : Nat)] w fun e w' => e = .returned (.tuple #[.agg #[.string (txt (selL (List.range 6) ns)), .int .i64 ((selL (List.range 6) ns).length : Nat)], .int .i64 0]) ∧ Below w.heap.size w w' := by
  obtain ⟨A, ca, rfl, hc1, hc2⟩ := hv.shape
  have hli := length_ints ns
  obtain ⟨N, hN⟩ : ∃ N, ns.length = N := ⟨_, rfl⟩
  rw [hli, hN] at hv hc1 ⊢
  rw [hN] at hl
  have CA : Hid (∀ W, Calls Try.prog 28 #[.int .i64 (t : Nat)] W fun e w' => e = .returned (.string (al (List.range t))) ∧ W = w') := fun W => alphabet_any W t ht6
  have CF : Hid (∀ W, Calls Try.prog 27 #[.string (al (List.range t)), .string (al ns)] W fun e w' => ∃ q c, e = .returned (.tuple #[.slice q N c, .int .i64 0]) ∧ OwnInts w' W.heap.size (.slice q N c) (ints (atsL (List.range t) ns)) ∧ Below W.heap.size W w') := fun W => by
    refine (rfrontL_any W t (List.range t) ns ht6 (perm_range t) hn (by omega)).mono ?_
    rintro e w' ⟨v, rfl, ho, hB⟩
    obtain ⟨q, c, rfl⟩ := ho.shape
    rw [length_ints, length_atsL, hN] at ho ⊢
    exact ⟨q, c, rfl, ho, hB⟩
  have hal := atsL_lt ns (List.range t) (perm_range t) hn
  have hll : (atsL (List.range t) ns).length = N := by rw [length_atsL, hN]
  obtain ⟨L, hL⟩ : ∃ L, atsL (List.range t) ns = L := ⟨_, rfl⟩
  rw [hL] at CF hal hll
  have hsel : selL (List.range 6) ns = L.flatMap unary := by rw [ats_range t ht6 ns hn, hL]
  rw [hsel]
  have HV := Lib.hid hv
  have HN := Lib.hid hN
  have HNS := Lib.hid hn
  have HAL := Lib.hid hal
  have HLL := Lib.hid hll
  have E0 := Lib.hid ((Env.nil w).box #[.string ⟨#[]⟩, .int .i64 0] 28 _ rfl)
  clear hv hN hn hal hll hL hsel hli
  go_enter Try.func12, Try.ntmps12
  go_wp2_with fail
  have hX0 := Lib.hid (E0.out.blk 0 rfl)
  have hB0 := Lib.hid E0.out.bel
  have hz0 : w.heap.size + 1 ≤ (w.alloc (.cells #[.string ⟨#[]⟩, .int .i64 0] 28)).heap.size := by simp
  generalize w.alloc (.cells #[.string ⟨#[]⟩, .int .i64 0] 28) = W0 at *
  clear E0
  go_loopw [6, 7] (fun sv iv wr => ∃ i : Nat, i ≤ N ∧ iv = .int .i64 i ∧ Hid (OwnBytes wr (w.heap.size + 1) sv ((ns.take i).map UInt8.ofNat)) ∧ Hid (wr.heap[w.heap.size]? = some (.cells #[.string ⟨#[]⟩, .int .i64 0] 28 (0, 0))) ∧ Hid (Below w.heap.size w wr) ∧ w.heap.size + 1 ≤ wr.heap.size) (fun _ iv _ => N + 1 - (intOf iv).toNat)
  case atStart => exact ⟨0, Nat.zero_le _, rfl, OwnBytes.nil _ _, hX0.out, hB0.out, hz0⟩
  case round =>
    clear hX0 hB0 hz0
    obtain ⟨i, hi, rfl, HO, HX, HB, hz⟩ := hrel
    by_cases hlt : i < N
    · obtain ⟨n, hn⟩ : ∃ n, ns[i]? = some n := ⟨_, List.getElem?_eq_getElem (by rw [HN.out]; exact hlt)⟩
      have hnt := HNS.out n (List.mem_of_getElem? hn)
      obtain ⟨g, o, rfl, hgb, hc⟩ := (HV.out.below HB.out (Nat.le_refl _)).at i (by rw [length_ints, HN.out]; exact hlt)
      rw [show (ints ns)[i]?.getD 0 = (n : Int) by simp [ints, hn]] at hc
      have hOl : ((ns.take i).map UInt8.ofNat).length ≤ 1000 := by rw [List.length_map, List.length_take]; omega
      have HS : Hid ((ns.take i).map UInt8.ofNat ++ [UInt8.ofNat n] = (ns.take (i + 1)).map UInt8.ofNat) := by
        show _ = _
        rw [List.take_add_one, hn]
        simp
      have hcv : IntKind.u8.wrap (n : Int) = (n : Int) := by rw [IntKind.wrap_u8]; omega
      clear hn
      generalize (ns.take i).map UInt8.ofNat = D at *
      go_wp2_with
        (at_builtin
         refine wpList_append_byte rfl _ _ rfl (w.heap.size + 1) _ D rfl (HO.out.alloc _) wr.heap.size n (by omega) rfl (heap_new _ _ _ rfl) (by omega) (by simp; omega) ?_
         intro q' c' w1 hown1 hg1 hat1
         have HO1 := Lib.hid hown1
         have HX1 := Lib.hid ((hg1.block w.heap.size (by simp; omega) (fun e => by have := own_bytes_ge HO.out e.symm; omega)).trans (heap_up _ HX.out))
         have HB1 := Lib.hid ((HB.out.alloc HB.out.size _).grown hg1 (by simp; omega) (fun k hk => by have := own_bytes_ge HO.out hk; omega))
         have hz1 : w.heap.size + 1 ≤ w1.heap.size := by have := hg1.size; simp at this; omega
         clear hg1 hat1 hown1)
      go_roundw
      case rel => exact ⟨i + 1, by omega, by go_num, by show OwnBytes _ _ _ _; rw [← HS.out]; exact HO1.out, HX1, HB1, hz1⟩
      case measure => simp [intOf]; omega
    · obtain rfl : i = N := by omega
      have ho := HO.out
      rw [List.take_of_length_le (by rw [HN.out]; exact Nat.le_refl _)] at ho
      have HCV : Hid (∀ W', Below wr.heap.size wr W' → (convert 32 9 u6).run Try.prog W' = .ok (.string (al ns)) W') := fun W' hB' => convert_own _ (ownsRow_below ho hB')
      have hr0 : Below wr.heap.size wr wr := Below.refl _ _
      have hcv0 := HCV.out _ hr0.drew
      clear ho HO
      go_wp2_with fail
      go_region_held3 (fun w' => (convert 32 9 u6).run Try.prog w' = .ok (.string (al ns)) w')
        ((first | exact hcv0 | exact HCV.out _ HW8.out | fail))
        ((first
          | (go_at_call 28
             refine (CA.out _).mono ?_
             rintro e w_ ⟨rfl, rfl⟩)
          | (go_at_call 27
             refine (CF.out _).mono ?_
             rintro e w8 ⟨q8, c8, rfl, hown8, hB8⟩
             have HW8 := Lib.hid (bel_call hB8 hr0.drew)
             have Hown8 := Lib.hid hown8
             clear hown8 hB8)
          | fail))
      all_goals
        have hwz : Below w.heap.size w w8 := HB.out.trans (HW8.out.mono HB.out.size)
        have HBw := Lib.hid hwz
        have HX8 := Lib.hid ((HW8.out.block w.heap.size (by omega)).trans HX.out)
        have hz8 : w.heap.size + 1 ≤ w8.heap.size := Nat.le_trans hz HW8.out.size
        clear HX HB HCV hcv0 hr0 HW8 hwz
        go_wp2_with fail
        obtain ⟨b2, hb2⟩ : ∃ b, w8.heap.size = b := ⟨_, rfl⟩
        have HL8 : Hid (IsInts w8 b2 (.slice q8 i c8) (ints L)) := by
          show IsInts _ _ _ _
          rw [← hb2]
          exact Hown8.out.is
        have h00 : Hid (Below b2 w8 w8) := Below.refl _ _
        have hz2 : w.heap.size + 1 ≤ b2 := by omega
        have hz3 : b2 ≤ w8.heap.size := by omega
        clear hb2 Hown8 hz8
        go_loopw [10, 11] (fun ov jv wx => ∃ j : Nat, j ≤ i ∧ jv = .int .i64 j ∧ Hid (OwnInts wx b2 ov (bins ((L.take j).flatMap unary))) ∧ Hid (Below b2 w8 wx) ∧ b2 ≤ wx.heap.size) (fun _ jv _ => i + 1 - (intOf jv).toNat)
        case atStart => exact ⟨0, Nat.zero_le _, rfl, OwnInts.nil _ _, h00, hz3⟩
        case round =>
          clear h00 hz3
          obtain ⟨j, hj, rfl, HO, HBB, hzr⟩ := hrel
          have hDl := length_unaries (L.take j) t (fun k hk => HAL.out k (List.mem_of_mem_take hk))
          have hDl2 : (L.take j).length ≤ i := by rw [List.length_take]; omega
          have hDl3 : ((L.take j).flatMap unary).length ≤ 6000 := by
            have : t * (L.take j).length ≤ 6 * 1000 := Nat.mul_le_mul ht6 (by omega)
            omega
          by_cases hjt : j < i
          · obtain ⟨m, hm⟩ : ∃ m, L[j]? = some m := ⟨_, List.getElem?_eq_getElem (by rw [HLL.out]; exact hjt)⟩
            have hmt := HAL.out m (List.mem_of_getElem? hm)
            have HN2 : Hid ((L.take (j + 1)).flatMap unary = (L.take j).flatMap unary ++ List.replicate m true ++ [false]) := by
              show _ = _
              rw [List.take_add_one, hm, List.flatMap_append, List.append_assoc]
              simp [unary]
            have HCx : Hid (∀ W, Below b2 w8 W → ∃ g o, q8 = some ⟨g, o, none⟩ ∧ W.cell? ⟨g, o + j, none⟩ = some (.int .i64 (m : Int))) := fun W hW => by
              obtain ⟨g, o, h1, h2, h3⟩ := (HL8.out.below hW (Nat.le_refl _)).at j (by rw [length_ints, HLL.out]; exact hjt)
              rw [show (ints L)[j]?.getD 0 = (m : Int) by simp [ints, hm]] at h3
              exact ⟨g, o, h1, h3⟩
            obtain ⟨D, hD⟩ : ∃ D, (L.take j).flatMap unary = D := ⟨_, rfl⟩
            rw [hD] at HO HN2 hDl3
            have HD := Lib.hid hD
            clear hm hDl hDl2 hD
            go_wp2_with fail
            go_loopw [10, 12] (fun ov kv wx => ∃ k : Nat, k ≤ m ∧ kv = .int .i64 k ∧ Hid (OwnInts wx b2 ov (bins (D ++ List.replicate k true))) ∧ Hid (Below b2 w8 wx) ∧ b2 ≤ wx.heap.size) (fun _ kv _ => m + 1 - (intOf kv).toNat)
            case atStart => exact ⟨0, Nat.zero_le _, rfl, by show OwnInts _ _ _ _; rw [List.replicate_zero, List.append_nil]; exact HO.out, HBB, hzr⟩
            case round =>
              clear HO HBB hzr
              obtain ⟨k, hk, rfl, HO, HBB, hzr⟩ := hrel
              obtain ⟨g, o, rfl, hc⟩ := HCx.out _ HBB.out
              have hXl : (bins (D ++ List.replicate k true)).length ≤ 7000 := by rw [length_bins, List.length_append, List.length_replicate]; omega
              by_cases hkm : k < m
              · have HS : Hid (bins (D ++ List.replicate k true) ++ [1] = bins (D ++ List.replicate (k + 1) true)) := by
                  show _ = _
                  rw [replicate_snoc, ← List.append_assoc, bins_append (D ++ List.replicate k true)]
                  rfl
                generalize bins (D ++ List.replicate k true) = X at *
                go_wp2_with
                  (at_builtin
                   refine wpList_append_ints rfl _ _ rfl b2 _ X rfl (HO.out.alloc _) (wr.heap.size + 1) _ [(1 : Int)] rfl (IsInts.new wr [(1 : Int)] _ _ _ rfl rfl rfl (by simp [maxLen])) (by simp; omega) (by simp; omega) ?_
                   intro q' c' w1 hown1 hg1 hat1
                   have HO1 := Lib.hid hown1
                   have HB1 := Lib.hid ((HBB.out.alloc hzr _).grown hg1 (by simp; omega) (fun k hk => own_ge HO.out hk))
                   have hz1 : b2 ≤ w1.heap.size := by have := hg1.size; simp at this; omega
                   clear hg1 hat1 hown1)
                go_roundw
                case rel => exact ⟨k + 1, by omega, by go_num, by show OwnInts _ _ _ _; rw [← HS.out]; exact HO1.out, HB1, hz1⟩
                case measure => simp [intOf]; omega
              · obtain rfl : k = m := by omega
                have HS : Hid (bins (D ++ List.replicate k true) ++ [0] = bins ((L.take (j + 1)).flatMap unary)) := by
                  show _ = _
                  rw [HN2.out, bins_append (D ++ List.replicate k true)]
                  rfl
                have hd : decide (k < k) = false := by simp
                generalize bins (D ++ List.replicate k true) = X at *
                go_wp2_with
                  (at_builtin
                   refine wpList_append_ints rfl _ _ rfl b2 _ X rfl (HO.out.alloc _) (wr.heap.size + 1) _ [(0 : Int)] rfl (IsInts.new wr [(0 : Int)] _ _ _ rfl rfl rfl (by simp [maxLen])) (by simp; omega) (by simp; omega) ?_
                   intro q' c' w1 hown1 hg1 hat1
                   have HO1 := Lib.hid hown1
                   have HB1 := Lib.hid ((HBB.out.alloc hzr _).grown hg1 (by simp; omega) (fun k hk => own_ge HO.out hk))
                   have hz1 : b2 ≤ w1.heap.size := by have := hg1.size; simp at this; omega
                   clear hg1 hat1 hown1)
                go_roundw
                case rel => exact ⟨j + 1, by omega, by go_num, by show OwnInts _ _ _ _; rw [← HS.out]; exact HO1.out, HB1, hz1⟩
                case measure => simp [intOf]; omega
          · obtain rfl : j = i := by omega
            have ho := HO.out
            rw [List.take_of_length_le (by rw [HLL.out]; exact Nat.le_refl _)] at ho hDl3
            have CO : Hid (Calls Try.prog 29 #[u10] wr fun e w' => e = .returned (.agg #[.string (txt (L.flatMap unary)), .int .i64 ((L.flatMap unary).length : Nat)]) ∧ Below wr.heap.size wr w') := by
              have := of_any wr u10 _ ho.is (bin_bins _) (by rw [length_bins]; omega)
              rw [asBits_bins] at this
              exact this
            clear ho HO hDl hDl2
            obtain ⟨T, hT⟩ : ∃ T, L.flatMap unary = T := ⟨_, rfl⟩
            rw [hT] at CO hDl3
            have HTT := Lib.hid hT
            clear hT
            go_wp2_with fail
            refine CO.out.mono ?_
            rintro e w5 ⟨rfl, hB⟩
            have hbx := heap_call hB ((HBB.out.block w.heap.size (by omega)).trans HX8.out)
            have b0 := (cell_of_heap hbx 0).trans rfl
            have b1 := (cell_of_heap hbx 1).trans rfl
            have f0 := frozen_of_heap hbx 0
            have f1 := frozen_of_heap hbx 1
            have hbl := lt_of_heap hbx
            have Hbx := Lib.hid hbx
            have HB5 := Lib.hid ((HBw.out.trans (HBB.out.mono (by omega))).trans (hB.mono (by omega)))
            clear hbx hB CO
            go_wp2_with fail
            refine bodyPost_ret (results_cell_tmp12 rfl _ _ _ ⟨w.heap.size, 0, none⟩ _ rfl (loadVar_bits12 _ _ _ _ (heap_set2 Hbx.out _ _))) rfl ?_
            exact ⟨by rw [HTT.out]; rfl, (HB5.out.setCell (p := ⟨w.heap.size, 0, none⟩) (Nat.le_refl _) _).setCell (p := ⟨w.heap.size, 1, none⟩) (Nat.le_refl _) _⟩
set_option maxHeartbeats 1600000 in
/-- too few tables, or too many -/
theorem rput12_arg (w : World) (v : Value) (t : Int) (h : (decide (2 ≤ t) && decide (t ≤ 6)) = false) :
    Calls Try.prog 12 #[v, .int .i64 t] w fun e w' => e = .returned (.tuple #[.agg #[.string ⟨#[]⟩, .int .i64 0], .int .i64 1]) ∧ Below w.heap.size w w' := by
  have E0 := Lib.hid ((Env.nil w).box #[.string ⟨#[]⟩, .int .i64 0] 28 _ rfl)
  have hc : t < 2 ∨ 6 < t := by
    by_cases h1 : t < 2
    · exact .inl h1
    · refine .inr ?_
      have h2 : decide (2 ≤ t) = true := by simp; omega
      rw [h2] at h
      simp at h
      exact h
  clear h
  go_enter Try.func12, Try.ntmps12
  have b0 := E0.out.cellv 0 rfl 0 _ rfl
  have b1 := E0.out.cellv 0 rfl 1 _ rfl
  have f0 := E0.out.frozen 0 rfl 0
  have f1 := E0.out.frozen 0 rfl 1
  have hbl := E0.out.lt 0 rfl
  rcases hc with hc | hc
  all_goals
    go_wp2_with fail
    refine bodyPost_ret (v := .tuple #[.agg #[.string ⟨#[]⟩, .int .i64 0], .int .i64 1]) ?_ rfl ⟨rfl, E0.out.bel⟩
    simp [results, Try.results12, go_sem]
set_option maxRecDepth 100000 in
set_option maxHeartbeats 1600000 in
/-- a table that there is not -/
theorem rput12_none (w : World) (v : Value) (xs : List Int) (t : Nat) (hv : IsInts w w.heap.size v xs) (hl : xs.length ≤ 1000) (ht : 2 ≤ t) (ht6 : t ≤ 6) (hn : xs.any (badF (t : Nat)) = true) :
    Calls Try.prog 12 #[v, .int .i64 (t : Nat)] w fun e w' => e = .returned (.tuple #[.agg #[.string ⟨#[]⟩, .int .i64 0], .int .i64 5]) ∧ Below w.heap.size w w' := by
  obtain ⟨A, ca, rfl, hc1, hc2⟩ := hv.shape
  obtain ⟨N, hN⟩ : ∃ N, xs.length = N := ⟨_, rfl⟩
  rw [hN] at hv hc1 hl ⊢
  have HV := Lib.hid hv
  have HN := Lib.hid hN
  have HBD : Hid (¬ ∀ k, k < N → ∃ n : Nat, xs[k]? = some (n : Int) ∧ n < t) := fun hall => by
    obtain ⟨x, hx, hb⟩ := List.any_eq_true.1 hn
    obtain ⟨i, hi, rfl⟩ := List.getElem_of_mem hx
    obtain ⟨n, h1, h2⟩ := hall i (by omega)
    rw [List.getElem?_eq_getElem hi] at h1
    injection h1 with h1
    rw [h1] at hb
    simp [badF] at hb
    omega
  have E0 := Lib.hid ((Env.nil w).box #[.string ⟨#[]⟩, .int .i64 0] 28 _ rfl)
  clear hv hN hn
  go_enter Try.func12, Try.ntmps12
  go_wp2_with fail
  have hX0 := Lib.hid (E0.out.blk 0 rfl)
  have hB0 := Lib.hid E0.out.bel
  have hz0 : w.heap.size + 1 ≤ (w.alloc (.cells #[.string ⟨#[]⟩, .int .i64 0] 28)).heap.size := by simp
  generalize w.alloc (.cells #[.string ⟨#[]⟩, .int .i64 0] 28) = W0 at *
  clear E0
  go_loopw [6, 7] (fun sv iv wr => ∃ (i : Nat) (D : List UInt8), i ≤ N ∧ iv = .int .i64 i ∧ D.length = i ∧ Hid (∀ k, k < i → ∃ n : Nat, xs[k]? = some (n : Int) ∧ n < t) ∧ Hid (OwnBytes wr (w.heap.size + 1) sv D) ∧ Hid (wr.heap[w.heap.size]? = some (.cells #[.string ⟨#[]⟩, .int .i64 0] 28 (0, 0))) ∧ Hid (Below w.heap.size w wr) ∧ w.heap.size + 1 ≤ wr.heap.size) (fun _ iv _ => N + 1 - (intOf iv).toNat)
  case atStart => exact ⟨0, [], Nat.zero_le _, rfl, rfl, fun k hk => by omega, OwnBytes.nil _ _, hX0.out, hB0.out, hz0⟩
  case round =>
    clear hX0 hB0 hz0
    obtain ⟨i, D, hi, rfl, hDl, HI, HO, HX, HB, hz⟩ := hrel
    have hlt : i < N := by
      refine Nat.lt_of_le_of_ne hi fun e => ?_
      subst e
      exact HBD.out HI.out
    obtain ⟨x, hx⟩ : ∃ x, xs[i]? = some x := ⟨_, List.getElem?_eq_getElem (by rw [HN.out]; exact hlt)⟩
    obtain ⟨g, o, rfl, hgb, hc⟩ := (HV.out.below HB.out (Nat.le_refl _)).at i (by rw [HN.out]; exact hlt)
    rw [hx, Option.getD_some] at hc
    by_cases hb : 0 ≤ x ∧ x < t
    · obtain ⟨n, rfl⟩ : ∃ n : Nat, x = n := ⟨x.toNat, by omega⟩
      have hnt : n < t := by omega
      have HI2 : Hid (∀ k, k < i + 1 → ∃ n : Nat, xs[k]? = some (n : Int) ∧ n < t) := fun k hk => by
        by_cases e : k = i
        · subst e; exact ⟨n, hx, hnt⟩
        · exact HI.out k (by omega)
      have hcv : IntKind.u8.wrap (n : Int) = (n : Int) := by rw [IntKind.wrap_u8]; omega
      clear hx HI
      go_wp2_with
        (at_builtin
         refine wpList_append_byte rfl _ _ rfl (w.heap.size + 1) _ D rfl (HO.out.alloc _) wr.heap.size n (by omega) rfl (heap_new _ _ _ rfl) (by omega) (by simp; omega) ?_
         intro q' c' w1 hown1 hg1 hat1
         have HO1 := Lib.hid hown1
         have HX1 := Lib.hid ((hg1.block w.heap.size (by simp; omega) (fun e => by have := own_bytes_ge HO.out e.symm; omega)).trans (heap_up _ HX.out))
         have HB1 := Lib.hid ((HB.out.alloc HB.out.size _).grown hg1 (by simp; omega) (fun k hk => by have := own_bytes_ge HO.out hk; omega))
         have hz1 : w.heap.size + 1 ≤ w1.heap.size := by have := hg1.size; simp at this; omega
         clear hg1 hat1 hown1)
      go_roundw
      case rel => exact ⟨i + 1, D ++ [UInt8.ofNat n], by omega, by go_num, by rw [List.length_append, hDl]; rfl, HI2, by have := HO1.out; rw [hDl] at this; exact this, HX1, HB1, hz1⟩
      case measure => simp [intOf]; omega
    · have b0 := (cell_of_heap HX.out 0).trans rfl
      have b1 := (cell_of_heap HX.out 1).trans rfl
      have f0 := frozen_of_heap HX.out 0
      have f1 := frozen_of_heap HX.out 1
      have hbl := lt_of_heap HX.out
      have hb' : x < 0 ∨ (t : Int) ≤ x := by omega
      clear hx hb
      rcases hb' with hb | hb
      all_goals
        go_wp2_with fail
        refine bodyPost_ret (results_cell_tmp12 rfl _ _ _ ⟨w.heap.size, 0, none⟩ _ rfl (loadVar_bits12 _ _ _ _ (heap_set2 HX.out _ _))) rfl ?_
        exact ⟨by rfl, (HB.out.setCell (p := ⟨w.heap.size, 0, none⟩) (Nat.le_refl _) _).setCell (p := ⟨w.heap.size, 1, none⟩) (Nat.le_refl _) _⟩
end Go.Proofs.Ytpccdohhiojlkaa
