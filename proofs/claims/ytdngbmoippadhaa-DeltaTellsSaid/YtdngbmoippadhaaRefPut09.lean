/- The document's Put of layer 9. -/
import Derived.Test.YtdngbmoippadhaaRefGet
import Derived.Test.YtdngbmoippadhaaDeltaPut
import Derived.Test.YtdngbmoippadhaaEnv2
namespace Go.Proofs.Ytdngbmoippadhaa
open Go.RowKit
set_option linter.unusedVariables false

/-- what lives in a round -/
structure PSt (w wr : World) (v : Value) (l : List Bool) : Prop where
  bel : Below w.heap.size w wr
  box : wr.heap[w.heap.size]? = some (.cells #[.string ⟨#[]⟩, .int .i64 0] 27 (0, 0))
  own : OwnInts wr (w.heap.size + 1) v (bins l)
theorem PSt.appended {w wr w1 : World} {v v' : Value} {l m : List Bool} {ys : List Int} {o : Obj} (h : PSt w wr v l) (hg : (wr.alloc o).grownBy w1 v.ownBlock) (ho : OwnInts w1 (w.heap.size + 1) v' (bins l ++ ys)) (hm : ys = bins m) : PSt w w1 v' (l ++ m) := by
  have hs := h.bel.size
  refine ⟨(h.bel.alloc hs o).grown hg (by simp; omega) (fun k hk => by have := own_ge h.own hk; omega), ?_, by rw [bins_append, ← hm]; exact ho⟩
  exact heap_grown_own (n := 0) hg (h.own.alloc o) bits_not_int (heap_up o h.box)
set_option maxRecDepth 100000 in
set_option maxHeartbeats 3200000 in
theorem rput_ok (w : World) (v : Value) (ns : List Nat) (hv : IsInts w w.heap.size v (ints ns)) (hl2 : 2 ≤ ns.length) (hl3 : ns.length ≤ 258) (hn : ∀ n ∈ ns, 1 ≤ n ∧ n ≤ 20) :
    Calls Try.prog 12 #[v] w fun e w' => e = .returned (.tuple #[.agg #[.string (txt (deltaL ns)), .int .i64 ((deltaL ns).length : Nat)], .int .i64 0]) ∧ Below w.heap.size w w' := by
  obtain ⟨A, ca, rfl, hc1, hc2⟩ := hv.shape
  obtain ⟨g, o, rfl, hg, hx0⟩ := hv.at 0 (by rw [length_ints]; omega)
  have hT : deltaL ns = B.low (ns[0]?.getD 0) 5 ++ rowsB (ns[0]?.getD 0) (ns.drop 0) := by
    cases ns with
    | nil => simp at hl2
    | cons a l => simp [deltaL]
  have hTl : (deltaL ns).length ≤ 20000 := by
    have := length_deltaL ns (fun n h => (hn n h).2)
    omega
  have Hat : Hid (∀ i, i < ns.length → (ints ns)[i]?.getD 0 = ((ns[i]?.getD 0 : Nat) : Int)) := fun i hi => by simp [ints, List.getElem?_eq_getElem hi]
  have Hrng : Hid (∀ i, i < ns.length → 1 ≤ ns[i]?.getD 0 ∧ ns[i]?.getD 0 ≤ 20) := fun i hi => by
    rw [List.getElem?_eq_getElem hi]
    exact hn _ (List.getElem_mem hi)
  have Hdr : Hid (∀ j, j < ns.length → ns.drop j = ns[j]?.getD 0 :: ns.drop (j + 1)) := fun j hj => by
    rw [List.drop_eq_getElem_cons hj, List.getElem?_eq_getElem hj]; rfl
  have Hnil : Hid (ns.drop ns.length = []) := by show _ = _; simp
  obtain ⟨T, hTe⟩ : ∃ T, deltaL ns = T := ⟨_, rfl⟩
  rw [hTe] at hT hTl ⊢
  have CO : Hid (∀ W u, IsInts W W.heap.size u (bins T) → Calls Try.prog 26 #[u] W fun e w' => e = .returned (.agg #[.string (txt T), .int .i64 (T.length : Nat)]) ∧ Below W.heap.size W w') := fun W u h => by
    have := of_any W u (bins T) h (bin_bins T) (by rw [length_bins]; omega)
    rw [asBits_bins] at this
    exact this
  obtain ⟨N, hN⟩ : ∃ N, ns.length = N := ⟨_, rfl⟩
  rw [length_ints] at hv hc1 ⊢
  have Hv := Lib.hid hv
  rw [hN] at hc1 hl2 hl3 Hv Hat Hrng Hdr Hnil ⊢
  rw [Hat.out 0 (by omega), Nat.add_zero] at hx0
  have hb0 := Hrng.out 0 (by omega)
  obtain ⟨a0, ha0⟩ : ∃ a, ns[0]?.getD 0 = a := ⟨_, rfl⟩
  rw [ha0] at hx0 hb0 hT
  have CN : Hid (∀ W, Calls Try.prog 25 #[.int .u64 (a0 : Nat), .int .i64 5] W fun e w' => ∃ q c, e = .returned (.slice q 5 c) ∧ OwnInts w' W.heap.size (.slice q 5 c) (bins (B.low a0 5)) ∧ Below W.heap.size W w') := fun W => rnumber_any W a0 5 (by omega) (by omega)
  have hwr : IntKind.u64.wrap (a0 : Int) = (a0 : Int) := IntWalk.u64_in _ (by omega)
  have HN := Lib.hid hN
  have HT := Lib.hid hT
  have HA0 := Lib.hid ha0
  have hg1 : 0 < N := by omega
  clear hv hN hn hT hTe ha0
  go_enter Try.func12, Try.ntmps12
  go_wp2
  have E0 := Lib.hid ((Env.nil w).box #[.string ⟨#[]⟩, .int .i64 0] 27 _ rfl)
  have hbx : (w.alloc (.cells #[.string ⟨#[]⟩, .int .i64 0] 27)).heap[w.heap.size]? = _ := heap_alloc_new w _
  have hsz : (w.alloc (.cells #[.string ⟨#[]⟩, .int .i64 0] 27)).heap.size = w.heap.size + 1 := by simp
  obtain ⟨W, hW⟩ : ∃ W, w.alloc (.cells #[.string ⟨#[]⟩, .int .i64 0] 27) = W := ⟨_, rfl⟩
  rw [hW] at E0 hbx hsz ⊢
  have Hbx := Lib.hid hbx
  clear hW hbx
  go_loop [4] (fun iv => ∃ i : Nat, i ≤ N ∧ iv = .int .i64 i) (fun iv => N + 1 - (intOf iv).toNat)
  case atStart => exact ⟨0, Nat.zero_le _, rfl⟩
  case round =>
    obtain ⟨i, hi, rfl⟩ := hrel
    by_cases hlt : i < N
    · obtain ⟨g', o', he, hg', hx⟩ := (E0.out.old Hv.out).at i (by rw [length_ints, HN.out]; exact hlt)
      obtain ⟨rfl, rfl⟩ : g = g' ∧ o = o' := by
        injection he with he
        injection he with h1 h2
        exact ⟨h1, h2⟩
      rw [Hat.out i hlt] at hx
      have hr := Hrng.out i hlt
      generalize ns[i]?.getD 0 = n at hx hr
      clear he hg'
      go_wp2
      go_round
      case rel => exact ⟨i + 1, by omega, by go_num⟩
      case measure => simp [intOf]; omega
    · obtain rfl : i = N := by omega
      have hx1 : W.cell? ⟨g, o, none⟩ = some (.int .i64 a0) := (E0.out.bel.cell (p := ⟨g, o, none⟩) hg).trans hx0
      go_wp2_with fail
      refine (CN.out _).mono ?_
      rintro e w2 ⟨q, c, rfl, hown, hB⟩
      rw [hsz] at hown
      have P2 : PSt w w2 (.slice q 5 c) (B.low a0 5) := ⟨(E0.out.step hB).bel, heap_call hB Hbx.out, hown⟩
      have HP2 := Lib.hid P2
      clear P2 hown hB CN hx1 E0 Hbx
      go_wp2_with fail
      go_loopw [5, 6] (fun lv iv wr => ∃ (j : Nat) (l : List Bool), j ≤ i ∧ iv = .int .i64 j ∧ Hid (l ++ rowsB (ns[j - 1]?.getD 0) (ns.drop j) = T) ∧ PSt w wr lv l) (fun _ iv _ => i + 1 - (intOf iv).toNat)
      case atStart => exact ⟨0, B.low a0 5, Nat.zero_le _, rfl, by show _ = _; rw [HT.out, HA0.out], HP2.out⟩
      case round =>
        obtain ⟨j, l, hj, rfl, HL, hP⟩ := hrel
        have HP := Lib.hid hP
        clear hP HP2 HT
        by_cases hlt2 : j < i
        · obtain ⟨jj, hjj⟩ : ∃ k, j - 1 = k := ⟨_, rfl⟩
          have hmx : (if (j : Int) - 1 < 0 then (0 : Int) else (j : Int) - 1) = (jj : Int) := by split <;> omega
          have hcx := fun k (hk : k < i) => (Hv.out.at k (by rw [length_ints, HN.out]; exact hk))
          obtain ⟨g', o', he, hg', hx⟩ := hcx j hlt2
          obtain ⟨rfl, rfl⟩ : g = g' ∧ o = o' := by
            injection he with he
            injection he with h1 h2
            exact ⟨h1, h2⟩
          obtain ⟨g', o', he', hg'', hy⟩ := hcx jj (by omega)
          obtain ⟨rfl, rfl⟩ : g = g' ∧ o = o' := by
            injection he' with he
            injection he with h1 h2
            exact ⟨h1, h2⟩
          rw [Hat.out j hlt2] at hx
          rw [Hat.out jj (by omega)] at hy
          have hl := HL.out
          rw [hjj, Hdr.out j hlt2, rowsB] at hl
          have hrn := Hrng.out j hlt2
          have hra := Hrng.out jj (by omega)
          obtain ⟨n, hn⟩ : ∃ n, ns[j]?.getD 0 = n := ⟨_, rfl⟩
          obtain ⟨a, ha⟩ : ∃ n, ns[jj]?.getD 0 = n := ⟨_, rfl⟩
          rw [hn] at hx hl hrn
          rw [ha] at hy hl hra
          have Hn := Lib.hid hn
          obtain ⟨R, hR⟩ : ∃ R, rowsB n (ns.drop (j + 1)) = R := ⟨_, rfl⟩
          rw [hR] at hl
          have HR := Lib.hid hR
          have HL2 := Lib.hid hl
          have HX := Lib.hid hx
          have hx' : wr.cell? ⟨g, o + j, none⟩ = some (.int .i64 (n : Int)) := (HP.out.bel.cell (p := ⟨g, o + j, none⟩) hg).trans hx
          have hy' : wr.cell? ⟨g, o + jj, none⟩ = some (.int .i64 (a : Int)) := (HP.out.bel.cell (p := ⟨g, o + jj, none⟩) hg).trans hy
          clear HL hcx he hg' he' hg'' hx hy hn ha hl hR
          go_wp2_with fail
          go_loopw [5, 8] (fun lv kv wr => ∃ (b : Nat) (l : List Bool), kv = .int .i64 b ∧ a ≤ b ∧ b ≤ 20 ∧ (b ≤ n ∨ b = a) ∧ Hid (l ++ (stepB b n ++ R) = T) ∧ PSt w wr lv l) (fun _ kv _ => 21 - (intOf kv).toNat)
          case atStart => exact ⟨a, l, rfl, by omega, by omega, by omega, HL2, HP.out⟩
          case round =>
            clear HL2 HP hx' hy'
            obtain ⟨b, l, rfl, hab, hb20, hbn, HL, hP⟩ := hrel
            have HP := Lib.hid hP
            have hx' : wr.cell? ⟨g, o + j, none⟩ = some (.int .i64 (n : Int)) := (HP.out.bel.cell (p := ⟨g, o + j, none⟩) hg).trans HX.out
            have hlen : l.length ≤ 20000 := by
              have := congrArg List.length HL.out
              rw [List.length_append] at this
              omega
            have hz := HP.out.bel.size
            clear hP
            by_cases hc : b < n
            · have HL2 : Hid ((l ++ [true, false]) ++ (stepB (b + 1) n ++ R) = T) := by
                show _ = _
                rw [← HL.out, stepB_up hc]; simp
              clear HL
              go_wp2_with
                (at_builtin
                 refine wpList_append_ints rfl _ _ rfl (w.heap.size + 1) _ (bins l) rfl (HP.out.own.alloc _) (wr.heap.size + 1) _ [(1 : Int), 0] rfl (IsInts.new wr [(1 : Int), 0] _ _ _ rfl rfl rfl (by simp [maxLen])) (by rw [length_bins]; simp; omega) (by simp; omega) ?_
                 intro q' c' w1 hown1 hg1 hat1
                 have HP1 := Lib.hid (HP.out.appended (m := [true, false]) hg1 hown1 rfl)
                 clear hg1 hat1 hown1)
              go_roundw
              case rel => exact ⟨b + 1, l ++ [true, false], by go_num, by omega, by omega, by omega, HL2, HP1.out⟩
              case measure => simp [intOf]; omega
            · have hlb : b = max a n := by omega
              have HL2 : Hid (l ++ (stepB (max a n) n ++ R) = T) := by
                show _ = _
                rw [← hlb]; exact HL.out
              have hd : decide (b < n) = false := by simp; omega
              clear HL hlb hbn hc
              go_wp2_with fail
              go_loopw [5, 9] (fun lv kv wr => ∃ (b : Nat) (l : List Bool), kv = .int .i64 b ∧ b ≤ a ∧ Hid (l ++ (stepB (max b n) n ++ R) = T) ∧ PSt w wr lv l) (fun _ kv _ => (intOf kv).toNat)
              case atStart => exact ⟨a, l, rfl, by omega, HL2, HP.out⟩
              case round =>
                clear HL2 HP hx' hlen hz hd hb20 hab
                obtain ⟨b, l, rfl, hba, HL, hP⟩ := hrel
                have HP := Lib.hid hP
                have hx' : wr.cell? ⟨g, o + j, none⟩ = some (.int .i64 (n : Int)) := (HP.out.bel.cell (p := ⟨g, o + j, none⟩) hg).trans HX.out
                have hlen : l.length ≤ 20000 := by
                  have := congrArg List.length HL.out
                  rw [List.length_append] at this
                  omega
                have hz := HP.out.bel.size
                clear hP
                by_cases hc : n < b
                · have HL2 : Hid ((l ++ [true, true]) ++ (stepB (max (b - 1) n) n ++ R) = T) := by
                    show _ = _
                    rw [← HL.out, Nat.max_eq_left (by omega : n ≤ b), stepB_down hc, Nat.max_eq_left (by omega : n ≤ b - 1)]; simp
                  obtain ⟨b', rfl⟩ : ∃ k, b = k + 1 := ⟨b - 1, by omega⟩
                  rw [Nat.add_sub_cancel] at HL2
                  clear HL
                  go_wp2_with
                    (at_builtin
                     refine wpList_append_ints rfl _ _ rfl (w.heap.size + 1) _ (bins l) rfl (HP.out.own.alloc _) (wr.heap.size + 1) _ [(1 : Int), 1] rfl (IsInts.new wr [(1 : Int), 1] _ _ _ rfl rfl rfl (by simp [maxLen])) (by rw [length_bins]; simp; omega) (by simp; omega) ?_
                     intro q' c' w1 hown1 hg1 hat1
                     have HP1 := Lib.hid (HP.out.appended (m := [true, true]) hg1 hown1 rfl)
                     clear hg1 hat1 hown1)
                  go_roundw
                  case rel => exact ⟨b', l ++ [true, true], by go_num, by omega, HL2, HP1.out⟩
                  case measure => simp [intOf]
                · have HL2 : Hid ((l ++ [false]) ++ rowsB (ns[j + 1 - 1]?.getD 0) (ns.drop (j + 1)) = T) := by
                    show _ = _
                    rw [Nat.add_sub_cancel, Hn.out, HR.out, ← HL.out, Nat.max_eq_right (by omega : b ≤ n), stepB_same]; simp
                  have hd : decide (n < b) = false := by simp; omega
                  clear HL
                  go_wp2_with
                    (at_builtin
                     refine wpList_append_ints rfl _ _ rfl (w.heap.size + 1) _ (bins l) rfl (HP.out.own.alloc _) (wr.heap.size + 1) _ [(0 : Int)] rfl (IsInts.new wr [(0 : Int)] _ _ _ rfl rfl rfl (by simp [maxLen])) (by rw [length_bins]; simp; omega) (by simp; omega) ?_
                     intro q' c' w1 hown1 hg1 hat1
                     have HP1 := Lib.hid (HP.out.appended (m := [false]) hg1 hown1 rfl)
                     clear hg1 hat1 hown1)
                  go_roundw
                  case rel => exact ⟨j + 1, l ++ [false], by omega, by go_num, HL2, HP1.out⟩
                  case measure => simp [intOf]; omega
        · obtain rfl : j = i := by omega
          have hl : l = T := by
            have := HL.out
            rw [Hnil.out] at this
            simpa [rowsB] using this
          rw [hl] at HP
          clear HL hl
          go_wp2_with fail
          refine (CO.out _ _ HP.out.own.is).mono ?_
          rintro e w5 ⟨rfl, hB⟩
          have hbx := heap_call hB HP.out.box
          have E6 : Env w w5 [] [(w.heap.size, #[.string ⟨#[]⟩, .int .i64 0], 27)] := ⟨⟨HP.out.bel.trans (hB.mono HP.out.bel.size), fun p hp => by simp at hp⟩, fun p hp => by simp at hp; subst hp; exact hbx⟩
          have HE6 := Lib.hid E6
          have k00 : w5.cell? ⟨w.heap.size, 0, none⟩ = some (.string ⟨#[]⟩) := E6.cellv 0 rfl 0 _ rfl
          have k01 : w5.cell? ⟨w.heap.size, 1, none⟩ = some (.int .i64 0) := E6.cellv 0 rfl 1 _ rfl
          have f00 : w5.frozen? ⟨w.heap.size, 0, none⟩ = false := E6.frozen 0 rfl 0
          have f01 : w5.frozen? ⟨w.heap.size, 1, none⟩ = false := E6.frozen 0 rfl 1
          have x0 : w.heap.size < w5.heap.size := E6.lt 0 rfl
          clear hB hbx E6 HP
          go_wp2_with fail
          refine bodyPost_ret (v := .tuple #[.agg #[.string (txt T), .int .i64 (T.length : Nat)], .int .i64 0]) ?_ rfl ⟨rfl, (HE6.out.set2 (Nat.le_refl _) (by simp) _ _).bel⟩
          simp [results, Try.results12, go_sem, k00, k01]
set_option maxRecDepth 100000 in
set_option maxHeartbeats 1600000 in
theorem rput_no (w : World) (v : Value) (xs : List Int) (hv : IsInts w w.heap.size v xs) (h : (manyF xs.length && !xs.any notMay) = false) :
    Calls Try.prog 12 #[v] w fun e w' => e = .returned (.tuple #[.agg #[.string ⟨#[]⟩, .int .i64 0], .int .i64 1]) ∧ Below w.heap.size w w' := by
  obtain ⟨A, ca, rfl, hc1, hc2⟩ := hv.shape
  unfold maxLen at hc2
  have E0 := Lib.hid ((Env.nil w).box #[.string ⟨#[]⟩, .int .i64 0] 27 _ rfl)
  obtain ⟨N, hN⟩ : ∃ N, xs.length = N := ⟨_, rfl⟩
  by_cases hm : 2 ≤ N ∧ N ≤ 258
  · have hany : xs.any notMay = true := by
      have : manyF xs.length = true := by simp [manyF]; omega
      rw [this] at h
      simpa using h
    have Hno : Hid (¬ ∀ i, i < N → ∃ x, xs[i]? = some x ∧ 1 ≤ x ∧ x ≤ 20) := fun hall => by
      obtain ⟨x, hx, hb⟩ := List.any_eq_true.1 hany
      obtain ⟨i, hi, rfl⟩ := List.getElem_of_mem hx
      obtain ⟨y, hy, h1, h2⟩ := hall i (by omega)
      rw [List.getElem?_eq_getElem hi] at hy
      obtain rfl : xs[i] = y := by simpa using hy
      simp [notMay, mayF] at hb
      omega
    have HN := Lib.hid hN
    rw [hN] at hc1 hv ⊢
    have Hv := Lib.hid hv
    clear h hany hv hN
    go_enter Try.func12, Try.ntmps12
    go_wp2
    have k00 : (w.alloc (.cells #[.string ⟨#[]⟩, .int .i64 0] 27)).cell? ⟨w.heap.size, 0, none⟩ = some (.string ⟨#[]⟩) := E0.out.cellv 0 rfl 0 _ rfl
    have k01 : (w.alloc (.cells #[.string ⟨#[]⟩, .int .i64 0] 27)).cell? ⟨w.heap.size, 1, none⟩ = some (.int .i64 0) := E0.out.cellv 0 rfl 1 _ rfl
    have f00 : (w.alloc (.cells #[.string ⟨#[]⟩, .int .i64 0] 27)).frozen? ⟨w.heap.size, 0, none⟩ = false := E0.out.frozen 0 rfl 0
    have f01 : (w.alloc (.cells #[.string ⟨#[]⟩, .int .i64 0] 27)).frozen? ⟨w.heap.size, 1, none⟩ = false := E0.out.frozen 0 rfl 1
    have x0 : w.heap.size < (w.alloc (.cells #[.string ⟨#[]⟩, .int .i64 0] 27)).heap.size := E0.out.lt 0 rfl
    obtain ⟨W, hW⟩ : ∃ W, w.alloc (.cells #[.string ⟨#[]⟩, .int .i64 0] 27) = W := ⟨_, rfl⟩
    rw [hW] at E0 k00 k01 f00 f01 x0 ⊢
    clear hW
    go_loop [4] (fun iv => ∃ i : Nat, i ≤ N ∧ iv = .int .i64 i ∧ Hid (∀ k, k < i → ∃ x, xs[k]? = some x ∧ 1 ≤ x ∧ x ≤ 20)) (fun iv => N + 1 - (intOf iv).toNat)
    case atStart => exact ⟨0, Nat.zero_le _, rfl, fun k hk => by omega⟩
    case round =>
      obtain ⟨i, hi, rfl, HI⟩ := hrel
      have hlt : i < N := by
        refine Nat.lt_of_le_of_ne hi fun e => ?_
        subst e
        exact Hno.out HI.out
      obtain ⟨x, hx⟩ : ∃ x, xs[i]? = some x := ⟨_, List.getElem?_eq_getElem (by rw [HN.out]; exact hlt)⟩
      obtain ⟨g, o, rfl, hg, hc⟩ := (E0.out.old Hv.out).at i (by rw [HN.out]; exact hlt)
      rw [hx, Option.getD_some] at hc
      by_cases hb : 1 ≤ x ∧ x ≤ 20
      · obtain ⟨hb1, hb2⟩ := hb
        have HI2 : Hid (∀ k, k < i + 1 → ∃ x, xs[k]? = some x ∧ 1 ≤ x ∧ x ≤ 20) := fun k hk => by
          by_cases e : k = i
          · subst e; exact ⟨x, hx, hb1, hb2⟩
          · exact HI.out k (by omega)
        clear HI hx
        go_wp2
        go_round
        case rel => exact ⟨i + 1, by omega, by go_num, HI2⟩
        case measure => simp [intOf]; omega
      · clear HI hx
        have hb' : x < 1 ∨ 20 < x := by omega
        clear hb
        rcases hb' with hb | hb
        all_goals
          go_wp2
          refine bodyPost_ret (v := .tuple #[.agg #[.string ⟨#[]⟩, .int .i64 0], .int .i64 1]) ?_ rfl ⟨rfl, (E0.out.set2 (Nat.le_refl _) (by simp) _ _).bel⟩
          simp [results, Try.results12, go_sem, k00, k01]
  · rw [hN] at hc1 ⊢
    have hm' : N < 2 ∨ 258 < N := by omega
    clear h hm hv
    go_enter Try.func12, Try.ntmps12
    rcases hm' with hm | hm
    all_goals
      go_wp2
      refine bodyPost_ret (v := .tuple #[.agg #[.string ⟨#[]⟩, .int .i64 0], .int .i64 1]) ?_ rfl ⟨rfl, E0.out.bel⟩
      simp [results, Try.results12, go_sem]
end Go.Proofs.Ytdngbmoippadhaa
