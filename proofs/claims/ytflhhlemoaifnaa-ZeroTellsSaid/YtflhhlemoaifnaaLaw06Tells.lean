/- ZeroTells: the walk. -/
import Derived.Test.YtflhhlemoaifnaaRef06b
import Derived.Test.YtflhhlemoaifnaaAwake06
namespace Go.Proofs.Ytflhhlemoaifnaa
open Go.RowKit
set_option linter.unusedVariables false

/-- the first k of a row, none above 2^50 -/
def someF (l : List Int) (k : Nat) : List Int := (l.take k).map fun x => if 1125899906842624 < x then 1125899906842624 else x
theorem someF_len (l : List Int) (k : Nat) : (someF l k).length ≤ k := by simp [someF]; omega
theorem someF_succ (l : List Int) (k : Nat) (x : Int) (h : l[k]? = some x) : someF l (k + 1) = someF l k ++ [if 1125899906842624 < x then 1125899906842624 else x] := by
  unfold someF
  rw [List.take_add_one, h, List.map_append]; rfl
theorem someF_i64 {l : List Int} {k : Nat} (h : I64s l) : I64s (someF l k) := by
  intro y hy
  simp only [someF, List.mem_map] at hy
  obtain ⟨x, hx, rfl⟩ := hy
  have := h x (List.mem_of_mem_take hx)
  split <;> omega
theorem few_small (raw : List Int) (b : Int) (h0 : 0 < b) (h1 : b ≤ 1000000) : (fewF raw 60 b).length ≤ 60 ∧ I64s (fewF raw 60 b) :=
  ⟨fewF_len raw 60 b, fun x hx => by have := fewF_mem h0 x hx; omega⟩
theorem aw_digN (W : World) (n : Int) (h1 : -9223372036854775808 ≤ n) (h2 : n ≤ 1125899906842624) : Calls Try.prog 11 #[.int .i64 n] W fun e w' => ∃ v, e = .returned v ∧ IsInts w' w'.heap.size v (digs n.toNat) ∧ Below W.heap.size W w' :=
  (digits_any n W h1 (by omega)).mono fun _ _ ⟨u, h1, h2, h3⟩ => ⟨u, h1, h2.is, h3⟩
theorem refDigN (W : World) (n : Int) (h1 : -9223372036854775808 ≤ n) (h2 : n ≤ 1125899906842624) : Calls Try.prog 12 #[.int .i64 n] W fun e w' => ∃ v, e = .returned v ∧ IsInts w' w'.heap.size v (digs n.toNat) ∧ Below W.heap.size W w' :=
  (refDigits_any n W h1 (by omega)).mono fun _ _ ⟨u, h1, h2, h3⟩ => ⟨u, h1, h2.is, h3⟩

set_option maxRecDepth 100000 in
set_option maxHeartbeats 12800000 in
theorem ztells_walk (w : World) (n most : Int) (v1 v2 : Value) (l raw : List Int) (hn0 : -9223372036854775808 ≤ n) (hn1 : n ≤ 9223372036854775807) (hl : IsInts w w.heap.size v1 l) (hlb : I64s l) (hr : IsInts w w.heap.size v2 raw) (hrb : I64s raw) (hm0 : -9223372036854775808 ≤ most) (hm1 : most ≤ 9223372036854775807) :
    Calls Try.prog 3 #[.int .i64 n, v1, v2, .int .i64 most] w fun e w' => e = .returned (.bool true) ∧ Below w.heap.size w w' := by
  have HR := Lib.hid hr
  have HL := Lib.hid hl
  obtain ⟨A0, ca0, rfl, hc1, hc2⟩ := hr.shape
  obtain ⟨A1, ca1, rfl, hc3, hc4⟩ := hl.shape
  have hmq := pickF_lt most 200 (by omega)
  obtain ⟨mp, hmp⟩ : ∃ k : Nat, pickF most 200 = (k : Int) := ⟨(pickF most 200).toNat, by omega⟩
  have hmp1 : mp < 200 := by omega
  have Hmp := Lib.hid hmp
  obtain ⟨nm, hnm⟩ : ∃ k : Int, (if 1125899906842624 < n then 1125899906842624 else n) = k := ⟨_, rfl⟩
  have hnm0 : -9223372036854775808 ≤ nm := by rw [← hnm]; split <;> omega
  have hnm1 : nm ≤ 1125899906842624 := by rw [← hnm]; split <;> omega
  obtain ⟨m1, hm1e⟩ : ∃ k : Int, (if 100000 < most then 100000 else most) = k := ⟨_, rfl⟩
  have hm10 : -9223372036854775808 ≤ m1 := by rw [← hm1e]; split <;> omega
  have hm11 : m1 ≤ 100000 := by rw [← hm1e]; split <;> omega
  have CF2 : Hid (∀ W, IsInts W W.heap.size (.slice A0 raw.length ca0) raw → Calls Try.prog 13 #[.slice A0 raw.length ca0, .int .i64 60, .int .i64 2] W fun e w' => ∃ u, e = .returned u ∧ IsInts w' w'.heap.size u (fewF raw 60 2) ∧ Below W.heap.size W w') := fun W hv =>
    (few06_any W _ raw 60 2 hv hrb (by omega) (by omega) (by omega)).mono fun _ _ ⟨u, h1, h2, h3⟩ => ⟨u, h1, h2.is, h3⟩
  have CF5 : Hid (∀ W, IsInts W W.heap.size (.slice A0 raw.length ca0) raw → Calls Try.prog 13 #[.slice A0 raw.length ca0, .int .i64 60, .int .i64 5] W fun e w' => ∃ u, e = .returned u ∧ IsInts w' w'.heap.size u (fewF raw 60 5) ∧ Below W.heap.size W w') := fun W hv =>
    (few06_any W _ raw 60 5 hv hrb (by omega) (by omega) (by omega)).mono fun _ _ ⟨u, h1, h2, h3⟩ => ⟨u, h1, h2.is, h3⟩
  obtain ⟨N, hNl⟩ : ∃ N, l.length = N := ⟨_, rfl⟩
  rw [hNl] at hc3 HL ⊢
  have HNl := Lib.hid hNl
  clear hmq hmp hr hl hNl
  obtain ⟨M, hM, hM1⟩ : ∃ M, M = min N 60 ∧ M ≤ N := ⟨_, rfl, by omega⟩
  have hM2 : M ≤ 60 := by omega
  have hMc : M = N ∨ (M = 60 ∧ 60 < N) := by omega
  clear hM
  go_enter Try.func3, Try.ntmps3
  rcases hMc with hMN | ⟨hM6, hMN⟩
  all_goals
    go_wp2_with fail
    refine (awake06_any _).mono ?_
    rintro e w1 ⟨rfl, hB⟩
    have L1 := Lib.hid ((Live.nil w).step hB)
    clear hB
    go_wp2
    go_loopw [10, 11] (fun ov iv wr => ∃ i : Nat, i ≤ M ∧ iv = .int .i64 i ∧ OwnInts wr w1.heap.size ov (someF l i) ∧ Below w1.heap.size w1 wr) (fun _ iv _ => M + 1 - (intOf iv).toNat)
    case atStart => exact ⟨0, Nat.zero_le _, rfl, OwnInts.nil _ _, Below.refl _ _⟩
    case round =>
      obtain ⟨i, hi, rfl, hown, hB⟩ := hrel
      have Hown := Lib.hid hown
      have hzB := hB.size
      have hsl := someF_len l i
      clear hown
      by_cases hlt : i < M
      · obtain ⟨g, o, rfl, hg, hc⟩ := HL.out.at i (by rw [HNl.out]; omega)
        obtain ⟨x, hx⟩ : ∃ x, l[i]? = some x := ⟨_, List.getElem?_eq_getElem (by rw [HNl.out]; omega)⟩
        rw [hx] at hc
        simp only [Option.getD_some] at hc
        have hc' : wr.cell? ⟨g, o + i, none⟩ = some (.int .i64 x) := ((L1.out.step hB).bel.cell (p := ⟨g, o + i, none⟩) hg).trans hc
        obtain ⟨y, hy⟩ : ∃ y, (if 1125899906842624 < x then 1125899906842624 else x) = y := ⟨_, rfl⟩
        have hsn : Hid (someF l (i + 1) = someF l i ++ [y]) := by show _ = _; rw [someF_succ l i x hx, hy]
        have hltN : i < N := by omega
        have hlt60 : i < 60 := by omega
        clear hc hx
        go_wp2_with
          (at_builtin
           refine wpList_append_ints rfl _ _ rfl w1.heap.size _ (someF l i) rfl (Hown.out.alloc _) (wr.heap.size + 1) _ [y] rfl (IsInts.new wr [y] _ _ _ rfl rfl rfl (by simp [maxLen])) (by simp; omega) (by simp; omega) ?_
           intro q4 c4 w4 hown4 hg4 hat4
           have Hown4 := Lib.hid hown4
           have hBw4 : Below w1.heap.size w1 w4 := (hB.alloc hzB _).grown hg4 (by simp; omega) (fun k hk => own_ge Hown.out hk)
           clear hg4 hat4 hown4)
        go_roundw
        case rel => exact ⟨i + 1, by omega, by go_num, by rw [hsn.out]; exact Hown4.out, hBw4⟩
        case measure => simp [intOf]; omega
      · obtain rfl : i = M := by omega
        obtain ⟨S, hSd⟩ : ∃ S, someF l i = S := ⟨_, rfl⟩
        have hS : S.length ≤ 60 ∧ I64s S := by rw [← hSd]; exact ⟨by omega, someF_i64 hlb⟩
        rw [hSd] at Hown
        have LS := Lib.hid (L1.out.ret Hown.out hB)
        clear hSd hsl hB Hown L1 hzB
        have hS2 := Lib.hid hS
        clear hS
        go_wp2_with fail
        refine (aw_digN _ nm hnm0 hnm1).mono ?_
        rintro e w2 ⟨v2, rfl, hv, hB⟩
        have L2 := Lib.hid ((LS.out.step hB).add hv)
        clear hv hB LS
        go_wp2_with fail
        refine (refDigN _ nm hnm0 hnm1).mono ?_
        rintro e w3 ⟨v3, rfl, hv, hB⟩
        have L3 := Lib.hid ((L2.out.step hB).add hv)
        clear hv hB L2
        go_wp2_with fail
        refine (aw_ints _ _ _ (digs nm.toNat) (L3.out.get 1 rfl) (L3.out.get 0 rfl) (by have := length_digs_64 nm.toNat (by omega); omega)).mono ?_
        rintro e w4 ⟨rfl, hB⟩
        have L4 := Lib.hid ((L3.out.step hB).drop (m := [(u10, S)]) (by simp))
        clear hB L3 hnm
        go_wp2_with fail
        refine (CF2.out _ (L4.out.old HR.out)).mono ?_
        rintro e w5 ⟨vf, rfl, hv, hB⟩
        have L5 := Lib.hid ((L4.out.step hB).add hv)
        clear hv hB L4
        go_wp2_with fail
        refine (CF5.out _ (L5.out.old HR.out)).mono ?_
        rintro e w6 ⟨vg, rfl, hv, hB⟩
        have L6 := Lib.hid ((L5.out.step hB).add hv)
        clear hv hB L5 HR CF2 CF5
        obtain ⟨As, cs, rfl⟩ : ∃ q c, u10 = .slice q S.length c := by obtain ⟨q, c, h, _⟩ := (L6.out.get 2 rfl).shape; exact ⟨q, c, h⟩
        obtain ⟨Af, cf, rfl⟩ : ∃ q c, vf = .slice q (fewF raw 60 2).length c := by obtain ⟨q, c, h, _⟩ := (L6.out.get 1 rfl).shape; exact ⟨q, c, h⟩
        obtain ⟨Ag, cg, rfl⟩ : ∃ q c, vg = .slice q (fewF raw 60 5).length c := by obtain ⟨q, c, h, _⟩ := (L6.out.get 0 rfl).shape; exact ⟨q, c, h⟩
        go_wp2_with fail
        obtain ⟨wl, hwl⟩ : ∃ x, w6.alloc (.cells #[.slice As S.length cs, .slice Af (fewF raw 60 2).length cf, .slice Ag (fewF raw 60 5).length cg] 22) = x := ⟨_, rfl⟩
        have hfl : wl.heap[w6.heap.size]? = some (.cells #[.slice As S.length cs, .slice Af (fewF raw 60 2).length cf, .slice Ag (fewF raw 60 5).length cg] 22 (0, 0)) := by rw [← hwl]; exact heap_alloc_new w6 _
        have q0 : wl.cell? ⟨w6.heap.size, 0, none⟩ = some (.slice As S.length cs) := cell_of_heap hfl 0
        have q1 : wl.cell? ⟨w6.heap.size, 1, none⟩ = some (.slice Af (fewF raw 60 2).length cf) := cell_of_heap hfl 1
        have q2 : wl.cell? ⟨w6.heap.size, 2, none⟩ = some (.slice Ag (fewF raw 60 5).length cg) := cell_of_heap hfl 2
        have hzl : wl.heap.size = w6.heap.size + 1 := by rw [← hwl]; simp
        have LL : Hid (Live w wl [(.slice Ag (fewF raw 60 5).length cg, fewF raw 60 5), (.slice Af (fewF raw 60 2).length cf, fewF raw 60 2), (.slice As S.length cs, S)]) := by show Live _ _ _; rw [← hwl]; exact L6.out.alloc _
        have Q0 := Lib.hid q0
        have Q1 := Lib.hid q1
        have Q2 := Lib.hid q2
        have Hzl := Lib.hid hzl
        rw [hwl]
        clear hwl hfl q0 q1 q2 hzl L6
        obtain ⟨bl, hbl⟩ : ∃ b, w6.heap.size = b := ⟨_, rfl⟩
        rw [hbl] at Q0 Q1 Q2 Hzl ⊢
        clear hbl
        go_loopw [62] (fun jv wr => ∃ j : Nat, j ≤ 3 ∧ jv = .int .i64 j ∧ Below wl.heap.size wl wr) (fun jv _ => 4 - (intOf jv).toNat)
        case atStart => exact ⟨0, by omega, rfl, Below.refl _ _⟩
        case round =>
          obtain ⟨j, hj, rfl, hBr⟩ := hrel
          obtain ⟨wq, rfl⟩ : ∃ x, x = wr := ⟨_, rfl⟩
          by_cases hlt : j < 3
          · obtain ⟨X, vx, hX, Hvx, hcx⟩ : ∃ (X : List Int) (vx : Value), (X.length ≤ 60 ∧ I64s X) ∧ Hid (IsInts wl wl.heap.size vx X) ∧ wq.cell? ⟨bl, j, none⟩ = some vx := by
              rcases (show j = 0 ∨ j = 1 ∨ j = 2 by omega) with rfl | rfl | rfl
              · exact ⟨S, _, hS2.out, LL.out.get 2 rfl, (hBr.cell (p := ⟨bl, 0, none⟩) (by have := Hzl.out; simp; omega)).trans Q0.out⟩
              · exact ⟨fewF raw 60 2, _, few_small raw 2 (by omega) (by omega), LL.out.get 1 rfl, (hBr.cell (p := ⟨bl, 1, none⟩) (by have := Hzl.out; simp; omega)).trans Q1.out⟩
              · exact ⟨fewF raw 60 5, _, few_small raw 5 (by omega) (by omega), LL.out.get 0 rfl, (hBr.cell (p := ⟨bl, 2, none⟩) (by have := Hzl.out; simp; omega)).trans Q2.out⟩
            obtain ⟨Ax, nx, cx, rfl⟩ : ∃ q n c, vx = .slice q n c := by obtain ⟨q, c, h, _⟩ := Hvx.out.shape; exact ⟨q, _, c, h⟩
            have hlX := hX.1
            have hXi := Lib.hid hX.2
            have LQ : Hid (Live wl wq [((.slice Ax nx cx), X)]) := ⟨hBr, fun p hp => by
              rcases List.mem_cons.1 hp with rfl | hp
              · exact (Hvx.out.below hBr (Nat.le_refl _)).mono hBr.size
              · simp at hp⟩
            have hEl : (encV X).length ≤ 281474976710656 := by
              have := enc_len X
              unfold encV
              split
              · simp
              · omega
            clear hBr hX
            go_wp2_with fail
            refine (encode_any _ (.slice Ax nx cx) X (LQ.out.get 0 rfl) (by omega)).mono ?_
            rintro e w2 ⟨u1, rfl, ho1, hB⟩
            have L2 := Lib.hid (LQ.out.ret ho1 hB)
            clear LQ ho1 hB
            go_wp2_with fail
            refine (refEncode_any _ (.slice Ax nx cx) X (L2.out.get 1 rfl) (by omega) hXi.out).mono ?_
            rintro e w3 ⟨u2, rfl, ho2, hB⟩
            have L3 := Lib.hid (L2.out.ret ho2 hB)
            clear L2 ho2 hB
            go_wp2_with fail
            refine (number_any (.slice Ax nx cx) X _ (L3.out.get 2 rfl) (by omega)).mono ?_
            rintro e w4 ⟨rfl, hB⟩
            have L4 := Lib.hid (L3.out.step hB)
            clear L3 hB
            go_wp2_with fail
            refine (refNumber_any _ (.slice Ax nx cx) X (L4.out.get 2 rfl) (by omega)).mono ?_
            rintro e w_ ⟨rfl, rfl⟩
            generalize encE X = E1 at *
            generalize numV X = V1 at *
            generalize numE X = N1 at *
            go_wp2_with fail
            refine (aw_ints _ _ _ (encV X) (L4.out.get 1 rfl) (L4.out.get 0 rfl) hEl).mono ?_
            rintro e w5 ⟨rfl, hB⟩
            have L5 := Lib.hid ((L4.out.step hB).drop (m := [((.slice Ax nx cx), X)]) (by simp))
            clear L4 hB hEl
            go_wp2_with fail
            refine (pick06_any most 200 _ hm0 hm1 (by omega) (by omega)).mono ?_
            rintro e w_ ⟨rfl, rfl⟩
            rw [Hmp.out]
            go_wp2_with fail
            obtain ⟨wi, hwi⟩ : ∃ x, w5.alloc (.cells #[.int .i64 m1, .int .i64 (mp : Int)] 3) = x := ⟨_, rfl⟩
            have hfi : wi.heap[w5.heap.size]? = some (.cells #[.int .i64 m1, .int .i64 (mp : Int)] 3 (0, 0)) := by rw [← hwi]; exact heap_alloc_new w5 _
            have p0 : wi.cell? ⟨w5.heap.size, 0, none⟩ = some (.int .i64 m1) := cell_of_heap hfi 0
            have p1 : wi.cell? ⟨w5.heap.size, 1, none⟩ = some (.int .i64 (mp : Int)) := cell_of_heap hfi 1
            have hzi : wi.heap.size = w5.heap.size + 1 := by rw [← hwi]; simp
            have L6 : Hid (Live wl wi [((.slice Ax nx cx), X)]) := by show Live _ _ _; rw [← hwi]; exact L5.out.alloc _
            have P0 := Lib.hid p0
            have P1 := Lib.hid p1
            have Hzi := Lib.hid hzi
            rw [hwi]
            clear hwi hfi p0 p1 hzi L5
            obtain ⟨bi, hbi⟩ : ∃ b, w5.heap.size = b := ⟨_, rfl⟩
            rw [hbi] at P0 P1 Hzi ⊢
            clear hbi
            go_loopw [111] (fun kv wr => ∃ k : Nat, k ≤ 2 ∧ kv = .int .i64 k ∧ Below wi.heap.size wi wr) (fun kv _ => 3 - (intOf kv).toNat)
            case atStart => exact ⟨0, by omega, rfl, Below.refl _ _⟩
            case round =>
              obtain ⟨k, hk, rfl, hBk⟩ := hrel
              by_cases hk2 : k < 2
              · obtain ⟨mm, hmm0, hmm1, hcell⟩ : ∃ mm : Int, -9223372036854775808 ≤ mm ∧ mm ≤ 100000 ∧ wr.cell? ⟨bi, k, none⟩ = some (.int .i64 mm) := by
                  rcases (show k = 0 ∨ k = 1 by omega) with rfl | rfl
                  · exact ⟨m1, hm10, hm11, (hBk.cell (p := ⟨bi, 0, none⟩) (by have := Hzi.out; simp; omega)).trans P0.out⟩
                  · exact ⟨(mp : Int), by omega, by omega, (hBk.cell (p := ⟨bi, 1, none⟩) (by have := Hzi.out; simp; omega)).trans P1.out⟩
                have LK := Lib.hid ((Live.add (Live.nil wi) (L6.out.get 0 rfl)).step hBk)
                have hDl : (decV X mm).length ≤ 281474976710656 := by
                  unfold decV
                  split
                  · simp
                  · split
                    · simp
                    · omega
                clear hBk
                go_wp2_with fail
                refine (decode_any _ (.slice Ax nx cx) X mm (LK.out.get 0 rfl) (by omega) hXi.out hmm0 (by omega)).mono ?_
                rintro e w7 ⟨u3, rfl, ho3, hB⟩
                have L7 := Lib.hid (LK.out.ret ho3 hB)
                clear LK ho3 hB hcell
                go_wp2_with fail
                refine (refDecode_any _ (.slice Ax nx cx) X mm (L7.out.get 1 rfl) (by omega) hXi.out hmm0 (by omega)).mono ?_
                rintro e w8 ⟨u4, rfl, ho4, hB⟩
                have L8 := Lib.hid (L7.out.ret ho4 hB)
                clear L7 ho4 hB
                generalize decE X mm = E2 at *
                go_wp2_with fail
                refine (aw_ints _ _ _ (decV X mm) (L8.out.get 1 rfl) (L8.out.get 0 rfl) hDl).mono ?_
                rintro e w9 ⟨rfl, hB⟩
                have L9 := Lib.hid (L8.out.step hB)
                clear L8 hB hDl
                go_wp2
                go_roundw
                case rel => exact ⟨k + 1, by omega, by go_num, L9.out.bel⟩
                case measure => simp [intOf]; omega
              · obtain rfl : k = 2 := by omega
                have LZ := Lib.hid (L6.out.step hBk)
                clear hBk
                go_wp2
                go_roundw
                case rel => exact ⟨j + 1, by omega, by go_num, LZ.out.bel⟩
                case measure => simp [intOf]; omega
          · obtain rfl : j = 3 := by omega
            have hBw := LL.out.bel.trans (hBr.mono LL.out.size)
            go_wp2
            go_ret
            exact ⟨rfl, hBw⟩
end Go.Proofs.Ytflhhlemoaifnaa
