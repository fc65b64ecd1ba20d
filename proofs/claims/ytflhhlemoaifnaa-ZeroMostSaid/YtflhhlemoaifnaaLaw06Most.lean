/- ZeroMost: the walk. -/
import Derived.Test.YtflhhlemoaifnaaLaw06Digits
namespace Go.Proofs.Ytflhhlemoaifnaa
open Go.RowKit
set_option linter.unusedVariables false

theorem len_dec_step (m : List Int) (i : Nat) : (dec (m.drop i)).length = numD ((m.drop i).take (rowLen 1 (m.drop i))) + if i + rowLen 1 (m.drop i) < m.length then 1 + (dec (m.drop (i + rowLen 1 (m.drop i) + 1))).length else 0 := by
  have e := congrArg List.length (dec_row (m.drop i))
  rw [List.length_append, length_zeros, List.drop_drop] at e
  rw [e]
  congr 1
  generalize rowLen 1 (m.drop i) = r
  split
  · rename_i h
    rw [List.drop_eq_getElem_cons h]
    simp [decRest]; omega
  · rename_i h
    rw [List.drop_eq_nil_of_le (by omega)]; rfl

set_option maxRecDepth 100000 in
set_option maxHeartbeats 3200000 in
theorem zmost_walk (w : World) (v : Value) (raw : List Int) (most more : Int) (hr : IsInts w w.heap.size v raw) (hrb : I64s raw) (hm0 : -9223372036854775808 ≤ most) (hm1 : most ≤ 9223372036854775807) (ho0 : -9223372036854775808 ≤ more) (ho1 : more ≤ 9223372036854775807) :
    Calls Try.prog 8 #[v, .int .i64 most, .int .i64 more] w fun e w' => e = .returned (.bool true) ∧ Below w.heap.size w w' := by
  have HR := Lib.hid hr
  obtain ⟨A0, ca0, rfl, hc1, hc2⟩ := hr.shape
  have hp := pickF_lt most 400 (by omega)
  obtain ⟨n, hn⟩ : ∃ k : Nat, pickF most 400 = (k : Int) := ⟨(pickF most 400).toNat, by omega⟩
  have hn1 : n < 400 := by omega
  have hq := pickF_lt more 400 (by omega)
  obtain ⟨p, hpp⟩ : ∃ k : Nat, pickF more 400 = (k : Int) := ⟨(pickF more 400).toNat, by omega⟩
  have hp1 : p < 400 := by omega
  have Hn := Lib.hid hn
  have Hp := Lib.hid hpp
  have hfl := fewF_len raw 60 5
  have hfm := fewF_mem (raw := raw) (most := 60) (below := 5) (by omega)
  have CF : Hid (∀ W, IsInts W W.heap.size (.slice A0 raw.length ca0) raw → Calls Try.prog 13 #[.slice A0 raw.length ca0, .int .i64 60, .int .i64 5] W fun e w' => ∃ u, e = .returned u ∧ IsInts w' w'.heap.size u (fewF raw 60 5) ∧ Below W.heap.size W w') := fun W hv =>
    (few06_any W _ raw 60 5 hv hrb (by omega) (by omega) (by omega)).mono fun _ _ ⟨u, h1, h2, h3⟩ => ⟨u, h1, h2.is, h3⟩
  generalize fewF raw 60 5 = m at *
  have hi64 : I64s m := fun x hx => by have := hfm x hx; omega
  have hneg : negF m = false := by
    unfold negF
    rw [List.any_eq_false]
    intro x hx
    have := hfm x hx
    simp; omega
  have hdg : ∀ i, Dig ((m.drop i).take (rowLen 1 (m.drop i))) := fun i => dig_row fun x hx => (hfm x (List.mem_of_mem_drop hx)).1
  have Hdg := Lib.hid hdg
  have hstep := Lib.hid (len_dec_step m)
  obtain ⟨N, hN⟩ : ∃ N, m.length = N := ⟨_, rfl⟩
  obtain ⟨D, hD⟩ : ∃ D, dec m = D := ⟨_, rfl⟩
  have HD := Lib.hid hD
  have HN := Lib.hid hN
  have CD : Hid (∀ (v : Value) (mo : Nat) W, mo < 1000 → IsInts W W.heap.size v m → Calls Try.prog 19 #[v, .int .i64 (mo : Int)] W fun e w' => ∃ q c, e = .returned (.tuple #[.slice q (if (mo : Int) < D.length then ([] : List Int) else D).length c, .int .i64 (if (mo : Int) < D.length then 4 else 0)]) ∧ IsInts w' w'.heap.size (.slice q (if (mo : Int) < D.length then ([] : List Int) else D).length c) (if (mo : Int) < D.length then [] else D) ∧ Below W.heap.size W w') := fun v mo W hmo hv => by
    refine (decode_any W v m mo hv (by omega) hi64 (by omega) (by omega)).mono ?_
    rintro e w' ⟨u, rfl, ho, hB⟩
    obtain ⟨q, c, rfl⟩ := ho.shape
    simp only [decE, decV, hneg, hD] at ho ⊢
    exact ⟨q, c, rfl, ho.is, hB⟩
  have hml : m.length ≤ 60 := hfl
  rw [hN] at hml
  clear hp hn hq hpp hfl hfm hi64 hneg hN hD hr hrb hdg
  by_cases hlong : (n : Int) < D.length
  · have C1 : Hid (∀ (v : Value) W, IsInts W W.heap.size v m → Calls Try.prog 19 #[v, .int .i64 (n : Int)] W fun e w' => ∃ q c, e = .returned (.tuple #[.slice q 0 c, .int .i64 4]) ∧ Below W.heap.size W w') := fun v W hv => by
      refine (CD.out v n W (by omega) hv).mono ?_
      rintro e w' ⟨q, c, rfl, _, hB⟩
      rw [if_pos hlong, if_pos hlong]
      exact ⟨q, c, rfl, hB⟩
    go_enter Try.func8, Try.ntmps8
    have L0 := Lib.hid (Live.nil w)
    go_wp2_with fail
    refine (awake06_any _).mono ?_
    rintro e w1 ⟨rfl, hB⟩
    have L1 := Lib.hid (L0.out.step hB)
    clear L0 hB 
    go_wp2_with fail
    refine (CF.out _ (L1.out.old HR.out)).mono ?_
    rintro e w2 ⟨vm, rfl, hv, hB⟩
    obtain ⟨A, ca, rfl⟩ : ∃ q c, vm = .slice q N c := by obtain ⟨q, c, h, _⟩ := hv.shape; rw [HN.out] at h; exact ⟨q, c, h⟩
    have L2 := Lib.hid ((L1.out.step hB).add hv)
    clear L1 hB hv 
    go_wp2_with fail
    refine (pick06_any most 400 _ hm0 hm1 (by omega) (by omega)).mono ?_
    rintro e w_ ⟨rfl, rfl⟩
    rw [Hn.out]
    go_wp2_with fail
    refine (C1.out _ _ (L2.out.get 0 rfl)).mono ?_
    rintro e w3 ⟨q1, c1, rfl, hB⟩
    have L3 := Lib.hid (L2.out.step hB)
    clear L2 hB 
    go_wp2_with fail
    refine (pick06_any more 400 _ ho0 ho1 (by omega) (by omega)).mono ?_
    rintro e w_ ⟨rfl, rfl⟩
    rw [Hp.out]
    go_wp2_with fail
    refine (CD.out _ (n + p) _ (by omega) (L3.out.get 0 rfl)).mono ?_
    rintro e w4 ⟨q2, c2, rfl, hv, hB⟩
    have L4 := Lib.hid (L3.out.step hB)
    clear L3 hB hv
    go_wp2
    all_goals
      go_ret
      exact ⟨rfl, L4.out.bel⟩
  · have C1 : Hid (∀ (v : Value) (mo : Nat) W, mo < 1000 → n ≤ mo → IsInts W W.heap.size v m → Calls Try.prog 19 #[v, .int .i64 (mo : Int)] W fun e w' => ∃ q c, e = .returned (.tuple #[.slice q D.length c, .int .i64 0]) ∧ IsInts w' w'.heap.size (.slice q D.length c) D ∧ Below W.heap.size W w') := fun v mo W hmo hnm hv => by
      refine (CD.out v mo W hmo hv).mono ?_
      rintro e w' ⟨q, c, rfl, hv2, hB⟩
      rw [if_neg (by omega), if_neg (by omega)]
      rw [if_neg (by omega)] at hv2
      exact ⟨q, c, rfl, hv2, hB⟩
    clear CD
    have hDl : D.length ≤ n := by omega
    go_enter Try.func8, Try.ntmps8
    have L0 := Lib.hid (Live.nil w)
    go_wp2_with fail
    refine (awake06_any _).mono ?_
    rintro e w1 ⟨rfl, hB⟩
    have L1 := Lib.hid (L0.out.step hB)
    clear L0 hB 
    go_wp2_with fail
    refine (CF.out _ (L1.out.old HR.out)).mono ?_
    rintro e w2 ⟨vm, rfl, hv, hB⟩
    obtain ⟨A, ca, rfl⟩ : ∃ q c, vm = .slice q N c := by obtain ⟨q, c, h, _⟩ := hv.shape; rw [HN.out] at h; exact ⟨q, c, h⟩
    have L2 := Lib.hid ((L1.out.step hB).add hv)
    clear L1 hB hv 
    go_wp2_with fail
    refine (pick06_any most 400 _ hm0 hm1 (by omega) (by omega)).mono ?_
    rintro e w_ ⟨rfl, rfl⟩
    rw [Hn.out]
    go_wp2_with fail
    refine (C1.out _ n _ (by omega) (Nat.le_refl _) (L2.out.get 0 rfl)).mono ?_
    rintro e w3 ⟨q3, c3, rfl, hv, hB⟩
    have L3 := Lib.hid ((L2.out.step hB).add hv)
    clear L2 hB hv 
    go_wp2_with fail
    refine (pick06_any more 400 _ ho0 ho1 (by omega) (by omega)).mono ?_
    rintro e w_ ⟨rfl, rfl⟩
    rw [Hp.out]
    go_wp2_with fail
    refine (C1.out _ (n + p) _ (by omega) (by omega) (L3.out.get 1 rfl)).mono ?_
    rintro e w4 ⟨q4, c4, rfl, hv, hB⟩
    have L4 := Lib.hid ((L3.out.step hB).add hv)
    clear L3 hB hv C1
    go_wp2_with fail
    obtain ⟨dl, hdl⟩ : ∃ k, D.length = k := ⟨_, rfl⟩
    rw [hdl] at L4 hDl ⊢
    have Hdl := Lib.hid hdl
    clear hdl
    go_loopw [14, 15] (fun wv iv wr => ∃ want i : Nat, i ≤ N + 1 ∧ wv = .int .i64 want ∧ iv = .int .i64 i ∧ Hid (want + (dec (m.drop i)).length = dl) ∧ Live w wr [(.slice q4 dl c4, D), (.slice q3 dl c3, D), (.slice A N ca, m)]) (fun _ iv _ => N + 2 - (intOf iv).toNat)
    case atStart => exact ⟨0, 0, by omega, rfl, rfl, by show _ = _; rw [List.drop_zero, HD.out, Nat.zero_add, Hdl.out], L4.out⟩
    case round =>
      obtain ⟨want, i, hi, rfl, rfl, heq, hL⟩ := hrel
      have HL := Lib.hid hL
      obtain ⟨wq, rfl⟩ : ∃ x, x = wr := ⟨_, rfl⟩
      clear hL L4
      by_cases hlt : i < N
      · go_wp2
        go_loopw [16] (fun kv wk => ∃ k : Nat, i ≤ k ∧ k ≤ N ∧ kv = .int .i64 k ∧ Hid (∀ (j : Nat) x, i ≤ j → j < k → m[j]? = some x → x ≤ 1) ∧ ∃ nd, wk = wq.drewN nd) (fun kv _ => N + 1 - (intOf kv).toNat)
        case atStart => exact ⟨i, Nat.le_refl _, by omega, rfl, fun j x h1 h2 => by omega, 0, rfl⟩
        case round =>
          obtain ⟨k, hik, hkN, rfl, hall, nd, rfl⟩ := hrel
          have hexit : (∀ x, m[k]? = some x → 1 < x) → Hid (rowLen 1 (m.drop i) = k - i) := fun hx => by
            show _ = _
            refine rowLen_eq (by rw [List.length_drop, HN.out]; omega) (fun j x hj hxj => ?_) (fun x hxk => ?_)
            · rw [List.getElem?_drop] at hxj
              exact hall.out (i + j) x (by omega) (by omega) hxj
            · rw [List.getElem?_drop, show i + (k - i) = k by omega] at hxk
              exact hx x hxk
          have HX := Lib.hid hexit
          clear hexit
          have hvm := (HL.out.drewN nd).get 2 rfl
          by_cases hkl : k < N
          · obtain ⟨gb, o, rfl, hg, hc⟩ := hvm.at k (by rw [HN.out]; exact hkl)
            obtain ⟨x, hx⟩ : ∃ x, m[k]? = some x := ⟨_, List.getElem?_eq_getElem (by rw [HN.out]; exact hkl)⟩
            rw [hx] at hc
            simp only [Option.getD_some] at hc
            have Hx := Lib.hid hx
            clear hx hvm
            by_cases hx2 : x < 2
            · go_wp2
              go_roundw
              case rel => exact ⟨k + 1, by omega, by omega, by go_num, fun j y h1 h2 h3 => (by
                by_cases e : j = k
                · subst e; rw [Hx.out] at h3; injection h3 with h3; omega
                · exact hall.out j y h1 (by omega) h3), nd, rfl⟩
              case measure => simp [intOf]; omega
            · have hrow := HX.out (fun y hy => by rw [Hx.out] at hy; injection hy with hy; omega)
              obtain ⟨v2, hv2, ⟨q5, c5, rfl⟩, hsl, _, _⟩ := ((HL.out.drewN nd).get 2 rfl).cut i k hik hkN
              have e5 : (m.take k).drop i = (m.drop i).take (rowLen 1 (m.drop i)) := by rw [hrow.out, List.drop_take]
              rw [e5] at hv2
              have hst := hstep.out i
              rw [hrow.out, show i + (k - i) = k by omega, if_pos (by rw [HN.out]; exact hkl)] at hst
              have hnum := number_ok (.slice q5 (k - i) c5) _ (numD ((m.drop i).take (rowLen 1 (m.drop i)))) (wq.drewN nd) (Hdg.out i) rfl (by have := heq.out; rw [hrow.out]; omega) (by rw [List.length_take, List.length_drop, HN.out]; omega) hv2
              rw [hrow.out] at hnum
              obtain ⟨z, hz⟩ : ∃ z, numD ((m.drop i).take (k - i)) = z := ⟨_, rfl⟩
              rw [hz] at hnum hst
              have heq' : Hid ((want + z + 1) + (dec (m.drop (k + 1))).length = dl) := by show _ = _; rw [← heq.out]; omega
              have hwb : want + z + 1 ≤ 400 := by have := heq'.out; omega
              have Hnum := Lib.hid hnum
              have HL2 := Lib.hid (HL.out.drewN nd)
              clear hrow hv2 e5 hst hnum hz heq hall HX
              go_wp2_with fail
              refine Hnum.out.mono ?_
              rintro e w6 ⟨rfl, hB6⟩
              have L6 := Lib.hid (HL2.out.step hB6)
              clear hB6 Hnum HL HL2
              go_wp2
              go_roundw
              case rel => exact ⟨want + z + 1, k + 1, by omega, by go_num, by go_num, heq', L6.out⟩
              case measure => simp [intOf]; omega
          · obtain rfl : k = N := by omega
            have hrow := HX.out (fun y hy => by rw [List.getElem?_eq_none (by rw [HN.out]; exact Nat.le_refl _)] at hy; cases hy)
            obtain ⟨v2, hv2, ⟨q5, c5, rfl⟩, hsl, _, _⟩ := hvm.cut i k hik (Nat.le_refl _)
            have e5 : (m.take k).drop i = (m.drop i).take (rowLen 1 (m.drop i)) := by rw [hrow.out, List.drop_take]
            rw [e5] at hv2
            have hst := hstep.out i
            rw [hrow.out, show i + (k - i) = k by omega, if_neg (by rw [HN.out]; omega)] at hst
            have hnum := number_ok (.slice q5 (k - i) c5) _ (numD ((m.drop i).take (rowLen 1 (m.drop i)))) (wq.drewN nd) (Hdg.out i) rfl (by have := heq.out; rw [hrow.out]; omega) (by rw [List.length_take, List.length_drop, HN.out]; omega) hv2
            rw [hrow.out] at hnum
            obtain ⟨z, hz⟩ : ∃ z, numD ((m.drop i).take (k - i)) = z := ⟨_, rfl⟩
            rw [hz] at hnum hst
            have heq' : Hid ((want + z) + (dec (m.drop (k + 1))).length = dl) := by
              show _ = _
              rw [← heq.out, List.drop_eq_nil_of_le (by rw [HN.out]; omega)]
              have : (dec []).length = 0 := rfl
              omega
            have hwb : want + z ≤ 400 := by have := heq'.out; omega
            have Hnum := Lib.hid hnum
            have HL2 := Lib.hid (HL.out.drewN nd)
            clear hrow hv2 e5 hst hnum hz heq hall HX hvm
            go_wp2_with fail
            refine Hnum.out.mono ?_
            rintro e w6 ⟨rfl, hB6⟩
            have L6 := Lib.hid (HL2.out.step hB6)
            clear hB6 Hnum HL HL2
            go_wp2
            go_roundw
            case rel => exact ⟨want + z, k + 1, by omega, by go_num, by go_num, heq', L6.out⟩
            case measure => simp [intOf]; omega
      · have hwant : want = dl := by
          have := heq.out
          rw [List.drop_eq_nil_of_le (by rw [HN.out]; omega)] at this
          exact this
        subst hwant
        clear heq
        go_wp2_with fail
        refine (aw_ints _ _ _ D (HL.out.get 1 rfl) (HL.out.get 0 rfl) (by rw [Hdl.out]; omega)).mono ?_
        rintro e w6 ⟨rfl, hB6⟩
        have L6 := Lib.hid (HL.out.step hB6)
        clear hB6 HL
        go_wp2
        go_ret
        exact ⟨rfl, L6.out.bel⟩
end Go.Proofs.Ytflhhlemoaifnaa
