/- The document's own answer for layer 6: Encode, Decode: contracts. -/
import Derived.Test.YtflhhlemoaifnaaRef06
namespace Go.Proofs.Ytflhhlemoaifnaa
open Go.RowKit
set_option linter.unusedVariables false

theorem enc_head (l : List Int) (h : ∀ x, l[0]? = some x → 0 < x) : enc l = encRest l := by
  cases l with
  | nil => simp [enc, encA, digs_zero, encRest]
  | cons x l =>
    have := h x rfl
    rw [enc, encA, if_neg (by omega), digs_zero]; rfl

set_option maxRecDepth 100000 in
set_option maxHeartbeats 3200000 in
theorem refEncode_any (w : World) (v : Value) (xs : List Int) (hv : IsInts w w.heap.size v xs) (hlen : xs.length ≤ 1099511627776) (hi64 : I64s xs) :
    Calls Try.prog 15 #[v] w fun e w' => ∃ u, e = .returned (.tuple #[u, .int .i64 (encE xs)]) ∧ OwnInts w' w.heap.size u (encV xs) ∧ Below w.heap.size w w' := by
  have C1 := Lib.hid (refBelow_any w v xs hv (by omega))
  obtain ⟨A, ca, rfl, hc1, hc2⟩ := hv.shape
  obtain ⟨b1, hb1⟩ : ∃ b, negF xs = b := ⟨_, rfl⟩
  rw [hb1] at C1
  have Hb1 := Lib.hid hb1
  obtain ⟨N, hN⟩ : ∃ N, xs.length = N := ⟨_, rfl⟩
  rw [hN] at hv hc1 hlen C1 ⊢
  have HN := Lib.hid hN
  have Hv := Lib.hid hv
  have Hi := Lib.hid hi64
  clear hb1 hv hN hi64
  go_enter Try.func15, Try.ntmps15
  go_wp2_with fail
  refine C1.out.mono ?_
  rintro e w1 ⟨rfl, rfl⟩
  cases b1 with
  | true =>
    go_wp2
    go_ret2
    exact ⟨.slice none 0 0, by rw [encE, Hb1.out]; rfl, by rw [encV, Hb1.out]; exact OwnInts.nil _ _, Below.refl _ _⟩
  | false =>
    clear C1
    go_wp2
    go_loop [4] (fun iv => ∃ i : Nat, i ≤ N ∧ iv = .int .i64 i ∧ Hid (∀ (j : Nat) y, j < i → xs[j]? = some y → y ≤ 1099511627776)) (fun iv => N + 1 - (intOf iv).toNat)
    case atStart => exact ⟨0, Nat.zero_le _, rfl, fun j y h => by omega⟩
    case round =>
      obtain ⟨i, hi, rfl, hall⟩ := hrel
      by_cases hlt : i < N
      · obtain ⟨g, o, rfl, hg, hc⟩ := Hv.out.at i (by rw [HN.out]; exact hlt)
        obtain ⟨x, hx⟩ : ∃ x, xs[i]? = some x := ⟨_, List.getElem?_eq_getElem (by rw [HN.out]; exact hlt)⟩
        rw [hx] at hc
        simp only [Option.getD_some] at hc
        have Hx := Lib.hid hx
        clear hx
        by_cases hbig : 1099511627776 < x
        · have hb : Hid (bigF xs = true) := any_of_at (p := fun x => decide (1099511627776 < x)) Hx.out (by simpa using hbig)
          go_wp2
          go_ret2
          exact ⟨.slice none 0 0, by rw [encE, Hb1.out, hb.out]; rfl, by rw [encV, Hb1.out, hb.out]; exact OwnInts.nil _ _, Below.refl _ _⟩
        · go_wp2
          go_round
          case rel => exact ⟨i + 1, by omega, by go_num, fun j y hj hy => (by
            by_cases e : j = i
            · subst e; rw [Hx.out] at hy; injection hy with hy; subst hy; omega
            · exact hall.out j y (by omega) hy)⟩
          case measure => simp [intOf]; omega
      · obtain rfl : i = N := by omega
        have hbf : bigF xs = false := any_none (p := fun x => decide (1099511627776 < x)) fun j y hy => by
          have := hall.out j y (by rw [← HN.out]; exact (List.getElem?_eq_some_iff.1 hy).1) hy
          simpa using this
        have HE : Hid (encE xs = 0) := by show _ = _; rw [encE, Hb1.out, hbf]; rfl
        have HV : Hid (encV xs = enc xs) := by show _ = _; rw [encV, Hb1.out, hbf]; rfl
        have hels : Hid (∀ x ∈ xs, 0 ≤ x ∧ x ≤ 1099511627776) := fun x hx => by
          obtain ⟨j, hj⟩ := List.getElem?_of_mem hx
          have h1 := hall.out j x (by rw [← HN.out]; exact (List.getElem?_eq_some_iff.1 hj).1) hj
          have h2 := Hb1.out
          unfold negF at h2
          rw [List.any_eq_false] at h2
          have := h2 x hx
          simp at this
          omega
        have hel := Lib.hid (enc_len xs)
        obtain ⟨N, rfl⟩ : ∃ N, N = i := ⟨_, rfl⟩
        clear hbf hall hi hlt
        go_wp2
        go_loopw [5, 6] (fun ov iv wr => ∃ (i : Nat) (done : List Int), i ≤ N ∧ iv = .int .i64 i ∧ OwnInts wr w.heap.size ov done ∧ Hid (done ++ enc (xs.drop i) = enc xs) ∧ Below w.heap.size w wr) (fun _ iv _ => N + 1 - (intOf iv).toNat)
        case atStart => exact ⟨0, [], by omega, rfl, OwnInts.nil _ _, rfl, Below.refl _ _⟩
        case round =>
          obtain ⟨i, done, hi, rfl, hown, heq, hB⟩ := hrel
          have Hown := Lib.hid hown
          have hzB := hB.size
          have hdl : done.length ≤ 1099511627776 := by
            have h1 := hel.out
            have h2 := congrArg List.length heq.out
            rw [List.length_append] at h2
            rw [HN.out] at h1
            omega
          obtain ⟨wq, rfl⟩ : ∃ x, x = wr := ⟨_, rfl⟩
          clear hown
          by_cases hlt : i < N
          · go_wp2
            go_loop [7] (fun nv => ∃ n : Nat, i + n ≤ N ∧ nv = .int .i64 n ∧ Hid (∀ (j : Nat) y, i ≤ j → j < i + n → xs[j]? = some y → y ≤ 0)) (fun nv => N + 1 - (intOf nv).toNat)
            case atStart => exact ⟨0, by omega, rfl, fun j y h1 h2 => by omega⟩
            case round =>
              obtain ⟨n, hin, rfl, hall⟩ := hrel
              have hexit : (∀ x, xs[i + n]? = some x → 0 < x) → Hid (rowLen 0 (xs.drop i) = n) := fun hx => by
                show _ = _
                refine rowLen_eq (by rw [List.length_drop, HN.out]; omega) (fun j x hj hxj => ?_) (fun x hxk => ?_)
                · rw [List.getElem?_drop] at hxj
                  exact hall.out (i + j) x (by omega) (by omega) hxj
                · rw [List.getElem?_drop] at hxk
                  exact hx x hxk
              have HX := Lib.hid hexit
              clear hexit
              by_cases hkl : i + n < N
              · have hkl0 : 0 ≤ (i : Int) + n := by omega
                have hkl1 : (i : Int) + n < (N : Int) := by omega
                have hkl2 : ((i : Int) + n).toNat = i + n := by omega
                obtain ⟨g, o, rfl, hg, hc⟩ := Hv.out.at (i + n) (by rw [HN.out]; exact hkl)
                obtain ⟨x, hx⟩ : ∃ x, xs[(i + n)]? = some x := ⟨_, List.getElem?_eq_getElem (by rw [HN.out]; exact hkl)⟩
                rw [hx] at hc
                simp only [Option.getD_some] at hc
                have hc' : wq.cell? ⟨g, o + (i + n), none⟩ = some (.int .i64 x) := (hB.cell (p := ⟨g, o + (i + n), none⟩) hg).trans hc
                have Hx := Lib.hid hx
                have HC := Lib.hid hc
                clear hx hc
                have hx0 := hels.out x (List.mem_of_getElem? Hx.out)
                by_cases hxz : x = 0
                · subst hxz
                  go_wp2
                  go_round
                  case rel => exact ⟨n + 1, by omega, by go_num, fun j y h1 h2 h3 => (by
                    by_cases e : j = i + n
                    · subst e; rw [Hx.out] at h3; injection h3 with h3; omega
                    · exact hall.out j y h1 (by omega) h3)⟩
                  case measure => simp [intOf]; omega
                · have hrow := HX.out (fun y hy => by rw [Hx.out] at hy; injection hy with hy; omega)
                  have hxn : (x == 0) = false := by simpa using hxz
                  have hrest : Hid (encRest (xs.drop (i + n)) = (x + 1) :: enc (xs.drop (i + n + 1))) := by
                    show _ = _
                    have hl : i + n < xs.length := by rw [HN.out]; exact hkl
                    rw [List.drop_eq_getElem_cons hl]
                    have : xs[i + n] = x := by have := Hx.out; rw [List.getElem?_eq_getElem hl] at this; exact Option.some.inj this
                    rw [this]; rfl
                  have hxp : 0 < x := by omega
                  clear HX hall hxz
                  have hnb : (n : Int) ≤ 1099511627776 := by omega
                  have CDg : Hid (∀ W, Below w.heap.size w W → Calls Try.prog 12 #[.int .i64 (n : Int)] W fun e w' => ∃ q c, e = .returned (.slice q (digs n).length c) ∧ IsInts w' w'.heap.size (.slice q (digs n).length c) (digs n) ∧ Below W.heap.size W w') := fun W _ => by
                    refine (refDigits_any (n : Int) W (by omega) (by omega)).mono ?_
                    rintro e w' ⟨u, rfl, ho, hB⟩
                    rw [Int.toNat_natCast] at ho
                    obtain ⟨q, c, rfl⟩ := ho.shape
                    exact ⟨q, c, rfl, ho.is, hB⟩
                  have hrow2 : Hid ((done ++ digs n) ++ encRest (xs.drop (i + n)) = enc xs) := by
                    show _ = _
                    rw [← heq.out, enc_row (xs.drop i), hrow.out, List.drop_drop]
                    simp
                  have hdg := length_digs_64 n (by omega)
                  clear heq hrow
                  go_wp2_with fail
                  refine (CDg.out _ hB).mono ?_
                  rintro e w2 ⟨q2, c2, rfl, hvd, hB2⟩
                  have Hvd := Lib.hid hvd
                  have Hown2 := Lib.hid (Hown.out.below hB2)
                  have hBw2 : Below w.heap.size w w2 := hB.trans (hB2.mono hzB)
                  have hz2 := hBw2.size
                  clear hvd Hown hB hB2 CDg
                  by_cases hn0 : n = 0
                  · subst hn0
                    have hfin : Hid (((done ++ digs 0) ++ [x + 1]) ++ enc (xs.drop (i + 1)) = enc xs) := by
                      show _ = _
                      rw [← hrow2.out, hrest.out]; simp
                    have hdl3 : (done ++ digs 0).length ≤ 1099511627900 := by rw [List.length_append]; omega
                    have hil : (i : Int) < (N : Int) := by omega
                    clear hrow2 hrest hc' hkl0 hkl1 hkl2
                    go_wp2_with (first
                     | (at_builtin
                        refine wpList_append_ints rfl _ _ rfl w.heap.size _ done rfl Hown2.out w2.heap.size _ (digs 0) rfl Hvd.out (by omega) hz2 ?_
                        intro q' c' w3 hown3 hg3 hat3
                        have Hown3 := Lib.hid hown3
                        have hBw3 : Below w.heap.size w w3 := hBw2.grown hg3 hz2 (fun k hk => own_ge Hown2.out hk)
                        have hz3 := hBw3.size
                        have hc3 : w3.cell? ⟨g, o + i, none⟩ = some (.int .i64 x) := (hBw3.cell (p := ⟨g, o + i, none⟩) hg).trans HC.out
                        clear hg3 hat3 hown3 Hown2 Hvd)
                     | (at_builtin
                        refine wpList_append_ints rfl _ _ rfl w.heap.size _ (done ++ digs 0) rfl (Hown3.out.alloc _) (w3.heap.size + 1) _ [x + 1] rfl (IsInts.new w3 [x + 1] _ _ _ rfl rfl rfl (by simp [maxLen])) (by simp; omega) (by simp; omega) ?_
                        intro q4 c4 w4 hown4 hg4 hat4
                        simp only [List.length_append, List.length_singleton] at hown4
                        have Hown4 := Lib.hid hown4
                        have hBw4 : Below w.heap.size w w4 := (hBw3.alloc hz3 _).grown hg4 (by simp; omega) (fun k hk => by have := own_ge Hown3.out hk; omega)
                        clear hg4 hat4 hown4))
                    go_roundw
                    case rel => exact ⟨i + 1, _, by omega, by go_num, Hown4.out, hfin, hBw4⟩
                    case measure => simp [intOf]; omega
                  · have hne : ((n : Int) == 0) = false := by rw [beq_eq_false_iff_ne]; omega
                    have hfin : Hid ((done ++ digs n) ++ enc (xs.drop (i + n)) = enc xs) := by
                      show _ = _
                      rw [← hrow2.out, enc_head _ (fun y hy => by rw [List.getElem?_drop, Nat.add_zero, Hx.out] at hy; injection hy with hy; omega)]
                    clear hrow2 hrest
                    go_wp2_with
                    (at_builtin
                     refine wpList_append_ints rfl _ _ rfl w.heap.size _ done rfl Hown2.out w2.heap.size _ (digs n) rfl Hvd.out (by omega) hz2 ?_
                     intro q' c' w3 hown3 hg3 hat3
                     have Hown3 := Lib.hid hown3
                     have hBw3 : Below w.heap.size w w3 := hBw2.grown hg3 hz2 (fun k hk => own_ge Hown2.out hk)
                     have hz3 := hBw3.size
                     clear hg3 hat3 hown3 Hown2 Hvd)
                    go_roundw
                    case rel => exact ⟨i + n, _, by omega, by go_num, Hown3.out, hfin, hBw3⟩
                    case measure => (have hm : 0 < n := by omega
                                     show N + 1 - (intOf (.int .i64 ((i : Int) + n))).toNat < N + 1 - (intOf (.int .i64 (i : Int))).toNat
                                     simp only [intOf]
                                     omega)
              · have hk : i + n = N := by omega
                have hkl1 : ¬ (i : Int) + n < (N : Int) := by omega
                have hrow := HX.out (fun y hy => by rw [List.getElem?_eq_none (by rw [HN.out]; omega)] at hy; cases hy)
                have hrest : Hid (encRest (xs.drop (i + n)) = enc (xs.drop (i + n))) := by
                  show _ = _
                  rw [List.drop_eq_nil_of_le (by rw [HN.out]; omega)]
                  simp [encRest, enc, encA, digs_zero]
                clear HX hall
                have hnb : (n : Int) ≤ 1099511627776 := by omega
                have CDg : Hid (∀ W, Below w.heap.size w W → Calls Try.prog 12 #[.int .i64 (n : Int)] W fun e w' => ∃ q c, e = .returned (.slice q (digs n).length c) ∧ IsInts w' w'.heap.size (.slice q (digs n).length c) (digs n) ∧ Below W.heap.size W w') := fun W _ => by
                  refine (refDigits_any (n : Int) W (by omega) (by omega)).mono ?_
                  rintro e w' ⟨u, rfl, ho, hB⟩
                  rw [Int.toNat_natCast] at ho
                  obtain ⟨q, c, rfl⟩ := ho.shape
                  exact ⟨q, c, rfl, ho.is, hB⟩
                have hrow2 : Hid ((done ++ digs n) ++ encRest (xs.drop (i + n)) = enc xs) := by
                  show _ = _
                  rw [← heq.out, enc_row (xs.drop i), hrow.out, List.drop_drop]
                  simp
                have hdg := length_digs_64 n (by omega)
                clear heq hrow
                go_wp2_with fail
                refine (CDg.out _ hB).mono ?_
                rintro e w2 ⟨q2, c2, rfl, hvd, hB2⟩
                have Hvd := Lib.hid hvd
                have Hown2 := Lib.hid (Hown.out.below hB2)
                have hBw2 : Below w.heap.size w w2 := hB.trans (hB2.mono hzB)
                have hz2 := hBw2.size
                clear hvd Hown hB hB2 CDg
                have hn0 : ((n : Int) == 0) = false := by rw [beq_eq_false_iff_ne]; omega
                have hfin : Hid ((done ++ digs n) ++ enc (xs.drop (i + n)) = enc xs) := by
                  show _ = _
                  rw [← hrow2.out, hrest.out]
                clear hrow2 hrest
                go_wp2_with
                  (at_builtin
                   refine wpList_append_ints rfl _ _ rfl w.heap.size _ done rfl Hown2.out w2.heap.size _ (digs n) rfl Hvd.out (by omega) hz2 ?_
                   intro q' c' w3 hown3 hg3 hat3
                   have Hown3 := Lib.hid hown3
                   have hBw3 : Below w.heap.size w w3 := hBw2.grown hg3 hz2 (fun k hk => own_ge Hown2.out hk)
                   have hz3 := hBw3.size
                   clear hg3 hat3 hown3 Hown2 Hvd)
                go_roundw
                case rel => exact ⟨i + n, _, by omega, by go_num, Hown3.out, hfin, hBw3⟩
                case measure => simp [intOf]; omega
          · obtain rfl : i = N := by omega
            have hfin : done = enc xs := by
              have := heq.out
              rw [List.drop_eq_nil_of_le (by rw [HN.out]; exact Nat.le_refl _)] at this
              simpa [enc, encA, digs_zero] using this
            subst hfin
            obtain ⟨q, c, rfl⟩ := Hown.out.shape
            go_wp2
            go_ret2
            exact ⟨_, by rw [HE.out]; rfl, by rw [HV.out]; exact Hown.out, hB⟩

set_option maxRecDepth 100000 in
set_option maxHeartbeats 3200000 in
theorem refDecode_any (w : World) (v : Value) (xs : List Int) (most : Int) (hv : IsInts w w.heap.size v xs) (hlen : xs.length ≤ 1000000) (hi64 : I64s xs) (hm0 : -9223372036854775808 ≤ most) (hm : most ≤ 1099511627776) :
    Calls Try.prog 20 #[v, .int .i64 most] w fun e w' => ∃ u, e = .returned (.tuple #[u, .int .i64 (decE xs most)]) ∧ OwnInts w' w.heap.size u (decV xs most) ∧ Below w.heap.size w w' := by
  have C1 := Lib.hid (refBelow_any w v xs hv (by omega))
  obtain ⟨A, ca, rfl, hc1, hc2⟩ := hv.shape
  obtain ⟨b1, hb1⟩ : ∃ b, negF xs = b := ⟨_, rfl⟩
  rw [hb1] at C1
  have Hb1 := Lib.hid hb1
  obtain ⟨N, hN⟩ : ∃ N, xs.length = N := ⟨_, rfl⟩
  rw [hN] at hv hc1 hlen C1 ⊢
  have HN := Lib.hid hN
  have Hv := Lib.hid hv
  have Hi := Lib.hid hi64
  clear hb1 hv hN hi64
  go_enter Try.func20, Try.ntmps20
  go_wp2_with fail
  refine C1.out.mono ?_
  rintro e w1 ⟨rfl, rfl⟩
  cases b1 with
  | true =>
    go_wp2
    go_ret2
    exact ⟨.slice none 0 0, by rw [decE, Hb1.out]; rfl, by rw [decV, Hb1.out]; exact OwnInts.nil _ _, Below.refl _ _⟩
  | false =>
    have HE : Hid (decE xs most = if most < (dec xs).length then 4 else 0) := by show _ = _; rw [decE, Hb1.out]; rfl
    have HV : Hid (decV xs most = if most < (dec xs).length then [] else dec xs) := by show _ = _; rw [decV, Hb1.out]; rfl
    have hels : Hid (∀ x ∈ xs, 0 ≤ x ∧ x ≤ 9223372036854775807) := fun x hx => by
      have h1 := Hi.out x hx
      have h2 := Hb1.out
      unfold negF at h2
      rw [List.any_eq_false] at h2
      have := h2 x hx
      simp at this
      omega
    clear C1
    go_wp2
    go_loopw [6, 7] (fun ov iv wr => ∃ (i : Nat) (done : List Int), i ≤ N ∧ iv = .int .i64 i ∧ OwnInts wr w.heap.size ov done ∧ Hid (done ++ dec (xs.drop i) = dec xs) ∧ Below w.heap.size w wr ∧ done.length ≤ 1099511627776 + i) (fun _ iv _ => N + 1 - (intOf iv).toNat)
    case atStart => exact ⟨0, [], by omega, rfl, OwnInts.nil _ _, rfl, Below.refl _ _, by simp⟩
    case round =>
      obtain ⟨i, done, hi, rfl, hown, heq, hB, hdl⟩ := hrel
      have Hown := Lib.hid hown
      have hzB := hB.size
      obtain ⟨q0, c0, rfl⟩ := hown.shape
      obtain ⟨wq, rfl⟩ : ∃ x, x = wr := ⟨_, rfl⟩
      clear hown
      by_cases hlt : i < N
      · go_wp2
        go_loop [8] (fun nv => ∃ n : Nat, i + n ≤ N ∧ nv = .int .i64 n ∧ Hid (∀ (j : Nat) y, i ≤ j → j < i + n → xs[j]? = some y → y ≤ 1)) (fun nv => N + 1 - (intOf nv).toNat)
        case atStart => exact ⟨0, by omega, rfl, fun j y h1 h2 => by omega⟩
        case round =>
          obtain ⟨n, hin, rfl, hall⟩ := hrel
          have hexit : (∀ x, xs[i + n]? = some x → 1 < x) → Hid (rowLen 1 (xs.drop i) = n) := fun hx => by
            show _ = _
            refine rowLen_eq (by rw [List.length_drop, HN.out]; omega) (fun j x hj hxj => ?_) (fun x hxk => ?_)
            · rw [List.getElem?_drop] at hxj
              exact hall.out (i + j) x (by omega) (by omega) hxj
            · rw [List.getElem?_drop] at hxk
              exact hx x hxk
          have HX := Lib.hid hexit
          clear hexit
          by_cases hkl : i + n < N
          · have hkl0 : 0 ≤ (i : Int) + n := by omega
            have hkl1 : (i : Int) + n < (N : Int) := by omega
            have hkl2 : ((i : Int) + n).toNat = i + n := by omega
            obtain ⟨g, o, rfl, hg, hc⟩ := Hv.out.at (i + n) (by rw [HN.out]; exact hkl)
            obtain ⟨x, hx⟩ : ∃ x, xs[(i + n)]? = some x := ⟨_, List.getElem?_eq_getElem (by rw [HN.out]; exact hkl)⟩
            rw [hx] at hc
            simp only [Option.getD_some] at hc
            have hc' : wq.cell? ⟨g, o + (i + n), none⟩ = some (.int .i64 x) := (hB.cell (p := ⟨g, o + (i + n), none⟩) hg).trans hc
            have Hx := Lib.hid hx
            have HC := Lib.hid hc
            clear hx hc
            have hx0 := hels.out x (List.mem_of_getElem? Hx.out)
            by_cases hx2 : x < 2
            · go_wp2
              go_round
              case rel => exact ⟨n + 1, by omega, by go_num, fun j y h1 h2 h3 => (by
                by_cases e : j = i + n
                · subst e; rw [Hx.out] at h3; injection h3 with h3; omega
                · exact hall.out j y h1 (by omega) h3)⟩
              case measure => simp [intOf]; omega
            · have hrow := HX.out (fun y hy => by rw [Hx.out] at hy; injection hy with hy; omega)
              have hrest : Hid (dec (xs.drop (i + n)) = (x - 1) :: dec (xs.drop (i + n + 1))) := by
                show _ = _
                have hl : i + n < xs.length := by rw [HN.out]; exact hkl
                rw [List.drop_eq_getElem_cons hl]
                have : xs[i + n] = x := by have := Hx.out; rw [List.getElem?_eq_getElem hl] at this; exact Option.some.inj this
                rw [this, dec, decA, if_neg (by omega)]; rfl
              clear HX hall
              by_cases hn0 : n = 0
              · subst hn0
                have hfin : Hid ((done ++ [x - 1]) ++ dec (xs.drop (i + 1)) = dec xs) := by
                  show _ = _
                  have := hrest.out
                  rw [Nat.add_zero] at this
                  rw [← heq.out, this]; simp
                have hil : (i : Int) < (N : Int) := by omega
                have hc3 : wq.cell? ⟨g, o + i, none⟩ = some (.int .i64 x) := hc'
                clear hrest hc' hkl0 hkl1 hkl2 hrow heq
                go_wp2_with
                  (at_builtin
                   refine wpList_append_ints rfl _ _ rfl w.heap.size _ done rfl (Hown.out.alloc _) (wq.heap.size + 1) _ [x - 1] rfl (IsInts.new wq [x - 1] _ _ _ rfl rfl rfl (by simp [maxLen])) (by simp; omega) (by simp; omega) ?_
                   intro q4 c4 w4 hown4 hg4 hat4
                   simp only [List.length_singleton] at hown4
                   have Hown4 := Lib.hid hown4
                   have hBw4 : Below w.heap.size w w4 := (hB.alloc hzB _).grown hg4 (by simp; omega) (fun k hk => own_ge Hown.out hk)
                   clear hg4 hat4 hown4)
                go_roundw
                case rel => exact ⟨i + 1, _, by omega, by go_num, Hown4.out, hfin, hBw4, by simp only [List.length_append, List.length_singleton]; omega⟩
                case measure => simp [intOf]; omega
              · have hn1 : ((n : Int) == 0) = false := by rw [beq_eq_false_iff_ne]; omega
                have Hx' := Hx
                clear hx0 HC Hx hrest
                obtain ⟨v2, hv2, ⟨q5, c5, rfl⟩, hsl, _, _⟩ := Hv.out.cut i (i + n) (by omega) (by omega)
                have e5 : (xs.take (i + n)).drop i = (xs.drop i).take n := by rw [List.drop_take, Nat.add_sub_cancel_left]
                have e6 : i + n - i = n := by omega
                rw [e5, e6] at hv2
                simp only [e6] at hsl
                have hdg := dig_row (rest := xs.drop i) fun x hx => (hels.out x (List.mem_of_mem_drop hx)).1
                rw [hrow.out] at hdg
                have hdrow := dec_row (xs.drop i)
                rw [hrow.out, List.drop_drop] at hdrow
                have hcn := refNumber_any wq (.slice q5 n c5) ((xs.drop i).take n) ((hv2.below hB (Nat.le_refl _)).mono hzB) (by rw [List.length_take, List.length_drop, HN.out]; omega)
                obtain ⟨k, hk⟩ : ∃ k, numD ((xs.drop i).take n) = k := ⟨_, rfl⟩
                have hnE : numE ((xs.drop i).take n) = if 1099511627776 < k then 4 else 0 := by rw [numE, oddF_of_dig hdg, hk]; rfl
                have hnV : numV ((xs.drop i).take n) = if 1099511627776 < k then (0 : Int) else (k : Nat) := by rw [numV, oddF_of_dig hdg, hk]; rfl
                rw [hk] at hdrow
                have Hdrow := Lib.hid hdrow
                rw [hnE, hnV] at hcn
                have hdr : Hid (∃ r, dec (xs.drop i) = zeros k ++ r ∧ r = dec (xs.drop (i + n))) := ⟨_, hdrow, by
                  have hl : i + n < xs.length := by rw [HN.out]; exact hkl
                  rw [List.drop_eq_getElem_cons hl]
                  have : xs[i + n] = x := by have := Hx'.out; rw [List.getElem?_eq_getElem hl] at this; exact Option.some.inj this
                  rw [this, dec, decA, if_neg (by omega)]; rfl⟩
                have hsl' : ∀ W, (Instr.slice 22 (.slice (some ⟨g, o, none⟩) N ca) (some (.int .i64 (i : Int))) (some (.int .i64 ((i : Int) + n))) none).run Try.prog W = .ok (.slice q5 n c5) W := hsl
                have CN := Lib.hid hcn
                clear hv2 e5 e6 hdg hdrow hcn hk hnE hnV hrow hsl
                go_wp2_with fail
                refine CN.out.mono ?_
                rintro e w2 ⟨rfl, rfl⟩
                clear CN hsl' hc' hx2 hkl0 hkl1 hkl2
                by_cases hbig : 1099511627776 < k
                · rw [if_pos hbig, if_pos hbig]
                  have hlong : most < ((dec xs).length : Int) := by
                    have h2 := congrArg List.length heq.out
                    rw [Hdrow.out] at h2
                    simp only [List.length_append, length_zeros] at h2
                    omega
                  have hE : Hid (decE xs most = 4) := by show _ = _; rw [HE.out, if_pos hlong]
                  have hV : Hid (decV xs most = []) := by show _ = _; rw [HV.out, if_pos hlong]
                  clear hlong Hdrow hdr
                  go_wp2
                  go_ret2
                  exact ⟨.slice none 0 0, by rw [hE.out]; rfl, by rw [hV.out]; exact OwnInts.nil _ _, hB⟩
                · rw [if_neg hbig, if_neg hbig]
                  by_cases hgt : most < (done.length : Int) + (k : Int)
                  · have hlong : most < ((dec xs).length : Int) := by
                      have h2 := congrArg List.length heq.out
                      rw [Hdrow.out] at h2
                      simp only [List.length_append, length_zeros] at h2
                      omega
                    have hE : Hid (decE xs most = 4) := by show _ = _; rw [HE.out, if_pos hlong]
                    have hV : Hid (decV xs most = []) := by show _ = _; rw [HV.out, if_pos hlong]
                    clear hlong Hdrow hdr
                    go_wp2
                    go_ret2
                    exact ⟨.slice none 0 0, by rw [hE.out]; rfl, by rw [hV.out]; exact OwnInts.nil _ _, hB⟩
                  · have hfin : Hid ((done ++ zeros k) ++ dec (xs.drop (i + n)) = dec xs) := by
                      show _ = _
                      obtain ⟨r, h1, h2⟩ := hdr.out
                      rw [← heq.out, h1, h2]; simp
                    clear Hdrow hdr heq
                    go_wp2
                    go_loopw [6, 11] (fun ov jv wj => ∃ j : Nat, j ≤ k ∧ jv = .int .i64 j ∧ OwnInts wj w.heap.size ov (done ++ zeros j) ∧ Below w.heap.size w wj) (fun _ jv _ => k + 1 - (intOf jv).toNat)
                    case atStart => exact ⟨0, Nat.zero_le _, rfl, by simpa [zeros] using Hown.out, hB⟩
                    case round =>
                      obtain ⟨j, hj, rfl, hownj, hBj⟩ := hrel
                      have Hownj := Lib.hid hownj
                      have hzj := hBj.size
                      clear hownj Hown
                      by_cases hjk : j < k
                      · have hzs : Hid ((done ++ zeros j) ++ [0] = done ++ zeros (j + 1)) := by show _ = _; rw [zeros_add]; simp [zeros]
                        have hlz : (done ++ zeros j).length ≤ 4398046511104 := by rw [List.length_append, length_zeros]; omega
                        go_wp2_with
                          (at_builtin
                           refine wpList_append_ints rfl _ _ rfl w.heap.size _ (done ++ zeros j) rfl (Hownj.out.alloc _) (wr.heap.size + 1) _ [0] rfl (IsInts.new wr [0] _ _ _ rfl rfl rfl (by simp [maxLen])) (by simp only [List.length_singleton]; omega) (by simp; omega) ?_
                           intro q4 c4 w4 hown4 hg4 hat4
                           rw [hzs.out] at hown4
                           simp only [List.length_append, List.length_singleton] at hown4
                           have Hown4 := Lib.hid hown4
                           have hBw4 : Below w.heap.size w w4 := (hBj.alloc hzj _).grown hg4 (by simp; omega) (fun k hk => own_ge Hownj.out hk)
                           clear hg4 hat4 hown4)
                        go_roundw
                        case rel => exact ⟨j + 1, by omega, by go_num, Hown4.out, hBw4⟩
                        case measure => simp [intOf]; omega
                      · obtain rfl : j = k := by omega
                        go_wp2
                        go_roundw
                        case rel => exact ⟨i + n, _, by omega, by go_num, Hownj.out, hfin, hBj, by rw [List.length_append, length_zeros]; omega⟩
                        case measure => (have hm : 0 < n := by omega
                                         show N + 1 - (intOf (.int .i64 ((i : Int) + n))).toNat < N + 1 - (intOf (.int .i64 (i : Int))).toNat
                                         simp only [intOf]
                                         omega)

          · have hkl1 : ¬ (i : Int) + n < (N : Int) := by omega
            have hn1 : ((n : Int) == 0) = false := by rw [beq_eq_false_iff_ne]; omega
            have hn0 : ¬ n = 0 := by omega
            have hrow := HX.out (fun y hy => by rw [List.getElem?_eq_none (by rw [HN.out]; omega)] at hy; cases hy)
            clear HX hall
            obtain ⟨v2, hv2, ⟨q5, c5, rfl⟩, hsl, _, _⟩ := Hv.out.cut i (i + n) (by omega) (by omega)
            have e5 : (xs.take (i + n)).drop i = (xs.drop i).take n := by rw [List.drop_take, Nat.add_sub_cancel_left]
            have e6 : i + n - i = n := by omega
            rw [e5, e6] at hv2
            simp only [e6] at hsl
            have hdg := dig_row (rest := xs.drop i) fun x hx => (hels.out x (List.mem_of_mem_drop hx)).1
            rw [hrow.out] at hdg
            have hdrow := dec_row (xs.drop i)
            rw [hrow.out, List.drop_drop] at hdrow
            have hcn := refNumber_any wq (.slice q5 n c5) ((xs.drop i).take n) ((hv2.below hB (Nat.le_refl _)).mono hzB) (by rw [List.length_take, List.length_drop, HN.out]; omega)
            obtain ⟨k, hk⟩ : ∃ k, numD ((xs.drop i).take n) = k := ⟨_, rfl⟩
            have hnE : numE ((xs.drop i).take n) = if 1099511627776 < k then 4 else 0 := by rw [numE, oddF_of_dig hdg, hk]; rfl
            have hnV : numV ((xs.drop i).take n) = if 1099511627776 < k then (0 : Int) else (k : Nat) := by rw [numV, oddF_of_dig hdg, hk]; rfl
            rw [hk] at hdrow
            have Hdrow := Lib.hid hdrow
            rw [hnE, hnV] at hcn
            have hdr : Hid (∃ r, dec (xs.drop i) = zeros k ++ r ∧ r = dec (xs.drop (i + n))) := ⟨_, hdrow, by
              rw [List.drop_eq_nil_of_le (by rw [HN.out]; omega)]; rfl⟩
            have hsl' : ∀ W, (Instr.slice 22 (.slice A N ca) (some (.int .i64 (i : Int))) (some (.int .i64 ((i : Int) + n))) none).run Try.prog W = .ok (.slice q5 n c5) W := hsl
            have CN := Lib.hid hcn
            clear hv2 e5 e6 hdg hdrow hcn hk hnE hnV hrow hsl
            go_wp2_with fail
            refine CN.out.mono ?_
            rintro e w2 ⟨rfl, rfl⟩
            clear CN hsl' hkl1
            by_cases hbig : 1099511627776 < k
            · rw [if_pos hbig, if_pos hbig]
              have hlong : most < ((dec xs).length : Int) := by
                have h2 := congrArg List.length heq.out
                rw [Hdrow.out] at h2
                simp only [List.length_append, length_zeros] at h2
                omega
              have hE : Hid (decE xs most = 4) := by show _ = _; rw [HE.out, if_pos hlong]
              have hV : Hid (decV xs most = []) := by show _ = _; rw [HV.out, if_pos hlong]
              clear hlong Hdrow hdr
              go_wp2
              go_ret2
              exact ⟨.slice none 0 0, by rw [hE.out]; rfl, by rw [hV.out]; exact OwnInts.nil _ _, hB⟩
            · rw [if_neg hbig, if_neg hbig]
              by_cases hgt : most < (done.length : Int) + (k : Int)
              · have hlong : most < ((dec xs).length : Int) := by
                  have h2 := congrArg List.length heq.out
                  rw [Hdrow.out] at h2
                  simp only [List.length_append, length_zeros] at h2
                  omega
                have hE : Hid (decE xs most = 4) := by show _ = _; rw [HE.out, if_pos hlong]
                have hV : Hid (decV xs most = []) := by show _ = _; rw [HV.out, if_pos hlong]
                clear hlong Hdrow hdr
                go_wp2
                go_ret2
                exact ⟨.slice none 0 0, by rw [hE.out]; rfl, by rw [hV.out]; exact OwnInts.nil _ _, hB⟩
              · have hfin : Hid ((done ++ zeros k) ++ dec (xs.drop (i + n)) = dec xs) := by
                  show _ = _
                  obtain ⟨r, h1, h2⟩ := hdr.out
                  rw [← heq.out, h1, h2]; simp
                clear Hdrow hdr heq
                go_wp2
                go_loopw [6, 11] (fun ov jv wj => ∃ j : Nat, j ≤ k ∧ jv = .int .i64 j ∧ OwnInts wj w.heap.size ov (done ++ zeros j) ∧ Below w.heap.size w wj) (fun _ jv _ => k + 1 - (intOf jv).toNat)
                case atStart => exact ⟨0, Nat.zero_le _, rfl, by simpa [zeros] using Hown.out, hB⟩
                case round =>
                  obtain ⟨j, hj, rfl, hownj, hBj⟩ := hrel
                  have Hownj := Lib.hid hownj
                  have hzj := hBj.size
                  clear hownj Hown
                  by_cases hjk : j < k
                  · have hzs : Hid ((done ++ zeros j) ++ [0] = done ++ zeros (j + 1)) := by show _ = _; rw [zeros_add]; simp [zeros]
                    have hlz : (done ++ zeros j).length ≤ 4398046511104 := by rw [List.length_append, length_zeros]; omega
                    go_wp2_with
                      (at_builtin
                       refine wpList_append_ints rfl _ _ rfl w.heap.size _ (done ++ zeros j) rfl (Hownj.out.alloc _) (wr.heap.size + 1) _ [0] rfl (IsInts.new wr [0] _ _ _ rfl rfl rfl (by simp [maxLen])) (by simp only [List.length_singleton]; omega) (by simp; omega) ?_
                       intro q4 c4 w4 hown4 hg4 hat4
                       rw [hzs.out] at hown4
                       simp only [List.length_append, List.length_singleton] at hown4
                       have Hown4 := Lib.hid hown4
                       have hBw4 : Below w.heap.size w w4 := (hBj.alloc hzj _).grown hg4 (by simp; omega) (fun k hk => own_ge Hownj.out hk)
                       clear hg4 hat4 hown4)
                    go_roundw
                    case rel => exact ⟨j + 1, by omega, by go_num, Hown4.out, hBw4⟩
                    case measure => simp [intOf]; omega
                  · obtain rfl : j = k := by omega
                    go_wp2
                    go_roundw
                    case rel => exact ⟨i + n, _, by omega, by go_num, Hownj.out, hfin, hBj, by rw [List.length_append, length_zeros]; omega⟩
                    case measure => (have hm : 0 < n := by omega
                                     show N + 1 - (intOf (.int .i64 ((i : Int) + n))).toNat < N + 1 - (intOf (.int .i64 (i : Int))).toNat
                                     simp only [intOf]
                                     omega)

      · obtain rfl : i = N := by omega
        have hfin : Hid (done = dec xs) := by
          show _ = _
          have := heq.out
          rw [List.drop_eq_nil_of_le (by rw [HN.out]; exact Nat.le_refl _), dec_nil, List.append_nil] at this
          exact this
        clear heq
        by_cases hgt : most < (done.length : Int)
        · have hE : Hid (decE xs most = 4) := by show _ = _; rw [HE.out, ← hfin.out, if_pos hgt]
          have hV : Hid (decV xs most = []) := by show _ = _; rw [HV.out, ← hfin.out, if_pos hgt]
          go_wp2
          go_ret2
          exact ⟨.slice none 0 0, by rw [hE.out]; rfl, by rw [hV.out]; exact OwnInts.nil _ _, hB⟩
        · have hE : Hid (decE xs most = 0) := by show _ = _; rw [HE.out, ← hfin.out, if_neg hgt]
          have hV : Hid (decV xs most = done) := by show _ = _; rw [HV.out, ← hfin.out, if_neg hgt]
          go_wp2
          go_ret2
          exact ⟨.slice q0 done.length c0, by rw [hE.out]; rfl, by rw [hV.out]; exact Hown.out, hB⟩

end Go.Proofs.Ytflhhlemoaifnaa
