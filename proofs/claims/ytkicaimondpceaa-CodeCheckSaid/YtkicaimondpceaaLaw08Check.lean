/- CodeCheck: the walk (under way: behind the first loop it lacks the rest). -/
import Derived.Test.YtkicaimondpceaaCodeHelp
import Derived.Test.YtkicaimondpceaaHeld
import Derived.Deep.RegionHeld3
import Derived.Deep.DeepCutAuto
namespace Go.Proofs.Ytkicaimondpceaa
open Go.RowKit
set_option linter.unusedVariables false

theorem fits_set {l : List Nat} (h : Fits l) (i x : Nat) (hx : 1 ≤ x ∧ x ≤ 20) : Fits (l.set i x) := by
  intro y hy
  rcases List.mem_or_eq_of_mem_set hy with hy | rfl
  · exact h y hy
  · exact hx
theorem fits_snoc {l : List Nat} (h : Fits l) (x : Nat) (hx : 1 ≤ x ∧ x ≤ 20) : Fits (l ++ [x]) := by
  intro y hy
  rcases List.mem_append.1 hy with hy | hy
  · exact h y hy
  · simp at hy
    rw [hy]
    exact hx
/-- what is told of lengths that fit, in any order -/
theorem check_fits {l : List Nat} (h : Fits l) (h2 : 2 ≤ l.length) (h3 : l.length ≤ 258) : checkF (ints l) = if 1048576 < kraft l then 6 else 0 := by
  rw [checkF_ints, if_neg]
  simp [h]
  omega
theorem kraft_turned (l : List Nat) (k : Nat) : kraft (l.drop k ++ l.take k) = kraft l := by
  have := kraft_append (l.take k) (l.drop k)
  rw [List.take_append_drop] at this
  rw [kraft_append]
  omega
theorem fits_turned {l : List Nat} (h : Fits l) (k : Nat) : Fits (l.drop k ++ l.take k) := fun x hx => by
  rcases List.mem_append.1 hx with hx | hx
  · exact h x (List.mem_of_mem_drop hx)
  · exact h x (List.mem_of_mem_take hx)
theorem kraft_longer (l : List Nat) (k x y : Nat) (h : l[k]? = some x) (hy : x ≤ y) : kraft (l.set k y) ≤ kraft l := by
  have hk := (List.getElem?_eq_some_iff.1 h).1
  have hx := (List.getElem?_eq_some_iff.1 h).2
  have e1 : l = l.take k ++ x :: l.drop (k + 1) := by rw [← hx, List.getElem_cons_drop, List.take_append_drop]
  have e2 : l.set k y = l.take k ++ y :: l.drop (k + 1) := by rw [List.set_eq_take_append_cons_drop, if_pos hk]
  have e3 := congrArg kraft e1
  rw [kraft_append, kraft_cons] at e3
  rw [e2, kraft_append, kraft_cons]
  have : 2 ^ (20 - y) ≤ 2 ^ (20 - x) := Nat.pow_le_pow_right (by omega) (by omega)
  omega

set_option maxRecDepth 100000 in
set_option maxHeartbeats 6400000 in
theorem ccheck_walk (w : World) (v : Value) (raw : List Int) (at0 by0 : Int) (hv : IsInts w w.heap.size v raw) (hr : I64s raw) (hat : -9223372036854775808 ≤ at0) (hat' : at0 ≤ 9223372036854775807) (hby : -9223372036854775808 ≤ by0) (hby' : by0 ≤ 9223372036854775807) :
    Calls Try.prog 8 #[v, .int .i64 at0, .int .i64 by0] w fun e w' => e = .returned (.bool true) ∧ Below w.heap.size w w' := by
  obtain ⟨A, ca, rfl, hc1, hc2⟩ := hv.shape
  obtain ⟨N, hN⟩ : ∃ N, raw.length = N := ⟨_, rfl⟩
  rw [hN] at hv hc1 ⊢
  have HN := Lib.hid hN
  have Hv := Lib.hid hv
  have Hr := Lib.hid hr
  clear hv hr hN
  go_enter Try.func8, Try.ntmps8
  go_wp2_with fail
  refine (awake08_any _).mono ?_
  rintro e w1 ⟨rfl, hB⟩
  have HB1 := Lib.hid hB
  have Hstart := Lib.hid (show OwnInts (w1.alloc (.cells #[.int .i64 3, .int .i64 3] 3)) w.heap.size (.slice (some ⟨w1.heap.size, 0, none⟩) 2 2) (ints [3, 3]) from OwnInts.new w1 _ [3, 3] _ _ _ rfl rfl rfl (by simp [maxLen]) hB.size)
  clear hB
  go_wp2_with fail
  go_loopw [8, 9] (fun ov iv wr => ∃ (i : Nat) (l : List Nat) (q : Option Addr) (c : Nat), i ≤ N ∧ i ≤ 40 ∧ iv = .int .i64 i ∧ ov = .slice q l.length c ∧ Fits l ∧ LensLen i l.length ∧ OwnInts wr w.heap.size (.slice q l.length c) (ints l) ∧ Below w.heap.size w wr) (fun _ iv _ => N + 1 - (intOf iv).toNat)
  case atStart => exact ⟨0, [3, 3], _, _, Nat.zero_le _, Nat.zero_le _, rfl, rfl, (by decide), .inl ⟨by omega, rfl⟩, Hstart.out, HB1.out.alloc HB1.out.size _⟩
  case round =>
    obtain ⟨i, l, q, c, hi, him, rfl, rfl, hfit, hlen, hown, hB⟩ := hrel
    have Hown := Lib.hid hown
    have Hfit := Lib.hid hfit
    have HB := Lib.hid hB
    have hzB := hB.size
    obtain ⟨L, hL⟩ : ∃ L, l.length = L := ⟨_, rfl⟩
    have hLl : i < 2 ∧ L = 2 ∨ 2 ≤ i ∧ L = i := by rw [← hL]; exact hlen
    rw [hL] at Hown ⊢
    have HL := Lib.hid hL
    clear hown hfit hlen hL Hstart HB1
    by_cases hgo : i < N ∧ i < 40
    · obtain ⟨hlt, hlm⟩ := hgo
      obtain ⟨g, o, rfl, hg, hc⟩ := Hv.out.at i (by rw [HN.out]; exact hlt)
      obtain ⟨x, hx⟩ : ∃ x, raw[i]? = some x := ⟨_, List.getElem?_eq_getElem (by rw [HN.out]; exact hlt)⟩
      rw [hx] at hc
      simp only [Option.getD_some] at hc
      have hc' : wr.cell? ⟨g, o + i, none⟩ = some (.int .i64 x) := (hB.cell (p := ⟨g, o + i, none⟩) hg).trans hc
      have hxb := Hr.out x (List.mem_of_getElem? hx)
      have hp := pickF_lt x 20 (by omega)
      obtain ⟨p, hpe⟩ : ∃ p : Nat, pickF x 20 = (p : Int) := ⟨(pickF x 20).toNat, by omega⟩
      have hp20 : p < 20 := by omega
      have CP : Hid (∀ W, Calls Try.prog 12 #[.int .i64 x, .int .i64 20] W fun e w' => e = .returned (.int .i64 p) ∧ W = w') := fun W => by
        have := pick08_any x 20 W (by omega) (by omega) (by omega) (by omega)
        rw [hpe] at this; exact this
      clear hc hx hpe hxb hp hB
      by_cases h2 : i < 2
      · obtain rfl : L = 2 := by omega
        obtain ⟨b, cap, he, hb1, hb2, hb3, hb4, hb5⟩ := Hown.out.place (by rw [length_ints, HL.out]; omega)
        rw [length_ints, HL.out] at he
        injection he with he1 he2 he3
        subst he1
        subst he3
        have hcc := hb3 i (by rw [length_ints, HL.out]; exact h2)
        have hff := hb4 i
        have H5 := Lib.hid (hb5 i ((1 + p : Nat) : Int))
        clear hb3 hb4 hb5
        go_wp2_with fail
        refine (CP.out _).mono ?_
        rintro e w2 ⟨rfl, rfl⟩
        go_wp2_with fail
        have h5 := H5.out
        rw [ints_set8, length_ints, HL.out, show ((1 + p : Nat) : Int) = 1 + (p : Int) by push_cast; rfl] at h5
        have hln : (l.set i (1 + p)).length = 2 := by rw [List.length_set, HL.out]
        go_roundw
        case rel => exact ⟨i + 1, l.set i (1 + p), _, _, by omega, by omega, by go_num, by rw [hln], fits_set Hfit.out i (1 + p) (by omega), by rw [hln]; unfold LensLen; omega, by rw [hln]; exact h5.1, OwnInts.set_below HB.out hb1 _ _⟩
        case measure => simp [intOf]; omega
      · obtain rfl : i = L := by omega
        go_wp2_with fail
        refine (CP.out _).mono ?_
        rintro e w2 ⟨rfl, rfl⟩
        go_wp2_with
          (at_builtin
           refine wpList_append_ints rfl _ _ rfl w.heap.size _ (ints l) rfl (Hown.out.alloc _) (wr.heap.size + 1) _ [1 + (p : Int)] rfl (IsInts.new wr [1 + (p : Int)] _ _ _ rfl rfl rfl (by simp [maxLen])) (by rw [length_ints, HL.out]; simp; omega) (by simp; omega) ?_
           intro q2 c2 w3 hown2 hg2 hat2
           rw [show (ints l).length + [1 + (p : Int)].length = i + 1 by rw [length_ints, HL.out]; rfl] at hown2 ⊢
           rw [show ints l ++ [1 + (p : Int)] = ints (l ++ [1 + p]) by simp [ints]] at hown2
           have HB2 : Hid (Below w.heap.size w w3) := (HB.out.alloc hzB _).grown hg2 (by simp; omega) (fun k hk => by have := own_ge Hown.out hk; omega)
           have Hown2 := Lib.hid hown2
           clear hown2 hat2 hg2)
        have hln : (l ++ [1 + p]).length = i + 1 := by rw [List.length_append, HL.out]; rfl
        go_roundw
        case rel => exact ⟨i + 1, l ++ [1 + p], _, _, by omega, by omega, by go_num, by rw [hln], fits_snoc Hfit.out (1 + p) (by omega), by rw [hln]; unfold LensLen; omega, by rw [hln]; exact Hown2.out, HB2.out⟩
        case measure => simp [intOf]; omega
    · have hL2 : 2 ≤ L ∧ L ≤ 40 := by omega
      have hkl := kraft_le l
      rw [HL.out] at hkl
      have Hend : Hid (kraft (l.take L) = kraft l) := by rw [← HL.out, List.take_length]; exact rfl
      have Hgo : Hid (¬ (i < N ∧ i < 40)) := hgo
      have Hi := Lib.hid (show i ≤ N ∧ i ≤ 40 from ⟨hi, him⟩)
      have hgo2 : (i < N → ¬ i < 40) := fun h h2 => hgo ⟨h, h2⟩
      have HOW := Hown
      have hwi := HOW.out.is
      have HLV := Lib.hid hwi
      clear hwi hgo
      have hpk := pickF_lt at0 (L : Int) (by omega)
      obtain ⟨K, hKe⟩ : ∃ K : Nat, pickF at0 (L : Int) = (K : Int) := ⟨(pickF at0 (L : Int)).toNat, by omega⟩
      have hKL : K < L := by omega
      have CP : Hid (∀ W, Calls Try.prog 12 #[.int .i64 at0, .int .i64 (L : Nat)] W fun e w' => e = .returned (.int .i64 K) ∧ W = w') := fun W => by
        have := pick08_any at0 (L : Int) W hat hat' (by omega) (by omega)
        rw [hKe] at this; exact this
      clear hpk hKe
      obtain ⟨z, hz⟩ : ∃ z : Int, (if 1048576 < kraft l then 6 else 0) = z := ⟨_, rfl⟩
      have Hz := Lib.hid hz
      rcases Nat.lt_or_ge i N with hiN | hiN
      · have hi40 : ¬ i < 40 := hgo2 hiN
        clear hgo2 hz
        go_wp2_with fail
        go_loopw [11, 12] (fun av kv ws => wr = ws ∧ ∃ k : Nat, k ≤ L ∧ kv = .int .i64 k ∧ av = .int .i64 (kraft (l.take k) : Nat)) (fun _ kv _ => L + 1 - (intOf kv).toNat)
        case atStart => exact ⟨rfl, 0, Nat.zero_le _, rfl, rfl⟩
        case round =>
          obtain ⟨rfl, k, hk, rfl, rfl⟩ := hrel
          by_cases hit : k < L
          · obtain ⟨t, ht⟩ : ∃ t, l[k]? = some t := ⟨_, List.getElem?_eq_getElem (by rw [HL.out]; exact hit)⟩
            obtain ⟨g1, o1, rfl, hg1, hx1⟩ := HLV.out.at k (by rw [length_ints, HL.out]; exact hit)
            rw [show (ints l)[k]?.getD 0 = (t : Int) by simp [ints, ht]] at hx1
            have ht20 := Hfit.out t (List.mem_of_getElem? ht)
            have Hnx : Hid (kraft (l.take (k + 1)) = kraft (l.take k) + 2 ^ (20 - t)) := by
              show _ = _
              rw [List.take_add_one, ht]
              exact kraft_snoc _ _
            have hle := kraft_le (l.take k)
            have hlt2 : (l.take k).length ≤ k := by simp; omega
            generalize kraft (l.take k) = y at *
            have h1p : 2 ^ (20 - t) ≤ 2 ^ 20 := Nat.pow_le_pow_right (by omega) (by omega)
            have h2p : (2 : Nat) ^ 20 = 1048576 := by decide
            have hw : IntKind.i64.wrap (20 - (t : Int)) = ((20 - t : Nat) : Int) := by rw [IntWalk.i64_in _ (by omega)]; omega
            clear ht
            go_wp2
            go_roundw
            case rel => exact ⟨trivial, k + 1, by omega, by go_num, by rw [Hnx.out, pow_cast, wrap_sum _ _ (by omega) (by omega)]⟩
            case measure => simp [intOf]; omega
          · obtain rfl : k = L := by omega
            rw [Hend.out]
            by_cases hK : 1048576 < kraft l
            · go_wp2_with fail
              refine (CP.out _).mono ?_
              rintro e w_ ⟨rfl, rfl⟩
              go_wp2_with fail
              obtain ⟨vb, hb1, ⟨qb, cb, hb2⟩, _, hb4, _⟩ := HLV.out.cut K k (by omega) (Nat.le_refl _)
              subst hb2
              have hsb := hb4 rfl
              obtain ⟨vc, hc1, ⟨qc, cc, hc2⟩, _, _, hc5⟩ := HLV.out.cut 0 K (Nat.zero_le _) (by omega)
              subst hc2
              have hsc := hc5 rfl
              have hbx := hb1
              rw [List.take_of_length_le (by rw [length_ints, HL.out]; exact Nat.le_refl _), show (ints l).drop K = ints (l.drop K) by simp [ints, List.map_drop]] at hbx
              have hcx := hc1
              rw [List.drop_zero, show (ints l).take K = ints (l.take K) by simp [ints, List.map_take]] at hcx
              have hbw : Below wr.heap.size wr wr := Below.refl _ _
              clear hb1 hb4 hc1 hc5
              go_region_held3 (fun w' => Below wr.heap.size wr w')
                ((first | assumption | exact bel_drew (by assumption)))
                ((first
                  | (refine step_append_ints (by rfl) _ _ (by rfl) wr.heap.size (.slice none 0 0) [] (by rfl) (OwnInts.nil _ _) _ _ (ints (l.drop K)) (by rfl) (ints_up hbx (by assumption)) (by simp only [List.length_nil, length_ints, List.length_drop]; have := HL.out; omega) (bel_size (by assumption)) ?_
                     intro qa ca2 wa hown1 hg1 hat1
                     have hWa : Below wr.heap.size wr wa := bel_grown hg1 (by assumption) (fun k hk => by simp [Value.ownBlock] at hk)
                     have Hown1 := Lib.hid hown1
                     clear hg1 hat1 hown1)
                  | (refine step_append_ints (by rfl) _ _ (by rfl) wr.heap.size _ _ (by rfl) Hown1.out _ _ (ints (l.take K)) (by rfl) (ints_up hcx (by assumption)) (by simp only [List.length_append, List.length_nil, length_ints, List.length_drop, List.length_take]; have := HL.out; omega) (bel_size (by assumption)) ?_
                     intro qd cd wd hown2 hg2 hat2
                     have hWd : Below wr.heap.size wr wd := bel_grown hg2 (by assumption) (fun k hk => own_ge Hown1.out hk)
                     have Hown2 := Lib.hid hown2
                     clear hg2 hat2 hown2)))
              all_goals
                go_wp2_with
                  (at_builtin
                   refine wpList_append_ints rfl _ _ rfl wd.heap.size (.slice none 0 0) [] rfl (OwnInts.nil _ _) wd.heap.size _ (ints l) rfl (ints_up HLV.out hWd) (by simp only [List.length_nil, length_ints]; have := HL.out; omega) (Nat.le_refl _) ?_
                   intro q5 c5 w5 hown3 hg3 hat3
                   rw [show ([] : List Int).length + (ints l).length = k by rw [length_ints, HL.out]; exact Nat.zero_add _] at hown3 ⊢
                   rw [List.nil_append] at hown3
                   have HB3 : Hid (Below wd.heap.size wd w5) := bel_grown hg3 (Below.refl _ _) (fun k hk => by simp [Value.ownBlock] at hk)
                   have Hown3 := Lib.hid hown3
                   clear hown3 hat3 hg3)
              all_goals
                have hpy := pickF_lt by0 5 (by omega)
                obtain ⟨p5, hp5⟩ : ∃ p5 : Nat, pickF by0 5 = (p5 : Int) := ⟨(pickF by0 5).toNat, by omega⟩
                have hp55 : p5 < 5 := by omega
                have CB : Hid (∀ W, Calls Try.prog 12 #[.int .i64 by0, .int .i64 5] W fun e w' => e = .returned (.int .i64 p5) ∧ W = w') := fun W => by
                  have := pick08_any by0 5 W hby hby' (by omega) (by omega)
                  rw [hp5] at this; exact this
                clear hpy hp5
                obtain ⟨t, ht⟩ : ∃ t, l[K]? = some t := ⟨_, List.getElem?_eq_getElem (by rw [HL.out]; omega)⟩
                have ht20 := Hfit.out t (List.mem_of_getElem? ht)
                obtain ⟨g7, o7, rfl, hg7, hx7⟩ := HLV.out.at K (by rw [length_ints, HL.out]; omega)
                rw [show (ints l)[K]?.getD 0 = (t : Int) by simp [ints, ht]] at hx7
                have hx8 : w5.cell? ⟨g7, o7 + K, none⟩ = some (.int .i64 (t : Nat)) := ((hWd.trans (HB3.out.mono hWd.size)).cell (p := ⟨g7, o7 + K, none⟩) hg7).trans hx7
                obtain ⟨y, hy⟩ : ∃ y : Nat, y = min (t + p5) 20 := ⟨_, rfl⟩
                have hy1 : (if (20 : Int) < (t : Int) + (p5 : Int) then 20 else (t : Int) + (p5 : Int)) = (y : Int) := by rw [hy]; split <;> omega
                have hyt : t ≤ y ∧ y ≤ 20 := by omega
                obtain ⟨b, cap, he, hb1, hb2, hb3, hb4, hb5⟩ := Hown3.out.place (by rw [length_ints, HL.out]; omega)
                rw [length_ints, HL.out] at he
                injection he with he1 he2 he3
                subst he1
                subst he3
                have hcc := hb3 K (by rw [length_ints, HL.out]; omega)
                have hff := hb4 K
                have H5 := Lib.hid (hb5 K (y : Int))
                have hgb : ¬ g7 = b := by have := hWd.size; omega
                have hbg : ¬ b = g7 := fun e => hgb e.symm
                have Ht := Lib.hid ht
                clear hb3 hb4 hb5 ht hy hx7
                refine wp_region_noPanic ?_
                refine wp_region_held_drew (S := (fun w' => w'.cell? ⟨g7, o7 + K, none⟩ = some (.int .i64 (t : Nat)))) (by kernel_rfl) ?_ (fun hHeld => ?_)
                · (go_simp; try assumption)
                refine held_yes (v := ?_) 0 (by simp only [List.getElem?_toArray, List.getElem?_cons_zero]; rfl) (by kernel_rfl) (fun _ _ _ h => h) (by rfl) (by assumption) ?_ ?_
                rotate_left
                · (intro w hSw; (try dsimp only at hSw); go_simp; try with_reducible rfl)
                try simp only [Act.put, List.setIfInBounds_toArray, List.set_cons_zero, List.set_cons_succ]
                refine held_yes (v := ?_) 1 (by simp only [List.getElem?_toArray, List.getElem?_cons_succ, List.getElem?_cons_zero]; rfl) (by kernel_rfl) (fun _ _ _ h => h) (by rfl) (by assumption) ?_ ?_
                rotate_left
                · (intro w hSw; (try dsimp only at hSw); go_simp; try with_reducible rfl)
                try simp only [Act.put, List.setIfInBounds_toArray, List.set_cons_zero, List.set_cons_succ]
                refine held_yes (v := ?_) 2 (by simp only [List.getElem?_toArray, List.getElem?_cons_succ, List.getElem?_cons_zero]; rfl) (by kernel_rfl) (fun _ _ _ h => h) (by rfl) (by assumption) ?_ ?_
                rotate_left
                · (intro w hSw; (try dsimp only at hSw); go_simp; try with_reducible rfl)
                try simp only [Act.put, List.setIfInBounds_toArray, List.set_cons_zero, List.set_cons_succ]
                refine held_yes (v := ?_) 3 (by simp only [List.getElem?_toArray, List.getElem?_cons_succ, List.getElem?_cons_zero]; rfl) (by kernel_rfl) (fun _ _ _ h => h) (by rfl) (by assumption) ?_ ?_
                rotate_left
                · (intro w hSw; (try dsimp only at hSw); go_simp; try with_reducible rfl)
                try simp only [Act.put, List.setIfInBounds_toArray, List.set_cons_zero, List.set_cons_succ]
                refine held_yes (v := ?_) 4 (by simp only [List.getElem?_toArray, List.getElem?_cons_succ, List.getElem?_cons_zero]; rfl) (by kernel_rfl) (fun _ _ _ h => h) (by rfl) (by assumption) ?_ ?_
                rotate_left
                · (intro w hSw; (try dsimp only at hSw); go_simp; try with_reducible rfl)
                try simp only [Act.put, List.setIfInBounds_toArray, List.set_cons_zero, List.set_cons_succ]
                refine held_yes (v := ?_) 5 (by simp only [List.getElem?_toArray, List.getElem?_cons_succ, List.getElem?_cons_zero]; rfl) (by kernel_rfl) (fun _ _ _ h => h) (by rfl) (by assumption) ?_ ?_
                rotate_left
                · (intro w hSw; (try dsimp only at hSw); go_simp; try with_reducible rfl)
                try simp only [Act.put, List.setIfInBounds_toArray, List.set_cons_zero, List.set_cons_succ]
                refine held_yes (v := ?_) 6 (by simp only [List.getElem?_toArray, List.getElem?_cons_succ, List.getElem?_cons_zero]; rfl) (by kernel_rfl) (fun _ _ _ h => h) (by rfl) (by assumption) ?_ ?_
                rotate_left
                · (intro w hSw; (try dsimp only at hSw); go_simp; try with_reducible rfl)
                try simp only [Act.put, List.setIfInBounds_toArray, List.set_cons_zero, List.set_cons_succ]
                refine held_one 7 (by simp only [List.getElem?_toArray, List.getElem?_cons_succ, List.getElem?_cons_zero]; rfl) (by kernel_rfl) (by rfl) (fun K hK => ?_)
                go_simp
                go_at_call 12
                refine (CB.out _).mono ?_
                rintro e w_ ⟨rfl, rfl⟩
                refine hK.out _ _ ?_ (fun hHeld => ?_)
                · (go_simp; try assumption)
                clear hK K
                try simp only [Act.put, List.setIfInBounds_toArray, List.set_cons_zero, List.set_cons_succ]
                refine held_yes (v := ?_) 8 (by simp only [List.getElem?_toArray, List.getElem?_cons_succ, List.getElem?_cons_zero]; rfl) (by kernel_rfl) (fun _ _ _ h => h) (by rfl) (by assumption) ?_ ?_
                rotate_left
                · (intro w hSw; (try dsimp only at hSw); go_simp; try with_reducible rfl)
                try simp only [Act.put, List.setIfInBounds_toArray, List.set_cons_zero, List.set_cons_succ]
                refine held_yes (v := ?_) 9 (by simp only [List.getElem?_toArray, List.getElem?_cons_succ, List.getElem?_cons_zero]; rfl) (by kernel_rfl) (fun _ _ _ h => h) (by rfl) (by assumption) ?_ ?_
                rotate_left
                · (intro w hSw; (try dsimp only at hSw); go_simp; try with_reducible rfl)
                try simp only [Act.put, List.setIfInBounds_toArray, List.set_cons_zero, List.set_cons_succ]
                refine held_yes (v := ?_) 10 (by simp only [List.getElem?_toArray, List.getElem?_cons_succ, List.getElem?_cons_zero]; rfl) (by kernel_rfl) (fun _ _ _ h => h) (by rfl) (by assumption) ?_ ?_
                rotate_left
                · (intro w hSw; (try dsimp only at hSw); go_simp; try with_reducible rfl)
                try simp only [Act.put, List.setIfInBounds_toArray, List.set_cons_zero, List.set_cons_succ]
                refine held_one 11 (by simp only [List.getElem?_toArray, List.getElem?_cons_succ, List.getElem?_cons_zero]; rfl) (by kernel_rfl) (by rfl) (fun K hK => ?_)
                go_simp
                skip
                refine hK.out _ _ ?_ (fun hHeld => ?_)
                · (go_simp; try assumption)
                clear hK K
                try simp only [Act.put, List.setIfInBounds_toArray, List.set_cons_zero, List.set_cons_succ]
                refine wpAnyH_done (by kernel_rfl) ?_ _
                refine NoPanic.normal ?_
              all_goals go_wp2_with fail
              all_goals
                have hWk : Below wr.heap.size wr (w5.setCell ⟨b, K, none⟩ (.int .i64 (y : Nat))).drew := (bel_set (hWd.trans (HB3.out.mono hWd.size)) (by have := hWd.size; omega) K _).drew
                have hkf := check_fits Hfit.out (by rw [HL.out]; omega) (by rw [HL.out]; omega)
                have hkt := check_fits (fits_turned Hfit.out K) (by rw [List.length_append, List.length_drop, List.length_take]; have := HL.out; omega) (by rw [List.length_append, List.length_drop, List.length_take]; have := HL.out; omega)
                rw [kraft_turned] at hkt
                rw [if_pos hK] at hkf hkt
                refine (aw8_chk _ _ (ints l) 6 (ints_up HLV.out hWk) (by rw [length_ints, HL.out]; omega) hkf).mono ?_
                rintro e w6 ⟨rfl, hB6⟩
                have hW6 : Below wd.heap.size wd w6 := bel_call hB6 (bel_set HB3.out hb1 K _).drew
                have hW6r := bel_call hB6 hWk
                have hturn := ints_up Hown2.out.is hW6
                rw [show ([] ++ ints (l.drop K)) ++ ints (l.take K) = ints (l.drop K ++ l.take K) by simp [ints]] at hturn
                go_wp2_with fail
                refine (aw8_chk _ _ _ 6 hturn (by rw [length_ints, List.length_append, List.length_drop, List.length_take]; have := HL.out; omega) hkt).mono ?_
                rintro e w7 ⟨rfl, hB7⟩
                go_wp2
                go_ret
                exact ⟨by rfl, HB.out.trans ((bel_call hB7 hW6r).mono hzB)⟩
            · go_wp2_with fail
              refine (CP.out _).mono ?_
              rintro e w_ ⟨rfl, rfl⟩
              go_wp2_with fail
              obtain ⟨vb, hb1, ⟨qb, cb, hb2⟩, _, hb4, _⟩ := HLV.out.cut K k (by omega) (Nat.le_refl _)
              subst hb2
              have hsb := hb4 rfl
              obtain ⟨vc, hc1, ⟨qc, cc, hc2⟩, _, _, hc5⟩ := HLV.out.cut 0 K (Nat.zero_le _) (by omega)
              subst hc2
              have hsc := hc5 rfl
              have hbx := hb1
              rw [List.take_of_length_le (by rw [length_ints, HL.out]; exact Nat.le_refl _), show (ints l).drop K = ints (l.drop K) by simp [ints, List.map_drop]] at hbx
              have hcx := hc1
              rw [List.drop_zero, show (ints l).take K = ints (l.take K) by simp [ints, List.map_take]] at hcx
              have hbw : Below wr.heap.size wr wr := Below.refl _ _
              clear hb1 hb4 hc1 hc5
              go_region_held3 (fun w' => Below wr.heap.size wr w')
                ((first | assumption | exact bel_drew (by assumption)))
                ((first
                  | (refine step_append_ints (by rfl) _ _ (by rfl) wr.heap.size (.slice none 0 0) [] (by rfl) (OwnInts.nil _ _) _ _ (ints (l.drop K)) (by rfl) (ints_up hbx (by assumption)) (by simp only [List.length_nil, length_ints, List.length_drop]; have := HL.out; omega) (bel_size (by assumption)) ?_
                     intro qa ca2 wa hown1 hg1 hat1
                     have hWa : Below wr.heap.size wr wa := bel_grown hg1 (by assumption) (fun k hk => by simp [Value.ownBlock] at hk)
                     have Hown1 := Lib.hid hown1
                     clear hg1 hat1 hown1)
                  | (refine step_append_ints (by rfl) _ _ (by rfl) wr.heap.size _ _ (by rfl) Hown1.out _ _ (ints (l.take K)) (by rfl) (ints_up hcx (by assumption)) (by simp only [List.length_append, List.length_nil, length_ints, List.length_drop, List.length_take]; have := HL.out; omega) (bel_size (by assumption)) ?_
                     intro qd cd wd hown2 hg2 hat2
                     have hWd : Below wr.heap.size wr wd := bel_grown hg2 (by assumption) (fun k hk => own_ge Hown1.out hk)
                     have Hown2 := Lib.hid hown2
                     clear hg2 hat2 hown2)))
              all_goals
                go_wp2_with
                  (at_builtin
                   refine wpList_append_ints rfl _ _ rfl wd.heap.size (.slice none 0 0) [] rfl (OwnInts.nil _ _) wd.heap.size _ (ints l) rfl (ints_up HLV.out hWd) (by simp only [List.length_nil, length_ints]; have := HL.out; omega) (Nat.le_refl _) ?_
                   intro q5 c5 w5 hown3 hg3 hat3
                   rw [show ([] : List Int).length + (ints l).length = k by rw [length_ints, HL.out]; exact Nat.zero_add _] at hown3 ⊢
                   rw [List.nil_append] at hown3
                   have HB3 : Hid (Below wd.heap.size wd w5) := bel_grown hg3 (Below.refl _ _) (fun k hk => by simp [Value.ownBlock] at hk)
                   have Hown3 := Lib.hid hown3
                   clear hown3 hat3 hg3)
              all_goals
                have hpy := pickF_lt by0 5 (by omega)
                obtain ⟨p5, hp5⟩ : ∃ p5 : Nat, pickF by0 5 = (p5 : Int) := ⟨(pickF by0 5).toNat, by omega⟩
                have hp55 : p5 < 5 := by omega
                have CB : Hid (∀ W, Calls Try.prog 12 #[.int .i64 by0, .int .i64 5] W fun e w' => e = .returned (.int .i64 p5) ∧ W = w') := fun W => by
                  have := pick08_any by0 5 W hby hby' (by omega) (by omega)
                  rw [hp5] at this; exact this
                clear hpy hp5
                obtain ⟨t, ht⟩ : ∃ t, l[K]? = some t := ⟨_, List.getElem?_eq_getElem (by rw [HL.out]; omega)⟩
                have ht20 := Hfit.out t (List.mem_of_getElem? ht)
                obtain ⟨g7, o7, rfl, hg7, hx7⟩ := HLV.out.at K (by rw [length_ints, HL.out]; omega)
                rw [show (ints l)[K]?.getD 0 = (t : Int) by simp [ints, ht]] at hx7
                have hx8 : w5.cell? ⟨g7, o7 + K, none⟩ = some (.int .i64 (t : Nat)) := ((hWd.trans (HB3.out.mono hWd.size)).cell (p := ⟨g7, o7 + K, none⟩) hg7).trans hx7
                obtain ⟨y, hy⟩ : ∃ y : Nat, y = min (t + p5) 20 := ⟨_, rfl⟩
                have hy1 : (if (20 : Int) < (t : Int) + (p5 : Int) then 20 else (t : Int) + (p5 : Int)) = (y : Int) := by rw [hy]; split <;> omega
                have hyt : t ≤ y ∧ y ≤ 20 := by omega
                obtain ⟨b, cap, he, hb1, hb2, hb3, hb4, hb5⟩ := Hown3.out.place (by rw [length_ints, HL.out]; omega)
                rw [length_ints, HL.out] at he
                injection he with he1 he2 he3
                subst he1
                subst he3
                have hcc := hb3 K (by rw [length_ints, HL.out]; omega)
                have hff := hb4 K
                have H5 := Lib.hid (hb5 K (y : Int))
                have hgb : ¬ g7 = b := by have := hWd.size; omega
                have hbg : ¬ b = g7 := fun e => hgb e.symm
                have Ht := Lib.hid ht
                clear hb3 hb4 hb5 ht hy hx7
                refine wp_region_noPanic ?_
                refine wp_region_held_drew (S := (fun w' => w'.cell? ⟨g7, o7 + K, none⟩ = some (.int .i64 (t : Nat)))) (by kernel_rfl) ?_ (fun hHeld => ?_)
                · (go_simp; try assumption)
                refine held_yes (v := ?_) 0 (by simp only [List.getElem?_toArray, List.getElem?_cons_zero]; rfl) (by kernel_rfl) (fun _ _ _ h => h) (by rfl) (by assumption) ?_ ?_
                rotate_left
                · (intro w hSw; (try dsimp only at hSw); go_simp; try with_reducible rfl)
                try simp only [Act.put, List.setIfInBounds_toArray, List.set_cons_zero, List.set_cons_succ]
                refine held_yes (v := ?_) 1 (by simp only [List.getElem?_toArray, List.getElem?_cons_succ, List.getElem?_cons_zero]; rfl) (by kernel_rfl) (fun _ _ _ h => h) (by rfl) (by assumption) ?_ ?_
                rotate_left
                · (intro w hSw; (try dsimp only at hSw); go_simp; try with_reducible rfl)
                try simp only [Act.put, List.setIfInBounds_toArray, List.set_cons_zero, List.set_cons_succ]
                refine held_yes (v := ?_) 2 (by simp only [List.getElem?_toArray, List.getElem?_cons_succ, List.getElem?_cons_zero]; rfl) (by kernel_rfl) (fun _ _ _ h => h) (by rfl) (by assumption) ?_ ?_
                rotate_left
                · (intro w hSw; (try dsimp only at hSw); go_simp; try with_reducible rfl)
                try simp only [Act.put, List.setIfInBounds_toArray, List.set_cons_zero, List.set_cons_succ]
                refine held_yes (v := ?_) 3 (by simp only [List.getElem?_toArray, List.getElem?_cons_succ, List.getElem?_cons_zero]; rfl) (by kernel_rfl) (fun _ _ _ h => h) (by rfl) (by assumption) ?_ ?_
                rotate_left
                · (intro w hSw; (try dsimp only at hSw); go_simp; try with_reducible rfl)
                try simp only [Act.put, List.setIfInBounds_toArray, List.set_cons_zero, List.set_cons_succ]
                refine held_yes (v := ?_) 4 (by simp only [List.getElem?_toArray, List.getElem?_cons_succ, List.getElem?_cons_zero]; rfl) (by kernel_rfl) (fun _ _ _ h => h) (by rfl) (by assumption) ?_ ?_
                rotate_left
                · (intro w hSw; (try dsimp only at hSw); go_simp; try with_reducible rfl)
                try simp only [Act.put, List.setIfInBounds_toArray, List.set_cons_zero, List.set_cons_succ]
                refine held_yes (v := ?_) 5 (by simp only [List.getElem?_toArray, List.getElem?_cons_succ, List.getElem?_cons_zero]; rfl) (by kernel_rfl) (fun _ _ _ h => h) (by rfl) (by assumption) ?_ ?_
                rotate_left
                · (intro w hSw; (try dsimp only at hSw); go_simp; try with_reducible rfl)
                try simp only [Act.put, List.setIfInBounds_toArray, List.set_cons_zero, List.set_cons_succ]
                refine held_yes (v := ?_) 6 (by simp only [List.getElem?_toArray, List.getElem?_cons_succ, List.getElem?_cons_zero]; rfl) (by kernel_rfl) (fun _ _ _ h => h) (by rfl) (by assumption) ?_ ?_
                rotate_left
                · (intro w hSw; (try dsimp only at hSw); go_simp; try with_reducible rfl)
                try simp only [Act.put, List.setIfInBounds_toArray, List.set_cons_zero, List.set_cons_succ]
                refine held_one 7 (by simp only [List.getElem?_toArray, List.getElem?_cons_succ, List.getElem?_cons_zero]; rfl) (by kernel_rfl) (by rfl) (fun K hK => ?_)
                go_simp
                go_at_call 12
                refine (CB.out _).mono ?_
                rintro e w_ ⟨rfl, rfl⟩
                refine hK.out _ _ ?_ (fun hHeld => ?_)
                · (go_simp; try assumption)
                clear hK K
                try simp only [Act.put, List.setIfInBounds_toArray, List.set_cons_zero, List.set_cons_succ]
                refine held_yes (v := ?_) 8 (by simp only [List.getElem?_toArray, List.getElem?_cons_succ, List.getElem?_cons_zero]; rfl) (by kernel_rfl) (fun _ _ _ h => h) (by rfl) (by assumption) ?_ ?_
                rotate_left
                · (intro w hSw; (try dsimp only at hSw); go_simp; try with_reducible rfl)
                try simp only [Act.put, List.setIfInBounds_toArray, List.set_cons_zero, List.set_cons_succ]
                refine held_yes (v := ?_) 9 (by simp only [List.getElem?_toArray, List.getElem?_cons_succ, List.getElem?_cons_zero]; rfl) (by kernel_rfl) (fun _ _ _ h => h) (by rfl) (by assumption) ?_ ?_
                rotate_left
                · (intro w hSw; (try dsimp only at hSw); go_simp; try with_reducible rfl)
                try simp only [Act.put, List.setIfInBounds_toArray, List.set_cons_zero, List.set_cons_succ]
                refine held_yes (v := ?_) 10 (by simp only [List.getElem?_toArray, List.getElem?_cons_succ, List.getElem?_cons_zero]; rfl) (by kernel_rfl) (fun _ _ _ h => h) (by rfl) (by assumption) ?_ ?_
                rotate_left
                · (intro w hSw; (try dsimp only at hSw); go_simp; try with_reducible rfl)
                try simp only [Act.put, List.setIfInBounds_toArray, List.set_cons_zero, List.set_cons_succ]
                refine held_one 11 (by simp only [List.getElem?_toArray, List.getElem?_cons_succ, List.getElem?_cons_zero]; rfl) (by kernel_rfl) (by rfl) (fun K hK => ?_)
                go_simp
                skip
                refine hK.out _ _ ?_ (fun hHeld => ?_)
                · (go_simp; try assumption)
                clear hK K
                try simp only [Act.put, List.setIfInBounds_toArray, List.set_cons_zero, List.set_cons_succ]
                refine wpAnyH_done (by kernel_rfl) ?_ _
                refine NoPanic.normal ?_
              all_goals go_wp2_with fail
              all_goals
                have hWk : Below wr.heap.size wr (w5.setCell ⟨b, K, none⟩ (.int .i64 (y : Nat))).drew := (bel_set (hWd.trans (HB3.out.mono hWd.size)) (by have := hWd.size; omega) K _).drew
                have hkf := check_fits Hfit.out (by rw [HL.out]; omega) (by rw [HL.out]; omega)
                have hkt := check_fits (fits_turned Hfit.out K) (by rw [List.length_append, List.length_drop, List.length_take]; have := HL.out; omega) (by rw [List.length_append, List.length_drop, List.length_take]; have := HL.out; omega)
                rw [kraft_turned] at hkt
                rw [if_neg hK] at hkf hkt
                refine (aw8_chk _ _ (ints l) 0 (ints_up HLV.out hWk) (by rw [length_ints, HL.out]; omega) hkf).mono ?_
                rintro e w6 ⟨rfl, hB6⟩
                have hW6 : Below wd.heap.size wd w6 := bel_call hB6 (bel_set HB3.out hb1 K _).drew
                have hW6r := bel_call hB6 hWk
                have hturn := ints_up Hown2.out.is hW6
                rw [show ([] ++ ints (l.drop K)) ++ ints (l.take K) = ints (l.drop K ++ l.take K) by simp [ints]] at hturn
                go_wp2_with fail
                refine (aw8_chk _ _ _ 0 hturn (by rw [length_ints, List.length_append, List.length_drop, List.length_take]; have := HL.out; omega) hkt).mono ?_
                rintro e w7 ⟨rfl, hB7⟩
                go_wp2_with fail
                have hlong := ints_up H5.out.1.is (bel_call hB7 (bel_call hB6 (Below.refl _ _).drew))
                rw [ints_set8] at hlong
                have hkg := check_fits (fits_set Hfit.out K y (by omega)) (by rw [List.length_set, HL.out]; omega) (by rw [List.length_set, HL.out]; omega)
                rw [if_neg (by have := kraft_longer l K t y Ht.out hyt.1; omega)] at hkg
                rw [length_ints, HL.out] at hlong
                refine (aw8_chk _ _ _ 0 hlong (by rw [length_ints, List.length_set, HL.out]; omega) hkg).mono ?_
                rintro e w8 ⟨rfl, hB8⟩
                go_wp2
                go_ret
                exact ⟨by rfl, HB.out.trans ((bel_call hB8 (bel_call hB7 hW6r)).mono hzB)⟩
      · have hiN2 : ¬ i < N := by omega
        clear hgo2 hz
        go_wp2_with fail
        go_loopw [11, 12] (fun av kv ws => wr = ws ∧ ∃ k : Nat, k ≤ L ∧ kv = .int .i64 k ∧ av = .int .i64 (kraft (l.take k) : Nat)) (fun _ kv _ => L + 1 - (intOf kv).toNat)
        case atStart => exact ⟨rfl, 0, Nat.zero_le _, rfl, rfl⟩
        case round =>
          obtain ⟨rfl, k, hk, rfl, rfl⟩ := hrel
          by_cases hit : k < L
          · obtain ⟨t, ht⟩ : ∃ t, l[k]? = some t := ⟨_, List.getElem?_eq_getElem (by rw [HL.out]; exact hit)⟩
            obtain ⟨g1, o1, rfl, hg1, hx1⟩ := HLV.out.at k (by rw [length_ints, HL.out]; exact hit)
            rw [show (ints l)[k]?.getD 0 = (t : Int) by simp [ints, ht]] at hx1
            have ht20 := Hfit.out t (List.mem_of_getElem? ht)
            have Hnx : Hid (kraft (l.take (k + 1)) = kraft (l.take k) + 2 ^ (20 - t)) := by
              show _ = _
              rw [List.take_add_one, ht]
              exact kraft_snoc _ _
            have hle := kraft_le (l.take k)
            have hlt2 : (l.take k).length ≤ k := by simp; omega
            generalize kraft (l.take k) = y at *
            have h1p : 2 ^ (20 - t) ≤ 2 ^ 20 := Nat.pow_le_pow_right (by omega) (by omega)
            have h2p : (2 : Nat) ^ 20 = 1048576 := by decide
            have hw : IntKind.i64.wrap (20 - (t : Int)) = ((20 - t : Nat) : Int) := by rw [IntWalk.i64_in _ (by omega)]; omega
            clear ht
            go_wp2
            go_roundw
            case rel => exact ⟨trivial, k + 1, by omega, by go_num, by rw [Hnx.out, pow_cast, wrap_sum _ _ (by omega) (by omega)]⟩
            case measure => simp [intOf]; omega
          · obtain rfl : k = L := by omega
            rw [Hend.out]
            by_cases hK : 1048576 < kraft l
            · go_wp2_with fail
              refine (CP.out _).mono ?_
              rintro e w_ ⟨rfl, rfl⟩
              go_wp2_with fail
              obtain ⟨vb, hb1, ⟨qb, cb, hb2⟩, _, hb4, _⟩ := HLV.out.cut K k (by omega) (Nat.le_refl _)
              subst hb2
              have hsb := hb4 rfl
              obtain ⟨vc, hc1, ⟨qc, cc, hc2⟩, _, _, hc5⟩ := HLV.out.cut 0 K (Nat.zero_le _) (by omega)
              subst hc2
              have hsc := hc5 rfl
              have hbx := hb1
              rw [List.take_of_length_le (by rw [length_ints, HL.out]; exact Nat.le_refl _), show (ints l).drop K = ints (l.drop K) by simp [ints, List.map_drop]] at hbx
              have hcx := hc1
              rw [List.drop_zero, show (ints l).take K = ints (l.take K) by simp [ints, List.map_take]] at hcx
              have hbw : Below wr.heap.size wr wr := Below.refl _ _
              clear hb1 hb4 hc1 hc5
              go_region_held3 (fun w' => Below wr.heap.size wr w')
                ((first | assumption | exact bel_drew (by assumption)))
                ((first
                  | (refine step_append_ints (by rfl) _ _ (by rfl) wr.heap.size (.slice none 0 0) [] (by rfl) (OwnInts.nil _ _) _ _ (ints (l.drop K)) (by rfl) (ints_up hbx (by assumption)) (by simp only [List.length_nil, length_ints, List.length_drop]; have := HL.out; omega) (bel_size (by assumption)) ?_
                     intro qa ca2 wa hown1 hg1 hat1
                     have hWa : Below wr.heap.size wr wa := bel_grown hg1 (by assumption) (fun k hk => by simp [Value.ownBlock] at hk)
                     have Hown1 := Lib.hid hown1
                     clear hg1 hat1 hown1)
                  | (refine step_append_ints (by rfl) _ _ (by rfl) wr.heap.size _ _ (by rfl) Hown1.out _ _ (ints (l.take K)) (by rfl) (ints_up hcx (by assumption)) (by simp only [List.length_append, List.length_nil, length_ints, List.length_drop, List.length_take]; have := HL.out; omega) (bel_size (by assumption)) ?_
                     intro qd cd wd hown2 hg2 hat2
                     have hWd : Below wr.heap.size wr wd := bel_grown hg2 (by assumption) (fun k hk => own_ge Hown1.out hk)
                     have Hown2 := Lib.hid hown2
                     clear hg2 hat2 hown2)))
              all_goals
                go_wp2_with
                  (at_builtin
                   refine wpList_append_ints rfl _ _ rfl wd.heap.size (.slice none 0 0) [] rfl (OwnInts.nil _ _) wd.heap.size _ (ints l) rfl (ints_up HLV.out hWd) (by simp only [List.length_nil, length_ints]; have := HL.out; omega) (Nat.le_refl _) ?_
                   intro q5 c5 w5 hown3 hg3 hat3
                   rw [show ([] : List Int).length + (ints l).length = k by rw [length_ints, HL.out]; exact Nat.zero_add _] at hown3 ⊢
                   rw [List.nil_append] at hown3
                   have HB3 : Hid (Below wd.heap.size wd w5) := bel_grown hg3 (Below.refl _ _) (fun k hk => by simp [Value.ownBlock] at hk)
                   have Hown3 := Lib.hid hown3
                   clear hown3 hat3 hg3)
              all_goals
                have hpy := pickF_lt by0 5 (by omega)
                obtain ⟨p5, hp5⟩ : ∃ p5 : Nat, pickF by0 5 = (p5 : Int) := ⟨(pickF by0 5).toNat, by omega⟩
                have hp55 : p5 < 5 := by omega
                have CB : Hid (∀ W, Calls Try.prog 12 #[.int .i64 by0, .int .i64 5] W fun e w' => e = .returned (.int .i64 p5) ∧ W = w') := fun W => by
                  have := pick08_any by0 5 W hby hby' (by omega) (by omega)
                  rw [hp5] at this; exact this
                clear hpy hp5
                obtain ⟨t, ht⟩ : ∃ t, l[K]? = some t := ⟨_, List.getElem?_eq_getElem (by rw [HL.out]; omega)⟩
                have ht20 := Hfit.out t (List.mem_of_getElem? ht)
                obtain ⟨g7, o7, rfl, hg7, hx7⟩ := HLV.out.at K (by rw [length_ints, HL.out]; omega)
                rw [show (ints l)[K]?.getD 0 = (t : Int) by simp [ints, ht]] at hx7
                have hx8 : w5.cell? ⟨g7, o7 + K, none⟩ = some (.int .i64 (t : Nat)) := ((hWd.trans (HB3.out.mono hWd.size)).cell (p := ⟨g7, o7 + K, none⟩) hg7).trans hx7
                obtain ⟨y, hy⟩ : ∃ y : Nat, y = min (t + p5) 20 := ⟨_, rfl⟩
                have hy1 : (if (20 : Int) < (t : Int) + (p5 : Int) then 20 else (t : Int) + (p5 : Int)) = (y : Int) := by rw [hy]; split <;> omega
                have hyt : t ≤ y ∧ y ≤ 20 := by omega
                obtain ⟨b, cap, he, hb1, hb2, hb3, hb4, hb5⟩ := Hown3.out.place (by rw [length_ints, HL.out]; omega)
                rw [length_ints, HL.out] at he
                injection he with he1 he2 he3
                subst he1
                subst he3
                have hcc := hb3 K (by rw [length_ints, HL.out]; omega)
                have hff := hb4 K
                have H5 := Lib.hid (hb5 K (y : Int))
                have hgb : ¬ g7 = b := by have := hWd.size; omega
                have hbg : ¬ b = g7 := fun e => hgb e.symm
                have Ht := Lib.hid ht
                clear hb3 hb4 hb5 ht hy hx7
                refine wp_region_noPanic ?_
                refine wp_region_held_drew (S := (fun w' => w'.cell? ⟨g7, o7 + K, none⟩ = some (.int .i64 (t : Nat)))) (by kernel_rfl) ?_ (fun hHeld => ?_)
                · (go_simp; try assumption)
                refine held_yes (v := ?_) 0 (by simp only [List.getElem?_toArray, List.getElem?_cons_zero]; rfl) (by kernel_rfl) (fun _ _ _ h => h) (by rfl) (by assumption) ?_ ?_
                rotate_left
                · (intro w hSw; (try dsimp only at hSw); go_simp; try with_reducible rfl)
                try simp only [Act.put, List.setIfInBounds_toArray, List.set_cons_zero, List.set_cons_succ]
                refine held_yes (v := ?_) 1 (by simp only [List.getElem?_toArray, List.getElem?_cons_succ, List.getElem?_cons_zero]; rfl) (by kernel_rfl) (fun _ _ _ h => h) (by rfl) (by assumption) ?_ ?_
                rotate_left
                · (intro w hSw; (try dsimp only at hSw); go_simp; try with_reducible rfl)
                try simp only [Act.put, List.setIfInBounds_toArray, List.set_cons_zero, List.set_cons_succ]
                refine held_yes (v := ?_) 2 (by simp only [List.getElem?_toArray, List.getElem?_cons_succ, List.getElem?_cons_zero]; rfl) (by kernel_rfl) (fun _ _ _ h => h) (by rfl) (by assumption) ?_ ?_
                rotate_left
                · (intro w hSw; (try dsimp only at hSw); go_simp; try with_reducible rfl)
                try simp only [Act.put, List.setIfInBounds_toArray, List.set_cons_zero, List.set_cons_succ]
                refine held_yes (v := ?_) 3 (by simp only [List.getElem?_toArray, List.getElem?_cons_succ, List.getElem?_cons_zero]; rfl) (by kernel_rfl) (fun _ _ _ h => h) (by rfl) (by assumption) ?_ ?_
                rotate_left
                · (intro w hSw; (try dsimp only at hSw); go_simp; try with_reducible rfl)
                try simp only [Act.put, List.setIfInBounds_toArray, List.set_cons_zero, List.set_cons_succ]
                refine held_yes (v := ?_) 4 (by simp only [List.getElem?_toArray, List.getElem?_cons_succ, List.getElem?_cons_zero]; rfl) (by kernel_rfl) (fun _ _ _ h => h) (by rfl) (by assumption) ?_ ?_
                rotate_left
                · (intro w hSw; (try dsimp only at hSw); go_simp; try with_reducible rfl)
                try simp only [Act.put, List.setIfInBounds_toArray, List.set_cons_zero, List.set_cons_succ]
                refine held_yes (v := ?_) 5 (by simp only [List.getElem?_toArray, List.getElem?_cons_succ, List.getElem?_cons_zero]; rfl) (by kernel_rfl) (fun _ _ _ h => h) (by rfl) (by assumption) ?_ ?_
                rotate_left
                · (intro w hSw; (try dsimp only at hSw); go_simp; try with_reducible rfl)
                try simp only [Act.put, List.setIfInBounds_toArray, List.set_cons_zero, List.set_cons_succ]
                refine held_yes (v := ?_) 6 (by simp only [List.getElem?_toArray, List.getElem?_cons_succ, List.getElem?_cons_zero]; rfl) (by kernel_rfl) (fun _ _ _ h => h) (by rfl) (by assumption) ?_ ?_
                rotate_left
                · (intro w hSw; (try dsimp only at hSw); go_simp; try with_reducible rfl)
                try simp only [Act.put, List.setIfInBounds_toArray, List.set_cons_zero, List.set_cons_succ]
                refine held_one 7 (by simp only [List.getElem?_toArray, List.getElem?_cons_succ, List.getElem?_cons_zero]; rfl) (by kernel_rfl) (by rfl) (fun K hK => ?_)
                go_simp
                go_at_call 12
                refine (CB.out _).mono ?_
                rintro e w_ ⟨rfl, rfl⟩
                refine hK.out _ _ ?_ (fun hHeld => ?_)
                · (go_simp; try assumption)
                clear hK K
                try simp only [Act.put, List.setIfInBounds_toArray, List.set_cons_zero, List.set_cons_succ]
                refine held_yes (v := ?_) 8 (by simp only [List.getElem?_toArray, List.getElem?_cons_succ, List.getElem?_cons_zero]; rfl) (by kernel_rfl) (fun _ _ _ h => h) (by rfl) (by assumption) ?_ ?_
                rotate_left
                · (intro w hSw; (try dsimp only at hSw); go_simp; try with_reducible rfl)
                try simp only [Act.put, List.setIfInBounds_toArray, List.set_cons_zero, List.set_cons_succ]
                refine held_yes (v := ?_) 9 (by simp only [List.getElem?_toArray, List.getElem?_cons_succ, List.getElem?_cons_zero]; rfl) (by kernel_rfl) (fun _ _ _ h => h) (by rfl) (by assumption) ?_ ?_
                rotate_left
                · (intro w hSw; (try dsimp only at hSw); go_simp; try with_reducible rfl)
                try simp only [Act.put, List.setIfInBounds_toArray, List.set_cons_zero, List.set_cons_succ]
                refine held_yes (v := ?_) 10 (by simp only [List.getElem?_toArray, List.getElem?_cons_succ, List.getElem?_cons_zero]; rfl) (by kernel_rfl) (fun _ _ _ h => h) (by rfl) (by assumption) ?_ ?_
                rotate_left
                · (intro w hSw; (try dsimp only at hSw); go_simp; try with_reducible rfl)
                try simp only [Act.put, List.setIfInBounds_toArray, List.set_cons_zero, List.set_cons_succ]
                refine held_one 11 (by simp only [List.getElem?_toArray, List.getElem?_cons_succ, List.getElem?_cons_zero]; rfl) (by kernel_rfl) (by rfl) (fun K hK => ?_)
                go_simp
                skip
                refine hK.out _ _ ?_ (fun hHeld => ?_)
                · (go_simp; try assumption)
                clear hK K
                try simp only [Act.put, List.setIfInBounds_toArray, List.set_cons_zero, List.set_cons_succ]
                refine wpAnyH_done (by kernel_rfl) ?_ _
                refine NoPanic.normal ?_
              all_goals go_wp2_with fail
              all_goals
                have hWk : Below wr.heap.size wr (w5.setCell ⟨b, K, none⟩ (.int .i64 (y : Nat))).drew := (bel_set (hWd.trans (HB3.out.mono hWd.size)) (by have := hWd.size; omega) K _).drew
                have hkf := check_fits Hfit.out (by rw [HL.out]; omega) (by rw [HL.out]; omega)
                have hkt := check_fits (fits_turned Hfit.out K) (by rw [List.length_append, List.length_drop, List.length_take]; have := HL.out; omega) (by rw [List.length_append, List.length_drop, List.length_take]; have := HL.out; omega)
                rw [kraft_turned] at hkt
                rw [if_pos hK] at hkf hkt
                refine (aw8_chk _ _ (ints l) 6 (ints_up HLV.out hWk) (by rw [length_ints, HL.out]; omega) hkf).mono ?_
                rintro e w6 ⟨rfl, hB6⟩
                have hW6 : Below wd.heap.size wd w6 := bel_call hB6 (bel_set HB3.out hb1 K _).drew
                have hW6r := bel_call hB6 hWk
                have hturn := ints_up Hown2.out.is hW6
                rw [show ([] ++ ints (l.drop K)) ++ ints (l.take K) = ints (l.drop K ++ l.take K) by simp [ints]] at hturn
                go_wp2_with fail
                refine (aw8_chk _ _ _ 6 hturn (by rw [length_ints, List.length_append, List.length_drop, List.length_take]; have := HL.out; omega) hkt).mono ?_
                rintro e w7 ⟨rfl, hB7⟩
                go_wp2
                go_ret
                exact ⟨by rfl, HB.out.trans ((bel_call hB7 hW6r).mono hzB)⟩
            · go_wp2_with fail
              refine (CP.out _).mono ?_
              rintro e w_ ⟨rfl, rfl⟩
              go_wp2_with fail
              obtain ⟨vb, hb1, ⟨qb, cb, hb2⟩, _, hb4, _⟩ := HLV.out.cut K k (by omega) (Nat.le_refl _)
              subst hb2
              have hsb := hb4 rfl
              obtain ⟨vc, hc1, ⟨qc, cc, hc2⟩, _, _, hc5⟩ := HLV.out.cut 0 K (Nat.zero_le _) (by omega)
              subst hc2
              have hsc := hc5 rfl
              have hbx := hb1
              rw [List.take_of_length_le (by rw [length_ints, HL.out]; exact Nat.le_refl _), show (ints l).drop K = ints (l.drop K) by simp [ints, List.map_drop]] at hbx
              have hcx := hc1
              rw [List.drop_zero, show (ints l).take K = ints (l.take K) by simp [ints, List.map_take]] at hcx
              have hbw : Below wr.heap.size wr wr := Below.refl _ _
              clear hb1 hb4 hc1 hc5
              go_region_held3 (fun w' => Below wr.heap.size wr w')
                ((first | assumption | exact bel_drew (by assumption)))
                ((first
                  | (refine step_append_ints (by rfl) _ _ (by rfl) wr.heap.size (.slice none 0 0) [] (by rfl) (OwnInts.nil _ _) _ _ (ints (l.drop K)) (by rfl) (ints_up hbx (by assumption)) (by simp only [List.length_nil, length_ints, List.length_drop]; have := HL.out; omega) (bel_size (by assumption)) ?_
                     intro qa ca2 wa hown1 hg1 hat1
                     have hWa : Below wr.heap.size wr wa := bel_grown hg1 (by assumption) (fun k hk => by simp [Value.ownBlock] at hk)
                     have Hown1 := Lib.hid hown1
                     clear hg1 hat1 hown1)
                  | (refine step_append_ints (by rfl) _ _ (by rfl) wr.heap.size _ _ (by rfl) Hown1.out _ _ (ints (l.take K)) (by rfl) (ints_up hcx (by assumption)) (by simp only [List.length_append, List.length_nil, length_ints, List.length_drop, List.length_take]; have := HL.out; omega) (bel_size (by assumption)) ?_
                     intro qd cd wd hown2 hg2 hat2
                     have hWd : Below wr.heap.size wr wd := bel_grown hg2 (by assumption) (fun k hk => own_ge Hown1.out hk)
                     have Hown2 := Lib.hid hown2
                     clear hg2 hat2 hown2)))
              all_goals
                go_wp2_with
                  (at_builtin
                   refine wpList_append_ints rfl _ _ rfl wd.heap.size (.slice none 0 0) [] rfl (OwnInts.nil _ _) wd.heap.size _ (ints l) rfl (ints_up HLV.out hWd) (by simp only [List.length_nil, length_ints]; have := HL.out; omega) (Nat.le_refl _) ?_
                   intro q5 c5 w5 hown3 hg3 hat3
                   rw [show ([] : List Int).length + (ints l).length = k by rw [length_ints, HL.out]; exact Nat.zero_add _] at hown3 ⊢
                   rw [List.nil_append] at hown3
                   have HB3 : Hid (Below wd.heap.size wd w5) := bel_grown hg3 (Below.refl _ _) (fun k hk => by simp [Value.ownBlock] at hk)
                   have Hown3 := Lib.hid hown3
                   clear hown3 hat3 hg3)
              all_goals
                have hpy := pickF_lt by0 5 (by omega)
                obtain ⟨p5, hp5⟩ : ∃ p5 : Nat, pickF by0 5 = (p5 : Int) := ⟨(pickF by0 5).toNat, by omega⟩
                have hp55 : p5 < 5 := by omega
                have CB : Hid (∀ W, Calls Try.prog 12 #[.int .i64 by0, .int .i64 5] W fun e w' => e = .returned (.int .i64 p5) ∧ W = w') := fun W => by
                  have := pick08_any by0 5 W hby hby' (by omega) (by omega)
                  rw [hp5] at this; exact this
                clear hpy hp5
                obtain ⟨t, ht⟩ : ∃ t, l[K]? = some t := ⟨_, List.getElem?_eq_getElem (by rw [HL.out]; omega)⟩
                have ht20 := Hfit.out t (List.mem_of_getElem? ht)
                obtain ⟨g7, o7, rfl, hg7, hx7⟩ := HLV.out.at K (by rw [length_ints, HL.out]; omega)
                rw [show (ints l)[K]?.getD 0 = (t : Int) by simp [ints, ht]] at hx7
                have hx8 : w5.cell? ⟨g7, o7 + K, none⟩ = some (.int .i64 (t : Nat)) := ((hWd.trans (HB3.out.mono hWd.size)).cell (p := ⟨g7, o7 + K, none⟩) hg7).trans hx7
                obtain ⟨y, hy⟩ : ∃ y : Nat, y = min (t + p5) 20 := ⟨_, rfl⟩
                have hy1 : (if (20 : Int) < (t : Int) + (p5 : Int) then 20 else (t : Int) + (p5 : Int)) = (y : Int) := by rw [hy]; split <;> omega
                have hyt : t ≤ y ∧ y ≤ 20 := by omega
                obtain ⟨b, cap, he, hb1, hb2, hb3, hb4, hb5⟩ := Hown3.out.place (by rw [length_ints, HL.out]; omega)
                rw [length_ints, HL.out] at he
                injection he with he1 he2 he3
                subst he1
                subst he3
                have hcc := hb3 K (by rw [length_ints, HL.out]; omega)
                have hff := hb4 K
                have H5 := Lib.hid (hb5 K (y : Int))
                have hgb : ¬ g7 = b := by have := hWd.size; omega
                have hbg : ¬ b = g7 := fun e => hgb e.symm
                have Ht := Lib.hid ht
                clear hb3 hb4 hb5 ht hy hx7
                refine wp_region_noPanic ?_
                refine wp_region_held_drew (S := (fun w' => w'.cell? ⟨g7, o7 + K, none⟩ = some (.int .i64 (t : Nat)))) (by kernel_rfl) ?_ (fun hHeld => ?_)
                · (go_simp; try assumption)
                refine held_yes (v := ?_) 0 (by simp only [List.getElem?_toArray, List.getElem?_cons_zero]; rfl) (by kernel_rfl) (fun _ _ _ h => h) (by rfl) (by assumption) ?_ ?_
                rotate_left
                · (intro w hSw; (try dsimp only at hSw); go_simp; try with_reducible rfl)
                try simp only [Act.put, List.setIfInBounds_toArray, List.set_cons_zero, List.set_cons_succ]
                refine held_yes (v := ?_) 1 (by simp only [List.getElem?_toArray, List.getElem?_cons_succ, List.getElem?_cons_zero]; rfl) (by kernel_rfl) (fun _ _ _ h => h) (by rfl) (by assumption) ?_ ?_
                rotate_left
                · (intro w hSw; (try dsimp only at hSw); go_simp; try with_reducible rfl)
                try simp only [Act.put, List.setIfInBounds_toArray, List.set_cons_zero, List.set_cons_succ]
                refine held_yes (v := ?_) 2 (by simp only [List.getElem?_toArray, List.getElem?_cons_succ, List.getElem?_cons_zero]; rfl) (by kernel_rfl) (fun _ _ _ h => h) (by rfl) (by assumption) ?_ ?_
                rotate_left
                · (intro w hSw; (try dsimp only at hSw); go_simp; try with_reducible rfl)
                try simp only [Act.put, List.setIfInBounds_toArray, List.set_cons_zero, List.set_cons_succ]
                refine held_yes (v := ?_) 3 (by simp only [List.getElem?_toArray, List.getElem?_cons_succ, List.getElem?_cons_zero]; rfl) (by kernel_rfl) (fun _ _ _ h => h) (by rfl) (by assumption) ?_ ?_
                rotate_left
                · (intro w hSw; (try dsimp only at hSw); go_simp; try with_reducible rfl)
                try simp only [Act.put, List.setIfInBounds_toArray, List.set_cons_zero, List.set_cons_succ]
                refine held_yes (v := ?_) 4 (by simp only [List.getElem?_toArray, List.getElem?_cons_succ, List.getElem?_cons_zero]; rfl) (by kernel_rfl) (fun _ _ _ h => h) (by rfl) (by assumption) ?_ ?_
                rotate_left
                · (intro w hSw; (try dsimp only at hSw); go_simp; try with_reducible rfl)
                try simp only [Act.put, List.setIfInBounds_toArray, List.set_cons_zero, List.set_cons_succ]
                refine held_yes (v := ?_) 5 (by simp only [List.getElem?_toArray, List.getElem?_cons_succ, List.getElem?_cons_zero]; rfl) (by kernel_rfl) (fun _ _ _ h => h) (by rfl) (by assumption) ?_ ?_
                rotate_left
                · (intro w hSw; (try dsimp only at hSw); go_simp; try with_reducible rfl)
                try simp only [Act.put, List.setIfInBounds_toArray, List.set_cons_zero, List.set_cons_succ]
                refine held_yes (v := ?_) 6 (by simp only [List.getElem?_toArray, List.getElem?_cons_succ, List.getElem?_cons_zero]; rfl) (by kernel_rfl) (fun _ _ _ h => h) (by rfl) (by assumption) ?_ ?_
                rotate_left
                · (intro w hSw; (try dsimp only at hSw); go_simp; try with_reducible rfl)
                try simp only [Act.put, List.setIfInBounds_toArray, List.set_cons_zero, List.set_cons_succ]
                refine held_one 7 (by simp only [List.getElem?_toArray, List.getElem?_cons_succ, List.getElem?_cons_zero]; rfl) (by kernel_rfl) (by rfl) (fun K hK => ?_)
                go_simp
                go_at_call 12
                refine (CB.out _).mono ?_
                rintro e w_ ⟨rfl, rfl⟩
                refine hK.out _ _ ?_ (fun hHeld => ?_)
                · (go_simp; try assumption)
                clear hK K
                try simp only [Act.put, List.setIfInBounds_toArray, List.set_cons_zero, List.set_cons_succ]
                refine held_yes (v := ?_) 8 (by simp only [List.getElem?_toArray, List.getElem?_cons_succ, List.getElem?_cons_zero]; rfl) (by kernel_rfl) (fun _ _ _ h => h) (by rfl) (by assumption) ?_ ?_
                rotate_left
                · (intro w hSw; (try dsimp only at hSw); go_simp; try with_reducible rfl)
                try simp only [Act.put, List.setIfInBounds_toArray, List.set_cons_zero, List.set_cons_succ]
                refine held_yes (v := ?_) 9 (by simp only [List.getElem?_toArray, List.getElem?_cons_succ, List.getElem?_cons_zero]; rfl) (by kernel_rfl) (fun _ _ _ h => h) (by rfl) (by assumption) ?_ ?_
                rotate_left
                · (intro w hSw; (try dsimp only at hSw); go_simp; try with_reducible rfl)
                try simp only [Act.put, List.setIfInBounds_toArray, List.set_cons_zero, List.set_cons_succ]
                refine held_yes (v := ?_) 10 (by simp only [List.getElem?_toArray, List.getElem?_cons_succ, List.getElem?_cons_zero]; rfl) (by kernel_rfl) (fun _ _ _ h => h) (by rfl) (by assumption) ?_ ?_
                rotate_left
                · (intro w hSw; (try dsimp only at hSw); go_simp; try with_reducible rfl)
                try simp only [Act.put, List.setIfInBounds_toArray, List.set_cons_zero, List.set_cons_succ]
                refine held_one 11 (by simp only [List.getElem?_toArray, List.getElem?_cons_succ, List.getElem?_cons_zero]; rfl) (by kernel_rfl) (by rfl) (fun K hK => ?_)
                go_simp
                skip
                refine hK.out _ _ ?_ (fun hHeld => ?_)
                · (go_simp; try assumption)
                clear hK K
                try simp only [Act.put, List.setIfInBounds_toArray, List.set_cons_zero, List.set_cons_succ]
                refine wpAnyH_done (by kernel_rfl) ?_ _
                refine NoPanic.normal ?_
              all_goals go_wp2_with fail
              all_goals
                have hWk : Below wr.heap.size wr (w5.setCell ⟨b, K, none⟩ (.int .i64 (y : Nat))).drew := (bel_set (hWd.trans (HB3.out.mono hWd.size)) (by have := hWd.size; omega) K _).drew
                have hkf := check_fits Hfit.out (by rw [HL.out]; omega) (by rw [HL.out]; omega)
                have hkt := check_fits (fits_turned Hfit.out K) (by rw [List.length_append, List.length_drop, List.length_take]; have := HL.out; omega) (by rw [List.length_append, List.length_drop, List.length_take]; have := HL.out; omega)
                rw [kraft_turned] at hkt
                rw [if_neg hK] at hkf hkt
                refine (aw8_chk _ _ (ints l) 0 (ints_up HLV.out hWk) (by rw [length_ints, HL.out]; omega) hkf).mono ?_
                rintro e w6 ⟨rfl, hB6⟩
                have hW6 : Below wd.heap.size wd w6 := bel_call hB6 (bel_set HB3.out hb1 K _).drew
                have hW6r := bel_call hB6 hWk
                have hturn := ints_up Hown2.out.is hW6
                rw [show ([] ++ ints (l.drop K)) ++ ints (l.take K) = ints (l.drop K ++ l.take K) by simp [ints]] at hturn
                go_wp2_with fail
                refine (aw8_chk _ _ _ 0 hturn (by rw [length_ints, List.length_append, List.length_drop, List.length_take]; have := HL.out; omega) hkt).mono ?_
                rintro e w7 ⟨rfl, hB7⟩
                go_wp2_with fail
                have hlong := ints_up H5.out.1.is (bel_call hB7 (bel_call hB6 (Below.refl _ _).drew))
                rw [ints_set8] at hlong
                have hkg := check_fits (fits_set Hfit.out K y (by omega)) (by rw [List.length_set, HL.out]; omega) (by rw [List.length_set, HL.out]; omega)
                rw [if_neg (by have := kraft_longer l K t y Ht.out hyt.1; omega)] at hkg
                rw [length_ints, HL.out] at hlong
                refine (aw8_chk _ _ _ 0 hlong (by rw [length_ints, List.length_set, HL.out]; omega) hkg).mono ?_
                rintro e w8 ⟨rfl, hB8⟩
                go_wp2
                go_ret
                exact ⟨by rfl, HB.out.trans ((bel_call hB8 (bel_call hB7 hW6r)).mono hzB)⟩
end Go.Proofs.Ytkicaimondpceaa
