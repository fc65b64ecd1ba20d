/- selectors.Take: the walk. -/
import Derived.Test.YtpccdohhiojlkaaSelRow
import Derived.Test.YtpccdohhiojlkaaRest
namespace Go.Proofs.Ytpccdohhiojlkaa
open Go.RowKit
set_option linter.unusedVariables false

/-- which tables, and the place behind them -/
def selR (s : List UInt8) (t a c : Nat) : Except Int (List Nat × Nat) :=
  match selP t c (List.range 6) (rest s a) with
  | .error e => .error e
  | .ok (l, r) => .ok (l, a + ((rest s a).length - r.length))
def TakeEnds (w : World) (r : Except Int (List Nat × Nat)) (e : Ending) (w' : World) : Prop :=
  match r with
  | .ok (l, x) => ∃ v, e = .returned (.tuple #[v, .int .i64 (x : Nat), .int .i64 0]) ∧ OwnInts w' w.heap.size v (ints l) ∧ Below w.heap.size w w'
  | .error c => e = .returned (.tuple #[.slice none 0 0, .int .i64 0, .int .i64 c]) ∧ Below w.heap.size w w'
/-- what lives in a round -/
structure SelSt (w wr : World) (p : List Nat) (t : Nat) (v : Value) (l : List Nat) : Prop where
  bel : Below w.heap.size w wr
  size : w.heap.size + 1 ≤ wr.heap.size
  row : RowAt wr w.heap.size p t
  own : OwnInts wr (w.heap.size + 1) v (ints l)
theorem ownsRow_only {k : Nat} {W W' : World} {base e size n : Nat} {v : Value} {xs : List Value} (h : W.ownsRow base e size v n xs) (hO : Only k W W') (hk : k < base) : W'.ownsRow base e size v n xs := by
  refine ⟨h.1, ?_⟩
  rcases h.2 with h0 | ⟨g, cap, cur, e1, e2, e3, e4⟩
  · exact .inl h0
  · exact .inr ⟨g, cap, cur, e1, e2, (hO.block g (lt_of_heap e3) (by omega)).trans e3, e4⟩
theorem SelSt.only {w wr w' : World} {p q : List Nat} {t : Nat} {v : Value} {l : List Nat} (h : SelSt w wr p t v l) (hO : Only w.heap.size wr w') (hR : RowAt w' w.heap.size q t) : SelSt w w' q t v l :=
  have hs := h.size
  ⟨h.bel.trans (hO.below (Nat.le_refl _) (by omega)), by have := hO.size; omega, hR, ownsRow_only h.own hO (by omega)⟩
theorem ints_snoc (l : List Nat) (m : Nat) : ints (l ++ [m]) = ints l ++ [(m : Int)] := by simp [ints]
theorem row_not_int : (56 : TypeId) ≠ 3 := by decide
/-- behind an append -/
theorem SelSt.appended {w wr w2 : World} {p : List Nat} {t : Nat} {v v' : Value} {l : List Nat} {m : Nat} {o : Obj} (h : SelSt w wr p t v l) (hg : (wr.alloc o).grownBy w2 v.ownBlock) (ho : OwnInts w2 (w.heap.size + 1) v' (ints l ++ [(m : Int)])) : SelSt w w2 p t v' (l ++ [m]) := by
  have hs := h.size
  refine ⟨(h.bel.alloc (by omega) o).grown hg (by simp; omega) (fun k hk => by have := own_ge h.own hk; omega), by have := hg.size; simp at this; omega, ?_, by rw [ints_snoc]; exact ho⟩
  exact heap_grown_own (n := 0) hg (h.own.alloc o) row_not_int (heap_up o h.row)

set_option maxRecDepth 100000 in
set_option maxHeartbeats 3200000 in
theorem selTake_any (w : World) (s : ByteArray) (a0 c t : Nat) (hs : s.size ≤ 1099511627776) (hat : a0 ≤ 9223372036854775807) (hc : c ≤ 1048576) (ht : 2 ≤ t) (ht6 : t ≤ 6) :
    Calls Try.prog 13 #[.string s, .int .i64 (a0 : Nat), .int .i64 (c : Nat), .int .i64 (t : Nat)] w fun e w' => TakeEnds w (selR s.data.toList t a0 c) e w' := by
  have CF : Hid (∀ W, Calls Try.prog 21 #[.int .i64 (t : Nat)] W fun e w' => e = .returned (.bool true) ∧ W = w') := fun W => by
    have := fits_any (t : Nat) W
    rw [show (decide ((2 : Int) ≤ (t : Nat)) && decide ((t : Int) ≤ 6)) = true by simp; omega] at this
    exact this
  have CO := Lib.hid (of_any' w t ht6)
  have hl : s.data.toList.length = s.size := by simp
  have HL := Lib.hid hl
  obtain ⟨r0, hr0⟩ : ∃ r, selP t c (List.range 6) (rest s.data.toList a0) = r := ⟨_, rfl⟩
  obtain ⟨X, hX⟩ : ∃ X, a0 + (rest s.data.toList a0).length = X := ⟨_, rfl⟩
  have hres : Hid (∀ w' l r v a, r0 = .ok (l, r) → a + r.length = X → w'.ownsRow (w.heap.size + 1) 3 1 v (ints l).length (intCells (ints l)) → Below w.heap.size w w' → TakeEnds w (selR s.data.toList t a0 c) (.returned (.tuple #[v, .int .i64 (a : Nat), .int .i64 0])) w') := fun w' l r v a h1 h2 h3 h4 => by
    unfold selR
    rw [hr0, h1]
    have hrl : r.length ≤ (rest s.data.toList a0).length := selP_cut.len_le t c _ _ _ _ (hr0.trans h1)
    refine ⟨v, ?_, ownsRow_mono h3 (by omega), h4⟩
    rw [show a0 + ((rest s.data.toList a0).length - r.length) = a by omega]
  have herr : Hid (∀ w' e, r0 = .error e → Below w.heap.size w w' → TakeEnds w (selR s.data.toList t a0 c) (.returned (.tuple #[.slice none 0 0, .int .i64 0, .int .i64 e])) w') := fun w' e h1 h4 => by
    unfold selR
    rw [hr0, h1]
    exact ⟨rfl, h4⟩
  generalize selR s.data.toList t a0 c = R at *
  have HX := Lib.hid hX
  have Hr0 := Lib.hid hr0
  have hd : decide ((a0 : Int) < 0) = false := by simp
  have hd2 : decide ((c : Int) < 0) = false := by simp
  have hd3 : decide ((1048576 : Int) < (c : Int)) = false := by simp; omega
  clear hr0 hX hl
  go_enter Try.func13, Try.ntmps13
  go_wp2_with fail
  refine (CF.out _).mono ?_
  rintro e w1 ⟨rfl, rfl⟩
  go_wp2_with fail
  refine CO.out.mono ?_
  rintro e w1 ⟨rfl, hw1⟩
  have S1 : SelSt w w1 (List.range 6) t (.slice none 0 0) [] := by
    rw [hw1]
    exact ⟨(Below.refl _ _).alloc (Nat.le_refl _) _, by simp, heap_new _ _ _ rfl, OwnInts.nil _ _⟩
  have HS1 := Lib.hid S1
  clear S1 hw1 CO CF
  go_wp2_with fail
  go_loopw [1, 8, 33] (fun av cv iv wr => ∃ (j a : Nat) (p l : List Nat), j ≤ c ∧ av = .int .i64 (a : Nat) ∧ iv = .int .i64 (j : Nat) ∧ l.length = j ∧ Tabs t p ∧ a ≤ 9223372036854775807 ∧ a + (rest s.data.toList a).length = X ∧ preS l (selP t (c - j) p (rest s.data.toList a)) = r0 ∧ SelSt w wr p t cv l) (fun _ _ iv _ => c + 1 - (intOf iv).toNat)
  case atStart => exact ⟨0, a0, List.range 6, [], by omega, rfl, rfl, rfl, tabs_start t ht6, hat, HX.out, by rw [preS_nil]; exact Hr0.out, HS1.out⟩
  case round =>
    obtain ⟨j, a, p, l, hj, rfl, rfl, hll, htp, ha, hax, hpr, hS⟩ := hrel
    have HS := Lib.hid hS
    have HLL := Lib.hid hll
    have HT := Lib.hid htp
    have HPR := Lib.hid hpr
    have HAX := Lib.hid hax
    clear hS hll htp hpr hax HS1
    by_cases hlt : j < c
    · obtain ⟨oo, hoo⟩ : ∃ o, onesP t 0 (rest s.data.toList a) = o := ⟨_, rfl⟩
      have HO := Lib.hid hoo
      have hc6 : wr.cell? ⟨w.heap.size, 6, none⟩ = some (.int .i64 (t : Nat)) := by
        rw [cell_of_heap HS.out.row 6]
        have := HT.out.1
        simp [rowC, this]
      clear hoo
      go_wp2_with fail
      obtain ⟨wb, rfl⟩ : ∃ wb : World, wb = wr := ⟨_, rfl⟩
      obtain ⟨cw, hcw⟩ : ∃ cw, cw = u8 := ⟨_, rfl⟩
      rw [← hcw] at HS ⊢
      clear hcw
      go_loopw [1, 8, 12] (fun av cv kv wr => ∃ (a2 k : Nat), cv = cw ∧ av = .int .i64 (a2 : Nat) ∧ kv = .int .i64 (k : Nat) ∧ k < t ∧ a2 ≤ 9223372036854775807 ∧ a2 + (rest s.data.toList a2).length = X ∧ onesP t k (rest s.data.toList a2) = oo ∧ wr = wb) (fun av _ _ _ => 8 * s.size + 1 - (intOf av).toNat)
      case atStart => exact ⟨a, 0, rfl, rfl, rfl, by omega, ha, HAX.out, HO.out, rfl⟩
      case round =>
        obtain ⟨a2, k, rfl, rfl, rfl, hk, ha2, hax2, hon, rfl⟩ := hrel
        have HAX2 := Lib.hid hax2
        have HON := Lib.hid hon
        clear hax2 hon
        by_cases hin : a2 < 8 * s.size
        · have hrc := rest_cons s.data.toList a2 (by rw [HL.out]; exact hin)
          have C := Lib.hid (fun W => get_bit s a2 W hs hin)
          have hon := HON.out
          have hax2 := HAX2.out
          rw [hrc] at hon hax2
          cases hb : B.bitAt s.data.toList a2 with
          | false =>
            rw [hb] at hon C
            simp only [onesP] at hon
            simp only [List.length_cons] at hax2
            have Hon := Lib.hid hon
            have Hax2 := Lib.hid hax2
            clear hrc hon hax2 hb HON HAX2
            go_wp2_with fail
            refine (C.out _).mono ?_
            rintro e w3 ⟨rfl, rfl⟩
            go_wp2_with fail
            refine (front_any wr w.heap.size p t k HT.out.1 (by omega) HS.out.row).mono ?_
            rintro e w4 ⟨rfl, hO4, hR4⟩
            have HS4 := Lib.hid (HS.out.only hO4 hR4)
            have hz4 := HS4.out.size
            have hls : l.length ≤ 1048576 := by rw [HLL.out]; omega
            obtain ⟨x, hx⟩ : ∃ x, p.getD k 0 = x := ⟨_, rfl⟩
            rw [hx]
            have HPX := Lib.hid hx
            clear hO4 hR4 HS hx
            go_wp2_with
              (at_builtin
               refine wpList_append_ints rfl _ _ rfl (w.heap.size + 1) _ (ints l) rfl (HS4.out.own.alloc _) (w4.heap.size + 1) _ [(x : Int)] rfl (IsInts.new w4 [(x : Int)] _ _ _ rfl rfl rfl (by simp [maxLen])) (by rw [length_ints]; simp; omega) (by simp; omega) ?_
               intro q' c' w5 hown hg hat1
               have HS5 := Lib.hid (HS4.out.appended hg hown)
               clear hown hg hat1)
            go_roundw
            case rel =>
              refine ⟨j + 1, a2 + 1, mtf p k, l ++ [x], by omega, rfl, by go_num, by rw [List.length_append, HLL.out]; rfl, mtf_tabs HT.out ht6 (by omega), by omega, by have := Hax2.out; omega, ?_, HS5.out⟩
              have h1 := HPR.out
              rw [show c - j = (c - (j + 1)) + 1 by omega, selP, HO.out, ← Hon.out] at h1
              simp only [preS_preS] at h1
              rw [← HPX.out]
              exact h1
            case measure => simp [intOf]; omega
          | true =>
            rw [hb] at hon C
            simp only [onesP] at hon
            simp only [List.length_cons] at hax2
            by_cases hkt : k + 1 = t
            · rw [if_pos hkt] at hon
              have ht1 : ((k : Int) + 1 == (t : Int)) = true := by rw [beq_iff_eq]; omega
              have hr3 : r0 = .error 3 := by
                have h1 := HPR.out
                rw [show c - j = (c - (j + 1)) + 1 by omega, selP, HO.out, ← hon] at h1
                simpa [preS] using h1.symm
              have hfin := Lib.hid (herr.out wr 3 hr3 HS.out.bel)
              clear hrc hon hax2 hb HON HAX2 hres herr hkt hr3
              go_wp2_with fail
              refine (C.out _).mono ?_
              rintro e w3 ⟨rfl, rfl⟩
              go_wp2_with fail
              go_ret3
              exact hfin.out
            · rw [if_neg hkt] at hon
              have ht1 : ((k : Int) + 1 == (t : Int)) = false := by rw [beq_eq_false_iff_ne]; omega
              have Hon := Lib.hid hon
              have Hax2 := Lib.hid hax2
              have hk1 : k + 1 < t := by omega
              clear hrc hon hax2 hb HON HAX2 hkt
              go_wp2_with fail
              refine (C.out _).mono ?_
              rintro e w3 ⟨rfl, rfl⟩
              go_wp2_with fail
              go_roundw
              case rel => exact ⟨a2 + 1, k + 1, rfl, by go_num, by go_num, hk1, by omega, by have := Hax2.out; omega, Hon.out, trivial⟩
              case measure => simp [intOf]; omega
        · have C := Lib.hid (fun W => get_short s a2 1 W hs (by omega) (by omega))
          have hon := HON.out
          rw [rest_nil s.data.toList a2 (by rw [HL.out]; omega)] at hon
          have hr2 : r0 = .error 2 := by
            have h1 := HPR.out
            rw [show c - j = (c - (j + 1)) + 1 by omega, selP, HO.out, ← hon] at h1
            simpa [onesP, preS] using h1.symm
          have hfin := Lib.hid (herr.out wr 2 hr2 HS.out.bel)
          clear hon HON HAX2 hres herr hr2
          go_wp2_with fail
          refine (C.out _).mono ?_
          rintro e w3 ⟨rfl, rfl⟩
          go_wp2_with fail
          go_ret3
          exact hfin.out
    · obtain rfl : j = c := by omega
      have hpr := HPR.out
      rw [Nat.sub_self, selP] at hpr
      simp only [preS, List.append_nil] at hpr
      have hfin := Lib.hid (hres.out wr l (rest s.data.toList a) _ a hpr.symm HAX.out HS.out.own HS.out.bel)
      clear hpr hres herr
      go_wp2_with fail
      go_ret3
      exact hfin.out
end Go.Proofs.Ytpccdohhiojlkaa
