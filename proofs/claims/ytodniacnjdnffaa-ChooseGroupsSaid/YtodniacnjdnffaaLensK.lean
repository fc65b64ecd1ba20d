/- Lens of layer 8's law: the walk: lengths that may be. -/
import Derived.Test.YtodniacnjdnffaaPick08
import Derived.Test.YtodniacnjdnffaaRefChkK
import Derived.Test.YtodniacnjdnffaaKit3
import Derived.Test.YtodniacnjdnffaaEnvK
namespace Go.Proofs.Ytodniacnjdnffaa
open Go.RowKit
set_option linter.unusedVariables false

theorem ints_set8 (l : List Nat) (i n : Nat) : (ints l).set i (n : Int) = ints (l.set i n) := by simp [ints, List.map_set]
theorem code_ints {l : List Nat} (h : checkF (ints l) = 0) : Code l := by
  have := (code_of_ok h).1
  rw [ints_toNat] at this
  exact this
theorem code_start : Code [20, 20] := code_ints (by decide)
/-- how long they are behind so many raw ones -/
def LensLen (i L : Nat) : Prop := i < 2 ∧ L = 2 ∨ 2 ≤ i ∧ L = i

set_option maxRecDepth 100000 in
set_option maxHeartbeats 3200000 in
theorem lens08_any (w : World) (v : Value) (raw : List Int) (m : Nat) (hv : IsInts w w.heap.size v raw) (hr : I64s raw) (hm : m ≤ 258) :
    Calls Try.prog 16 #[v, .int .i64 (m : Nat)] w fun e w' => ∃ u l, e = .returned u ∧ OwnInts w' w.heap.size u (ints l) ∧ Code l ∧ (l.length ≤ 2 ∨ l.length ≤ m) ∧ Below w.heap.size w w' := by
  obtain ⟨A, ca, rfl, hc1, hc2⟩ := hv.shape
  obtain ⟨N, hN⟩ : ∃ N, raw.length = N := ⟨_, rfl⟩
  rw [hN] at hv hc1 ⊢
  have HN := Lib.hid hN
  have Hv := Lib.hid hv
  have Hr := Lib.hid hr
  have hstart : OwnInts (w.alloc (.cells #[.int .i64 20, .int .i64 20] 3)) w.heap.size (.slice (some ⟨w.heap.size, 0, none⟩) 2 2) (ints [20, 20]) := OwnInts.new w _ [20, 20] _ _ _ rfl rfl rfl (by simp [maxLen]) (Nat.le_refl _)
  have Hstart := Lib.hid hstart
  have CK : Hid (∀ W (b : Nat) (v : Value) (l : List Nat), OwnInts W b v (ints l) → l.length ≤ 1000000 → Calls Try.prog 29 #[v] W fun e w' => e = .returned (.int .i64 (checkF (ints l))) ∧ W = w') := fun W b v l h hl => rcheck_any W v _ h.is (by rw [length_ints]; exact hl)
  clear hv hr hN hstart
  go_enter Try.func16, Try.ntmps16
  go_wp2
  go_loopw [5, 6] (fun ov iv wr => ∃ (i : Nat) (l : List Nat) (q : Option Addr) (c : Nat), i ≤ N ∧ i ≤ m ∧ iv = .int .i64 i ∧ ov = .slice q l.length c ∧ Code l ∧ LensLen i l.length ∧ OwnInts wr w.heap.size (.slice q l.length c) (ints l) ∧ Below w.heap.size w wr) (fun _ iv _ => N + 1 - (intOf iv).toNat)
  case atStart => exact ⟨0, [20, 20], _, _, Nat.zero_le _, Nat.zero_le _, rfl, rfl, code_start, .inl ⟨by omega, rfl⟩, Hstart.out, (Below.refl _ _).alloc (Nat.le_refl _) _⟩
  case round =>
    obtain ⟨i, l, q, c, hi, him, rfl, rfl, hcode, hlen, hown, hB⟩ := hrel
    have Hown := Lib.hid hown
    have Hcode := Lib.hid hcode
    have Hlen := Lib.hid hlen
    have HB := Lib.hid hB
    have hzB := hB.size
    obtain ⟨L, hL⟩ : ∃ L, l.length = L := ⟨_, rfl⟩
    have hLl : i < 2 ∧ L = 2 ∨ 2 ≤ i ∧ L = i := by rw [← hL]; exact hlen
    rw [hL] at Hown Hlen ⊢
    have HL := Lib.hid hL
    clear hown hcode hlen hL
    by_cases hlt : i < N
    · by_cases hlm : i < m
      · obtain ⟨g, o, rfl, hg, hc⟩ := Hv.out.at i (by rw [HN.out]; exact hlt)
        obtain ⟨x, hx⟩ : ∃ x, raw[i]? = some x := ⟨_, List.getElem?_eq_getElem (by rw [HN.out]; exact hlt)⟩
        rw [hx] at hc
        simp only [Option.getD_some] at hc
        have hc' : wr.cell? ⟨g, o + i, none⟩ = some (.int .i64 x) := (hB.cell (p := ⟨g, o + i, none⟩) hg).trans hc
        have hxb := Hr.out x (List.mem_of_getElem? hx)
        have hp := pickF_lt x 20 (by omega)
        obtain ⟨p, hpe⟩ : ∃ p : Nat, pickF x 20 = (p : Int) := ⟨(pickF x 20).toNat, by omega⟩
        have hp20 : p < 20 := by omega
        have CP : Hid (∀ W, Calls Try.prog 20 #[.int .i64 x, .int .i64 20] W fun e w' => e = .returned (.int .i64 p) ∧ W = w') := fun W => by
          have := pick08_any x 20 W (by omega) (by omega) (by omega) (by omega)
          rw [hpe] at this; exact this
        clear hc hx hpe hxb hp hB
        by_cases h2 : i < 2
        · obtain rfl : L = 2 := by omega
          go_wp2_with fail
          refine (CP.out _).mono ?_
          rintro e w1 ⟨rfl, rfl⟩
          go_wp2_with
            (at_builtin
             refine wpList_append_ints rfl _ _ rfl wr.heap.size (.slice none 0 0) [] rfl (OwnInts.nil _ _) wr.heap.size _ (ints l) rfl Hown.out.is (by rw [length_ints, HL.out]; simp) (Nat.le_refl _) ?_
             intro q' c' w1 hown1 hg1 hat1
             rw [show ([] : List Int).length + (ints l).length = 2 by rw [length_ints, HL.out]; rfl] at hown1 ⊢
             rw [List.nil_append] at hown1
             obtain ⟨b, cap, he, hb1, hb2, hb3, hb4, hb5⟩ := hown1.place (by rw [length_ints, HL.out]; omega)
             rw [length_ints, HL.out] at he
             injection he with he1 he2 he3
             subst he1
             subst he3
             have hcc := hb3 i (by rw [length_ints, HL.out]; exact h2)
             have hff := hb4 i
             have H5 := Lib.hid (hb5 i ((1 + p : Nat) : Int))
             have HB1 : Hid (Below wr.heap.size wr w1) := bel_grown hg1 (Below.refl _ _) (fun k hk => by simp [Value.ownBlock] at hk)
             clear hb3 hb4 hb5 hown1 hat1 hg1)
          have h5 := H5.out
          rw [ints_set8, length_ints, HL.out, show ((1 + p : Nat) : Int) = 1 + (p : Int) by push_cast; rfl] at h5
          have Hn := Lib.hid h5.1
          have HB2 : Hid (Below wr.heap.size wr (w1.setCell ⟨b, i, none⟩ (.int .i64 (1 + (p : Int))))) := HB1.out.setCell (p := ⟨b, i, none⟩) hb1 _
          obtain ⟨z, hz⟩ : ∃ z, checkF (ints (l.set i (1 + p))) = z := ⟨_, rfl⟩
          have hln : (l.set i (1 + p)).length = 2 := by rw [List.length_set, HL.out]
          refine (CK.out _ wr.heap.size _ (l.set i (1 + p)) Hn.out (by rw [hln]; omega)).mono ?_
          rw [hz]
          rintro e w_ ⟨rfl, rfl⟩
          by_cases hz0 : z = 0
          · have hz1 : (z == 0) = true := by rw [beq_iff_eq]; exact hz0
            have hcd : Hid (Code (l.set i (1 + p))) := code_ints (by rw [hz]; exact hz0)
            clear hz hz0 h5
            go_wp2_with fail
            go_roundw
            case rel => exact ⟨i + 1, l.set i (1 + p), _, _, by omega, by omega, by go_num, by rw [hln], hcd.out, by rw [hln]; unfold LensLen; omega, by rw [hln]; exact Hn.out.mono hzB, HB.out.trans (HB2.out.mono hzB)⟩
            case measure => simp [intOf]; omega
          · have hz1 : (z == 0) = false := by rw [beq_eq_false_iff_ne]; exact hz0
            clear hz hz0 h5
            go_wp2_with fail
            go_roundw
            case rel => exact ⟨i + 1, l, _, _, by omega, by omega, by go_num, by rw [HL.out], Hcode.out, by rw [HL.out]; unfold LensLen; omega, by rw [HL.out]; exact Hown.out.below HB2.out, HB.out.trans (HB2.out.mono hzB)⟩
            case measure => simp [intOf]; omega
        · obtain rfl : i = L := by omega
          have h3 : 2 ≤ i := by omega
          clear hLl h2
          go_wp2_with fail
          refine (CP.out _).mono ?_
          rintro e w1 ⟨rfl, rfl⟩
          go_wp2_with
            (at_builtin
             first
             | (refine wpList_append_ints rfl _ _ rfl wr.heap.size (.slice none 0 0) [] rfl (OwnInts.nil _ _) wr.heap.size _ (ints l) rfl Hown.out.is (by rw [length_ints, HL.out]; simp; omega) (Nat.le_refl _) ?_
                intro q' c' w1 hown1 hg1 hat1
                rw [show ([] : List Int).length + (ints l).length = i by rw [length_ints, HL.out]; exact Nat.zero_add _] at hown1 ⊢
                rw [List.nil_append] at hown1
                have Hown1 := Lib.hid hown1
                have HB1 : Hid (Below wr.heap.size wr w1) := bel_grown hg1 (Below.refl _ _) (fun k hk => by simp [Value.ownBlock] at hk)
                have hz1 := HB1.out.size
                clear hown1 hat1 hg1)
             | (refine wpList_append_ints rfl _ _ rfl wr.heap.size _ (ints l) rfl (Hown1.out.alloc _) (w1.heap.size + 1) _ [1 + (p : Int)] rfl (IsInts.new w1 [1 + (p : Int)] _ _ _ rfl rfl rfl (by simp [maxLen])) (by rw [length_ints, HL.out]; simp; omega) (by simp; omega) ?_
                intro q2 c2 w2 hown2 hg2 hat2
                rw [show (ints l).length + [1 + (p : Int)].length = i + 1 by rw [length_ints, HL.out]; rfl] at hown2 ⊢
                rw [show ints l ++ [1 + (p : Int)] = ints (l ++ [1 + p]) by simp [ints]] at hown2
                obtain ⟨b, cap, he, hb1, hb2, hb3, hb4, hb5⟩ := hown2.place (by rw [length_ints, List.length_append, HL.out]; simp)
                rw [length_ints, List.length_append, HL.out] at he
                injection he with he1 he2 he3
                subst he1
                subst he3
                have hcc := hb3 i (by rw [length_ints, List.length_append, HL.out]; simp)
                have hff := hb4 i
                have H5 := Lib.hid (hb5 i ((20 : Nat) : Int))
                have HB2 : Hid (Below wr.heap.size wr w2) := bel_grown hg2 (HB1.out.alloc HB1.out.size _) (fun k hk => own_ge Hown1.out hk)
                have Hown2 := Lib.hid hown2
                clear hb3 hb4 hb5 hown2 hat2 hg2))
          obtain ⟨z, hz⟩ : ∃ z, checkF (ints (l ++ [1 + p])) = z := ⟨_, rfl⟩
          have hln : (l ++ [1 + p]).length = i + 1 := by rw [List.length_append, HL.out]; rfl
          refine (CK.out _ wr.heap.size _ (l ++ [1 + p]) Hown2.out (by rw [hln]; omega)).mono ?_
          rw [hz]
          rintro e w_ ⟨rfl, rfl⟩
          by_cases hz0 : z = 0
          · have hz1 : (z == 0) = true := by rw [beq_iff_eq]; exact hz0
            have hcd : Hid (Code (l ++ [1 + p])) := code_ints (by rw [hz]; exact hz0)
            clear hz hz0
            go_wp2_with fail
            go_roundw
            case rel => exact ⟨i + 1, l ++ [1 + p], _, _, by omega, by omega, by go_num, by rw [hln], hcd.out, by rw [hln]; unfold LensLen; omega, by rw [hln]; exact Hown2.out.mono hzB, HB.out.trans (HB2.out.mono hzB)⟩
            case measure => simp [intOf]; omega
          · have hz1 : (z == 0) = false := by rw [beq_eq_false_iff_ne]; exact hz0
            clear hz hz0
            go_wp2_with fail
            have h5 := H5.out
            rw [ints_set8, length_ints, hln] at h5
            have Hn := Lib.hid h5.1
            have HB3 : Hid (Below wr.heap.size wr (w2.setCell ⟨b, i, none⟩ (.int .i64 20))) := HB2.out.setCell (p := ⟨b, i, none⟩) hb1 _
            obtain ⟨y, hy⟩ : ∃ y, checkF (ints ((l ++ [1 + p]).set i 20)) = y := ⟨_, rfl⟩
            have hlm : ((l ++ [1 + p]).set i 20).length = i + 1 := by rw [List.length_set, hln]
            refine (CK.out _ wr.heap.size _ ((l ++ [1 + p]).set i 20) Hn.out (by rw [hlm]; omega)).mono ?_
            rw [hy]
            rintro e w_ ⟨rfl, rfl⟩
            by_cases hy0 : y = 0
            · have hy1 : (y == 0) = true := by rw [beq_iff_eq]; exact hy0
              have hcd : Hid (Code ((l ++ [1 + p]).set i 20)) := code_ints (by rw [hy]; exact hy0)
              clear hy hy0 h5
              go_wp2_with fail
              go_roundw
              case rel => exact ⟨i + 1, (l ++ [1 + p]).set i 20, _, _, by omega, by omega, by go_num, by rw [hlm], hcd.out, by rw [hlm]; unfold LensLen; omega, by rw [hlm]; exact Hn.out.mono hzB, HB.out.trans (HB3.out.mono hzB)⟩
              case measure => simp [intOf]; omega
            · have hy1 : (y == 0) = false := by rw [beq_eq_false_iff_ne]; exact hy0
              clear hy hy0 h5
              go_wp2_with fail
              go_ret
              exact ⟨_, l, rfl, Hown.out.below HB3.out, Hcode.out, by rw [HL.out]; omega, HB.out.trans (HB3.out.mono hzB)⟩
      · obtain rfl : i = m := by omega
        go_wp2
        go_ret
        exact ⟨_, l, rfl, Hown.out, Hcode.out, by rw [HL.out]; omega, hB⟩
    · go_wp2
      go_ret
      exact ⟨_, l, rfl, Hown.out, Hcode.out, by rw [HL.out]; omega, hB⟩
end Go.Proofs.Ytodniacnjdnffaa
