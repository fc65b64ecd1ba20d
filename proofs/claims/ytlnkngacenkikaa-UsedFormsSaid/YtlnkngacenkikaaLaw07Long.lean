/- UsedLong: the walk. -/
import Derived.Test.YtlnkngacenkikaaAwake07
namespace Go.Proofs.Ytlnkngacenkikaa
open Go.RowKit
set_option linter.unusedVariables false

/-- the rows' cells -/
def rowsC (l : List UInt8) : Array Value := ((List.range 16).map fun k => Value.bool (someB l k)).toArray
theorem rowsC_size (l : List UInt8) : (rowsC l).size = 16 := by simp [rowsC]
theorem rowsC_get (l : List UInt8) (c : Nat) (h : c < 16) : (rowsC l)[c]? = some (.bool (someB l c)) := by simp [rowsC, h]
theorem rowsC_none (l : List UInt8) (c : Nat) (h : ¬ c < 16) : (rowsC l)[c]? = none := Array.getElem?_eq_none (by rw [rowsC_size]; omega)
theorem rowsC_set (l : List UInt8) (x : UInt8) : (rowsC l).setIfInBounds (x.toNat / 16) (.bool true) = rowsC (l ++ [x]) := by
  have hx : x.toNat / 16 < 16 := by have := x.toNat_lt; omega
  apply Array.ext_getElem?
  intro i
  rw [Array.getElem?_setIfInBounds]
  by_cases hi : i < 16
  · rw [rowsC_get _ _ hi, rowsC_get _ _ hi, someB_append, someB_eq [x], rowsC_size]
    by_cases h : x.toNat / 16 = i
    · subst h; simp [hx]
    · have h2 : (x.toNat / 16 == i) = false := by rw [beq_eq_false_iff_ne]; exact h
      rw [if_neg h]
      simp [h2]
  · rw [rowsC_none _ _ hi, rowsC_none _ _ hi, if_neg (by omega)]
theorem convert_one (W : World) (c : UInt8) : (convert 27 9 (.slice (some ⟨W.heap.size, 0, none⟩) 1 1)).run Try.prog (W.alloc (.cells #[.int .u8 (c.toNat : Int)] 5)) = .ok (.string ⟨#[c]⟩) (W.alloc (.cells #[.int .u8 (c.toNat : Int)] 5)) := by
  have h : OwnBytes (W.alloc (.cells #[.int .u8 (c.toNat : Int)] 5)) W.heap.size (.slice (some ⟨W.heap.size, 0, none⟩) 1 1) [c] :=
    ⟨by simp [byteCells], .inr ⟨W.heap.size, 1, #[.int .u8 (c.toNat : Int)], rfl, Nat.le_refl _, heap_new _ _ _ rfl, Nat.le_refl _, by simp [maxLen], by simp, by simp [byteCells]⟩⟩
  exact convert_own [c] h
theorem rows_nil : rowsC [] = #[.bool false, .bool false, .bool false, .bool false, .bool false, .bool false, .bool false, .bool false, .bool false, .bool false, .bool false, .bool false, .bool false, .bool false, .bool false, .bool false] := by rfl

theorem front_len (s : ByteArray) (L : Nat) (h : L ≤ s.size) : (s.extract 0 L).size = L := by simp; omega
theorem byte_at (y : ByteArray) (k : Nat) (h : k < y.size) : y.data.toList.take (k + 1) = y.data.toList.take k ++ [y[k]] := by
  rw [List.take_succ_eq_append_getElem (by simpa using h)]
  rfl

set_option maxRecDepth 100000 in
set_option maxHeartbeats 3200000 in
theorem ulong_walk (w : World) (s : ByteArray) (c : UInt8) :
    Calls Try.prog 3 #[.string s, .int .u8 (c.toNat : Int)] w fun e w' => e = .returned (.bool true) ∧ Below w.heap.size w w' := by
  obtain ⟨L, hL⟩ : ∃ L : Nat, L = min s.size 100 := ⟨_, rfl⟩
  have hL1 : (if (100 : Int) < s.size then 100 else (s.size : Int)) = L := by rw [hL]; split <;> omega
  have hL2 : L ≤ s.size := by omega
  have hL3 : L ≤ 100 := by omega
  have hfr := front_len s L hL2
  obtain ⟨y, hy⟩ : ∃ y, s.extract 0 L = y := ⟨_, rfl⟩
  rw [hy] at hfr
  have hys : y.size ≤ 100 := by omega
  have Hy := Lib.hid hy
  have hc : c.toNat < 256 := c.toNat_lt
  have hyl : y.data.toList.length = y.size := by simp
  have CM : Hid (∀ W, Calls Try.prog 7 #[.string y] W fun e w' => e = .returned (.agg #[.string (txt (mapL y.data.toList)), .int .i64 ((mapL y.data.toList).length : Nat)]) ∧ Below W.heap.size W w') := fun W => map_any W y (by omega)
  have CN : Hid (∀ W, Calls Try.prog 7 #[.string (y ++ ⟨#[c]⟩)] W fun e w' => e = .returned (.agg #[.string (txt (mapL (y.data.toList ++ [c]))), .int .i64 ((mapL (y.data.toList ++ [c])).length : Nat)]) ∧ Below W.heap.size W w') := fun W => by
    have := map_any W (y ++ ⟨#[c]⟩) (by rw [ByteArray.size_append]; show y.size + 1 ≤ _; omega)
    rw [show (y ++ ⟨#[c]⟩ : ByteArray).data.toList = y.data.toList ++ [c] by simp] at this
    exact this
  have CR : Hid (∀ W, Calls Try.prog 8 #[.agg #[.string (txt (mapL y.data.toList)), .int .i64 ((mapL y.data.toList).length : Nat)]] W fun e w' => e = .returned (.bool true) ∧ Below W.heap.size W w') := fun W => right_ok W _ (by have := length_mapL_le y.data.toList; omega)
  have CA : Hid (∀ W, Calls Try.prog 9 #[.string y] W fun e w' => e = .returned (.string ⟨(alphaL y.data.toList).toArray⟩) ∧ Below W.heap.size W w') := fun W => alphabet_any W y (by omega)
  have hal := length_alphaL y.data.toList
  rw [hyl] at hal
  have hm1 := length_mapL y.data.toList
  have hm2 := length_mapL_snoc y.data.toList c
  have htk := byte_at y
  generalize hY : y.data.toList = l at *
  have HY := Lib.hid hY
  have Htk := Lib.hid htk
  have hcl := cntP_le (someB l) 16
  obtain ⟨M, hM⟩ : ∃ M, (mapL l).length = M := ⟨_, rfl⟩
  obtain ⟨N, hN⟩ : ∃ N, (mapL (l ++ [c])).length = N := ⟨_, rfl⟩
  rw [hM] at CM CR
  rw [hN] at CN
  rw [hM] at hm1 hm2
  rw [hN] at hm2
  generalize txt (mapL l) = T at *
  generalize txt (mapL (l ++ [c])) = T2 at *
  obtain ⟨A, hA⟩ : ∃ A, alphaL l = A := ⟨_, rfl⟩
  rw [hA] at CA hal
  obtain ⟨TA, hTA⟩ : ∃ TA : ByteArray, (⟨A.toArray⟩ : ByteArray) = TA := ⟨_, rfl⟩
  have hTAs : TA.size ≤ y.size := by rw [← hTA]; show A.length ≤ _; exact hal
  rw [hTA] at CA
  have Hm1 := Lib.hid hm1
  have Hm2 := Lib.hid hm2
  have hc1 := convert_one
  have hfl : ∀ (W : World) (a b : Value), (Instr.field 25 (.agg #[a, b]) 1).run Try.prog W = .ok b W := fun _ _ _ => rfl
  clear hL hy hfr hY htk hyl hm1 hm2 hM hN hA hal hTA
  go_enter Try.func3, Try.ntmps3
  go_wp2_with fail
  refine (awake07_any _).mono ?_
  rintro e w1 ⟨rfl, hB1⟩
  go_wp2_with fail
  rw [Hy.out]
  clear hL1 hL2 hL3
  have hb0 : (w1.alloc (.cells (rowsC []) 23)).heap[w1.heap.size]? = some (.cells (rowsC []) 23 (0, 0)) := heap_new _ _ _ rfl
  have hB0 : Below w.heap.size w (w1.alloc (.cells (rowsC []) 23)) := hB1.alloc hB1.size _
  rw [rows_nil] at hb0 hB0
  rw [← rows_nil] at hb0
  have Hz := hB1.size
  go_loopw [8] (fun iv wr => ∃ k : Nat, k ≤ y.size ∧ iv = .int .i64 k ∧ wr.heap[w1.heap.size]? = some (.cells (rowsC (l.take k)) 23 (0, 0)) ∧ Below w.heap.size w wr) (fun iv _ => y.size + 1 - (intOf iv).toNat)
  case atStart => exact ⟨0, Nat.zero_le _, rfl, by rw [List.take_zero]; exact hb0, hB0⟩
  case round =>
    obtain ⟨k, hk, rfl, hh, hB⟩ := hrel
    have Hh := Lib.hid hh
    clear hh hb0 hB0
    by_cases hlt : k < y.size
    · have hx : (y[k]).toNat < 256 := (y[k]).toNat_lt
      have hcell := (cell_of_heap Hh.out ((y[k]).toNat / 16)).trans (rowsC_get _ _ (by omega))
      have hf := frozen_of_heap Hh.out ((y[k]).toNat / 16)
      have Ht : Hid (rowsC (l.take (k + 1)) = (rowsC (l.take k)).setIfInBounds ((y[k]).toNat / 16) (.bool true)) := by
        show _ = _
        rw [rowsC_set, Htk.out k hlt]
      have hset := Lib.hid (heap_set_ Hh.out ((y[k]).toNat / 16) (.bool true))
      obtain ⟨b, hb⟩ : ∃ b, someB (l.take k) ((y[k]).toNat / 16) = b := ⟨_, rfl⟩
      rw [hb] at hcell
      clear hb
      have i1 : (((y[k]).toNat : Int) / 16).toNat = (y[k]).toNat / 16 := by omega
      have i2 : ((y[k]).toNat : Int) / 16 < 16 := by omega
      have i3 : 0 ≤ ((y[k]).toNat : Int) / 16 := by omega
      go_wp2_with fail
      go_roundw
      case rel => exact ⟨k + 1, by omega, by go_num, by rw [Ht.out]; exact hset.out, hB.setCell (p := ⟨w1.heap.size, _, none⟩) Hz _⟩
      case measure => simp [intOf]; omega
    · obtain rfl : k = y.size := by omega
      have Hh : Hid (wr.heap[w1.heap.size]? = some (.cells (rowsC l) 23 (0, 0))) := by
        show _ = _
        have := Hh.out
        rw [List.take_of_length_le (by rw [← HY.out]; simp)] at this
        exact this
      go_wp2_with fail
      obtain ⟨wo, rfl⟩ : ∃ wo : World, wo = wr := ⟨_, rfl⟩
      go_loopw [9, 10] (fun nv iv wr => ∃ k : Nat, k ≤ 16 ∧ iv = .int .i64 k ∧ nv = .int .i64 ((16 + 16 * cntP (someB l) k : Nat)) ∧ Hid (wr = wo)) (fun _ iv _ => 16 - (intOf iv).toNat)
      case atStart => exact ⟨0, Nat.zero_le _, rfl, rfl, Lib.hid rfl⟩
      case round =>
        obtain ⟨k, hk, rfl, rfl, hw⟩ := hrel
        have hc0 := cntP_le (someB l) k
        by_cases hlt : k < 16
        · have hcell := (cell_of_heap Hh.out k).trans (rowsC_get _ _ hlt)
          rw [← hw.out] at hcell
          have hcs := cntP_succ (someB l) k
          obtain ⟨b, hb⟩ : ∃ b, someB l k = b := ⟨_, rfl⟩
          rw [hb] at hcell hcs
          have Hcs := Lib.hid hcs
          clear hb hcs
          cases b with
          | true =>
            go_wp2_with fail
            go_roundw
            case rel => exact ⟨k + 1, by omega, by go_num, by rw [Hcs.out]; go_num, hw⟩
            case measure => simp [intOf]; omega
          | false =>
            go_wp2_with fail
            go_roundw
            case rel => exact ⟨k + 1, by omega, by go_num, by rw [Hcs.out]; go_num, hw⟩
            case measure => simp [intOf]; omega
        · obtain rfl : k = 16 := by omega
          rw [← Hm1.out]
          have hcell := (cell_of_heap Hh.out (c.toNat / 16)).trans (rowsC_get l (c.toNat / 16) (by omega))
          rw [← hw.out] at hcell
          have hB2 : Hid (Below w.heap.size w wr) := by rw [hw.out]; exact hB
          have i1 : ((c.toNat : Int) / 16).toNat = c.toNat / 16 := by omega
          have i2 : (c.toNat : Int) / 16 < 16 := by omega
          have i3 : 0 ≤ (c.toNat : Int) / 16 := by omega
          have hM := Hm1.out
          obtain ⟨b, hb⟩ : ∃ b, someB l (c.toNat / 16) = b := ⟨_, rfl⟩
          have hN := Hm2.out
          rw [hb] at hcell hN
          have HN := Lib.hid hN
          have hMb : M ≤ 272 := by omega
          clear hb hN hB hM
          cases b with
          | true =>
            have hNM : N = M := by have := HN.out; simpa using this
            subst hNM
            go_wp2_with fail
            refine (CM.out _).mono ?_
            rintro e w2 ⟨rfl, hB3⟩
            have hW3 := Lib.hid (hB2.out.trans (hB3.mono hB2.out.size))
            clear hB3
            go_wp2_with fail
            refine (CN.out _).mono ?_
            rintro e w3 ⟨rfl, hB4⟩
            have hW4 := Lib.hid ((hW3.out.alloc hW3.out.size _).trans (hB4.mono (hW3.out.alloc hW3.out.size _).size))
            clear hB4
            go_wp2_with fail
            refine (CM.out _).mono ?_
            rintro e w5 ⟨rfl, hB5⟩
            have hW5 := Lib.hid (hW4.out.trans (hB5.mono hW4.out.size))
            clear hB5
            go_wp2_with fail
            refine (CR.out _).mono ?_
            rintro e w6 ⟨rfl, hB6⟩
            have hW6 := Lib.hid (hW5.out.trans (hB6.mono hW5.out.size))
            clear hB6
            go_wp2_with fail
            refine (CA.out _).mono ?_
            rintro e w7 ⟨rfl, hB7⟩
            have hW7 := Lib.hid (hW6.out.trans (hB7.mono hW6.out.size))
            clear hB7
            go_wp2_with fail
            go_ret
            exact ⟨rfl, hW7.out⟩
          | false =>
            have hNM : N = M + 16 := by have := HN.out; simpa using this
            have hN2 : (N : Int) = (M : Int) + 16 := by omega
            have hNe : ((N : Int) == (M : Int) + 16) = true := by rw [beq_iff_eq]; exact hN2
            have HN2 := Lib.hid hN2
            clear hNM hN2
            go_wp2_with fail
            refine (CM.out _).mono ?_
            rintro e w2 ⟨rfl, hB3⟩
            have hW3 := Lib.hid (hB2.out.trans (hB3.mono hB2.out.size))
            clear hB3
            go_wp2_with fail
            refine (CN.out _).mono ?_
            rintro e w3 ⟨rfl, hB4⟩
            have hW4 := Lib.hid ((hW3.out.alloc hW3.out.size _).trans (hB4.mono (hW3.out.alloc hW3.out.size _).size))
            clear hB4
            go_wp2_with fail
            refine (CM.out _).mono ?_
            rintro e w5 ⟨rfl, hB5⟩
            have hW5 := Lib.hid (hW4.out.trans (hB5.mono hW4.out.size))
            clear hB5
            go_wp2_with fail
            refine (CR.out _).mono ?_
            rintro e w6 ⟨rfl, hB6⟩
            have hW6 := Lib.hid (hW5.out.trans (hB6.mono hW5.out.size))
            clear hB6
            go_wp2_with fail
            refine (CA.out _).mono ?_
            rintro e w7 ⟨rfl, hB7⟩
            have hW7 := Lib.hid (hW6.out.trans (hB7.mono hW6.out.size))
            clear hB7
            go_wp2_with fail
            go_ret
            exact ⟨rfl, hW7.out⟩
end Go.Proofs.Ytlnkngacenkikaa
