/- layer 9: the next length: the walk. -/
import Derived.Test.YtdngbmoippadhaaDeltaRead
namespace Go.Proofs.Ytdngbmoippadhaa
open Go.RowKit
set_option linter.unusedVariables false

/-- nothing but block k has turned of what was there -/
structure Only (k : Nat) (w w' : World) : Prop where
  os : w'.os = w.os
  tape : w'.tape = w.tape
  output : w'.output = w.output
  size : w.heap.size ≤ w'.heap.size
  block : ∀ j, j < w.heap.size → j ≠ k → w'.heap[j]? = w.heap[j]?
theorem Only.refl (k : Nat) (w : World) : Only k w w := ⟨rfl, rfl, rfl, Nat.le_refl _, fun _ _ _ => rfl⟩
theorem Only.of {k : Nat} {w w' : World} (h : Below w.heap.size w w') : Only k w w' := ⟨h.os, h.tape, h.output, h.size, fun j hj _ => h.block j hj⟩
theorem Only.trans {k : Nat} {a b c : World} (h : Only k a b) (g : Only k b c) : Only k a c :=
  ⟨g.os.trans h.os, g.tape.trans h.tape, g.output.trans h.output, Nat.le_trans h.size g.size, fun j hj hk => (g.block j (Nat.lt_of_lt_of_le hj h.size) hk).trans (h.block j hj hk)⟩
theorem Only.set {k : Nat} {a w : World} (h : Only k a w) (i : Nat) (u : Value) : Only k a (w.setCell ⟨k, i, none⟩ u) :=
  h.trans ⟨rfl, rfl, rfl, by simp [World.setCell], fun j hj hk => Below.heap_setCell _ _ _ _ hk⟩
theorem Only.below {k B : Nat} {w w' : World} (h : Only k w w') (hk : B ≤ k) (hB : B ≤ w.heap.size) : Below B w w' := ⟨h.os, h.tape, h.output, h.size, fun j hj => h.block j (by omega) (by omega)⟩
/-- the reader's block -/
def Reads (w : World) (k : Nat) (s : ByteArray) (a : Nat) : Prop := w.heap[k]? = some (.cells #[.string s, .int .i64 (a : Nat)] 55 (0, 0))
theorem number_is (w : World) (k : Nat) (s : ByteArray) (a n v : Nat) (hE : Reads w k s a) (hs : s.size ≤ 1099511627776) (hn : n ≤ 5) (h : a + n ≤ 8 * s.size) (hv : B.num (B.slice s.data.toList a n) = v) :
    Calls Try.prog 29 #[.pointer (some ⟨k, 0, none⟩), .int .i64 n] w fun e w' => e = .returned (.int .i64 (v : Nat)) ∧ Only k w w' ∧ Reads w' k s (a + n) := by
  subst hv
  have x0 : k < w.heap.size := lt_of_heap hE
  refine (number_ok w k s a n hE hs hn h).mono ?_
  rintro e w' ⟨rfl, W, hB, rfl⟩
  refine ⟨rfl, (Only.of hB).set _ _, ?_⟩
  have h1 : W.heap[k]? = _ := (hB.block k x0).trans hE
  have h2 := heap_set_ h1 1 (.int .i64 ((a + n : Nat) : Int))
  simpa [Reads] using h2

/-- the next length: it and the place behind it, or why not -/
def lengthR (s : List UInt8) : Nat → Nat → Nat → Except Int (Nat × Nat)
  | 0, _, _ => .error 2
  | f + 1, n, a =>
    if 8 * s.length < a + 1 then .error 2
    else if B.bitAt s a = false then .ok (n, a + 1)
    else if 8 * s.length < a + 1 + 1 then .error 2
    else if B.bitAt s (a + 1) then (if 2 ≤ n then lengthR s f (n - 1) (a + 2) else .error 3)
    else (if n ≤ 19 then lengthR s f (n + 1) (a + 2) else .error 3)
theorem num_one (s : List UInt8) (a : Nat) : B.num (B.slice s a 1) = if B.bitAt s a then 1 else 0 := by
  rw [show B.slice s a 1 = [B.bitAt s a] from rfl]
  cases B.bitAt s a <;> rfl
/-- how it ends -/
def Ends (k : Nat) (s : ByteArray) (r : Except Int (Nat × Nat)) (w : World) (e : Ending) (w' : World) : Prop :=
  match r with
  | .ok (m, b) => e = .returned (.int .i64 (m : Nat)) ∧ Only k w w' ∧ Reads w' k s b
  | .error c => e = .panicked (oddPanic c) ∧ Only k w w'

set_option maxRecDepth 100000 in
set_option maxHeartbeats 1600000 in
theorem length_any (w : World) (k : Nat) (s : ByteArray) (a0 n0 F : Nat) (hE : Reads w k s a0) (hs : s.size ≤ 1099511627776) (hn : 1 ≤ n0) (hn' : n0 ≤ 20) (ha : a0 ≤ 9223372036854775000) (hF : 8 * s.size < a0 + F) :
    Calls Try.prog 30 #[.pointer (some ⟨k, 0, none⟩), .int .i64 n0] w fun e w' => Ends k s (lengthR s.data.toList F n0 a0) w e w' := by
  have hl : s.data.toList.length = s.size := by simp
  obtain ⟨r, hr⟩ : ∃ r, lengthR s.data.toList F n0 a0 = r := ⟨_, rfl⟩
  rw [hr]
  have HE := Lib.hid hE
  have HR := Lib.hid hr
  have HL := Lib.hid hl
  have x0 : k < w.heap.size := lt_of_heap hE
  clear hE hr hl
  go_enter Try.func30, Try.ntmps30
  go_wp2_with fail
  go_loopw [1] (fun nv wr => ∃ (n a f : Nat), 1 ≤ n ∧ n ≤ 20 ∧ nv = .int .i64 n ∧ lengthR s.data.toList f n a = r ∧ 8 * s.size < a + f ∧ a ≤ 9223372036854775000 ∧ f ≤ F ∧ Only k w wr ∧ Reads wr k s a ) (fun nv wr => 8 * s.size + 2 - (intOf ((wr.cell? ⟨k, 1, none⟩).getD (.bool false))).toNat)
  case atStart => exact ⟨n0, a0, F, hn, hn', rfl, HR.out, hF, ha, Nat.le_refl _, Only.refl _ _, HE.out⟩
  case round =>
    obtain ⟨n, a, f, hn1, hn2, rfl, hrr, hf, ha1, hfF, hO, hRd⟩ := hrel
    have HO := Lib.hid hO
    have HRd := Lib.hid hRd
    have hcell : wr.cell? ⟨k, 1, none⟩ = some (.int .i64 (a : Nat)) := cell_of_heap hRd 1
    have Hcell := Lib.hid hcell
    obtain ⟨f, rfl⟩ | rfl : (∃ g, f = g + 1) ∨ f = 0 := by cases f with | zero => exact .inr rfl | succ g => exact .inl ⟨g, rfl⟩
    rotate_left
    · have hre : r = .error 2 := hrr.symm
      subst hre
      have C := Lib.hid (number_no wr k s a 1 hRd hs (by omega) (by omega) (by omega))
      clear hO hRd hcell hrr
      go_wp2_with fail
      refine C.out.mono ?_
      rintro e w1 ⟨rfl, hB⟩
      go_wp2_with fail
      exact ⟨rfl, rfl, HO.out.trans (Only.of hB)⟩
    rw [lengthR, HL.out] at hrr
    by_cases h1 : 8 * s.size < a + 1
    · rw [if_pos h1] at hrr
      subst hrr
      have C := Lib.hid (number_no wr k s a 1 hRd hs (by omega) (by omega) (by omega))
      clear hO hRd hcell
      go_wp2_with fail
      refine C.out.mono ?_
      rintro e w1 ⟨rfl, hB⟩
      go_wp2_with fail
      exact ⟨rfl, rfl, HO.out.trans (Only.of hB)⟩
    rw [if_neg h1] at hrr
    rcases hb : B.bitAt s.data.toList a with _ | _
    · rw [hb, if_pos rfl] at hrr
      subst hrr
      have C := Lib.hid (number_is wr k s a 1 0 hRd hs (by omega) (by omega) (by rw [num_one, hb]; rfl))
      clear hO hRd hcell hb
      go_wp2_with fail
      refine C.out.mono ?_
      rintro e w1 ⟨rfl, hO1, hR1⟩
      have HO1 := Lib.hid hO1
      have HR1 := Lib.hid hR1
      clear hO1 hR1
      go_wp2_with fail
      go_ret
      exact ⟨rfl, HO.out.trans HO1.out, HR1.out⟩
    rw [hb, if_neg (by simp)] at hrr
    have C := Lib.hid (number_is wr k s a 1 1 hRd hs (by omega) (by omega) (by rw [num_one, hb]; rfl))
    have Hrr := Lib.hid hrr
    clear hO hRd hcell hb hrr
    go_wp2_with fail
    refine C.out.mono ?_
    rintro e w1 ⟨rfl, hO1, hR1⟩
    have HO1 := Lib.hid (HO.out.trans hO1)
    have HR1 := Lib.hid hR1
    have hrr := Hrr.out
    clear hO1 C HO HRd
    by_cases h2 : 8 * s.size < a + 1 + 1
    · rw [if_pos h2] at hrr
      subst hrr
      have C := Lib.hid (number_no w1 k s (a + 1) 1 hR1 hs (by omega) (by omega) (by omega))
      clear hR1
      go_wp2_with fail
      refine C.out.mono ?_
      rintro e w2 ⟨rfl, hB⟩
      go_wp2_with fail
      exact ⟨rfl, rfl, HO1.out.trans (Only.of hB)⟩
    rw [if_neg h2] at hrr
    rcases hb : B.bitAt s.data.toList (a + 1) with _ | _
    · rw [hb, if_neg (by simp)] at hrr
      have C := Lib.hid (number_is w1 k s (a + 1) 1 0 hR1 hs (by omega) (by omega) (by rw [num_one, hb]; rfl))
      clear hR1 hb Hrr
      by_cases hm : n ≤ 19
      · rw [if_pos hm] at hrr
        have HRR := Lib.hid hrr
        clear hrr
        go_wp2_with fail
        refine C.out.mono ?_
        rintro e w2 ⟨rfl, hO2, hR2⟩
        have HO2 := Lib.hid (HO1.out.trans hO2)
        have HR2 := Lib.hid hR2
        clear hO2 hR2 C HO1 HR1
        go_wp2_with fail
        refine (fits_ok _ _ _ (by simp [mayF]; omega)).mono ?_
        rintro e w3 ⟨rfl, rfl⟩
        go_wp2_with fail
        go_roundw
        case rel => exact ⟨n + 1, a + 2, f, by omega, by omega, by go_num, HRR.out, by omega, by omega, by omega, HO2.out, HR2.out⟩
        case measure =>
          have hc2 : w2.cell? ⟨k, 1, none⟩ = some (.int .i64 ((a + 1 + 1 : Nat) : Int)) := cell_of_heap HR2.out 1
          rw [hc2, Hcell.out]
          simp [intOf]
          omega
      · rw [if_neg hm] at hrr
        subst hrr
        go_wp2_with fail
        refine C.out.mono ?_
        rintro e w2 ⟨rfl, hO2, hR2⟩
        have HO2 := Lib.hid (HO1.out.trans hO2)
        clear hO2 hR2 C HO1 HR1
        go_wp2_with fail
        refine (fits_no _ _ _ (by simp [mayF]; omega)).mono ?_
        rintro e w3 ⟨rfl, rfl⟩
        go_wp2_with fail
        exact ⟨rfl, rfl, HO2.out⟩
    · rw [hb, if_pos rfl] at hrr
      have C := Lib.hid (number_is w1 k s (a + 1) 1 1 hR1 hs (by omega) (by omega) (by rw [num_one, hb]; rfl))
      clear hR1 hb Hrr
      by_cases hm : 2 ≤ n
      · rw [if_pos hm] at hrr
        have HRR := Lib.hid hrr
        clear hrr
        go_wp2_with fail
        refine C.out.mono ?_
        rintro e w2 ⟨rfl, hO2, hR2⟩
        have HO2 := Lib.hid (HO1.out.trans hO2)
        have HR2 := Lib.hid hR2
        clear hO2 hR2 C HO1 HR1
        go_wp2_with fail
        refine (fits_ok _ _ _ (by simp [mayF]; omega)).mono ?_
        rintro e w3 ⟨rfl, rfl⟩
        go_wp2_with fail
        go_roundw
        case rel => exact ⟨n - 1, a + 2, f, by omega, by omega, by go_num, HRR.out, by omega, by omega, by omega, HO2.out, HR2.out⟩
        case measure =>
          have hc2 : w2.cell? ⟨k, 1, none⟩ = some (.int .i64 ((a + 1 + 1 : Nat) : Int)) := cell_of_heap HR2.out 1
          rw [hc2, Hcell.out]
          simp [intOf]
          omega
      · rw [if_neg hm] at hrr
        subst hrr
        go_wp2_with fail
        refine C.out.mono ?_
        rintro e w2 ⟨rfl, hO2, hR2⟩
        have HO2 := Lib.hid (HO1.out.trans hO2)
        clear hO2 hR2 C HO1 HR1
        go_wp2_with fail
        refine (fits_no _ _ _ (by simp [mayF]; omega)).mono ?_
        rintro e w3 ⟨rfl, rfl⟩
        go_wp2_with fail
        exact ⟨rfl, rfl, HO2.out⟩
end Go.Proofs.Ytdngbmoippadhaa
