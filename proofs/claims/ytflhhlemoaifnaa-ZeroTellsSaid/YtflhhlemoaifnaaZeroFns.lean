/- The program's layer 6: digits, rows, and what lays: contracts. -/
import Derived.Test.YtflhhlemoaifnaaFuncs
import Derived.Test.YtflhhlemoaifnaaZeroPlain
namespace Go.Proofs.Ytflhhlemoaifnaa
open Go.RowKit
set_option linter.unusedVariables false

set_option maxHeartbeats 400000 in
theorem digits_any (n : Int) (w : World) (hn : -9223372036854775808 ≤ n) (hn' : n ≤ 9223372036854775807) :
    Calls Try.prog 11 #[.int .i64 n] w fun e w' => ∃ v, e = .returned v ∧ OwnInts w' w.heap.size v (digs n.toNat) ∧ Below w.heap.size w w' := by
  go_enter Try.func11, Try.ntmps11
  go_wp2
  go_loopw [0, 2] (fun nv ov wr => ∃ (z : Int) (done : List Int), z ≤ n ∧ nv = .int .i64 z ∧ OwnInts wr w.heap.size ov done ∧ Hid (done ++ digs z.toNat = digs n.toNat) ∧ Below w.heap.size w wr) (fun nv _ _ => (intOf nv).toNat)
  case atStart => exact ⟨n, [], Int.le_refl _, rfl, OwnInts.nil _ _, List.nil_append _, Below.refl _ _⟩
  case round =>
    obtain ⟨z, done, hz, rfl, hown, heq, hB⟩ := hrel
    have hzB := hB.size
    have hdl : done.length ≤ 64 := by
      have h1 := length_digs_64 n.toNat (by omega)
      rw [← heq.out, List.length_append] at h1
      omega
    have Hown := Lib.hid hown
    clear hown
    by_cases hpos : 0 < z
    · obtain ⟨m, rfl⟩ := Int.eq_ofNat_of_zero_le (show 0 ≤ z by omega)
      have hm0 : 0 ≤ (m : Int) - 1 := by omega
      have heq2 : Hid ((done ++ [((m : Int) - 1) % 2]) ++ digs (((m : Int) - 1) / 2).toNat = digs n.toNat) := by
        show _ = _
        rw [← heq.out, Int.toNat_natCast, digs_pos (n := m) (by omega), show (((m : Int) - 1) / 2).toNat = (m - 1) / 2 by omega, show (((m - 1) % 2 : Nat) : Int) = ((m : Int) - 1) % 2 by omega]
        simp
      clear heq
      go_wp2_with
        (at_builtin
         refine wpList_append_ints rfl _ _ rfl w.heap.size _ done rfl (Hown.out.alloc _) (wr.heap.size + 1) _ [((m : Int) - 1) % 2] rfl (IsInts.new wr _ _ _ _ rfl rfl rfl (by simp [maxLen])) (by simp; omega) (by simp; omega) ?_
         intro q' c' w1 hown1 hg1 hat1
         have Hown1 := Lib.hid hown1
         have hB1 : Below w.heap.size w w1 := (hB.alloc (by omega) _).grown hg1 (by simp; omega) (fun k hk => by have := own_ge Hown.out hk; omega)
         clear hg1 hat1 hown1)
      go_roundw
      case rel => exact ⟨((m : Int) - 1) / 2, done ++ [((m : Int) - 1) % 2], by omega, rfl, Hown1.out, heq2, hB1⟩
      case measure => simp [intOf]; omega
    · go_wp2
      go_ret
      refine ⟨_, rfl, ?_, hB⟩
      have := heq.out
      rw [show z.toNat = 0 by omega, digs_zero, List.append_nil] at this
      rw [← this]
      exact Hown.out

theorem enters_below1 : Enters Try.prog 29 := enters_of Try.func29 (by kernel_rfl) rfl
theorem enters_enc1 : Enters Try.prog 23 := enters_of Try.func23 (by kernel_rfl) rfl
theorem enters_num1 : Enters Try.prog 27 := enters_of Try.func27 (by kernel_rfl) rfl
theorem enters_row1 : Enters Try.prog 31 := enters_of Try.func31 (by kernel_rfl) rfl
theorem below1_any (x : Int) (w : World) : Calls Try.prog 29 #[.int .i64 x] w fun e w' => e = .returned (.bool (decide (x < 0))) ∧ w = w' := by
  go_enter Try.func29, Try.ntmps29
  go_wp2
  go_ret
  exact ⟨rfl, rfl⟩
theorem enc1_any (x : Int) (w : World) : Calls Try.prog 23 #[.int .i64 x] w fun e w' => e = .returned (.bool (decide (1099511627776 < x))) ∧ w = w' := by
  go_enter Try.func23, Try.ntmps23
  go_wp2
  go_ret
  exact ⟨rfl, rfl⟩
theorem num1_any (x : Int) (w : World) : Calls Try.prog 27 #[.int .i64 x] w fun e w' => e = .returned (.bool (!decide (x = 0) && !decide (x = 1))) ∧ w = w' := by
  by_cases h0 : x = 0
  · subst h0
    go_enter Try.func27, Try.ntmps27
    go_wp2
    go_ret
    exact ⟨rfl, rfl⟩
  · have h1 : (x != 0) = true := by simpa using h0
    have h2 : (x != 1) = !decide (x = 1) := by rw [Bool.eq_iff_iff]; simp
    rw [decide_eq_false h0]
    have H2 := Lib.hid h2
    clear h2
    go_enter Try.func27, Try.ntmps27
    go_wp2
    go_ret
    exact ⟨ret_bool H2.out, rfl⟩
theorem row1_any (x top : Int) (b : Nat) (w : World) (hb : w.cell? ⟨b, 0, none⟩ = some (.int .i64 top)) : Calls Try.prog 31 #[.int .i64 x, .pointer (some ⟨b, 0, none⟩)] w fun e w' => e = .returned (.bool (decide (top < x))) ∧ w = w' := by
  go_enter Try.func31, Try.ntmps31
  go_wp2
  go_ret
  exact ⟨rfl, rfl⟩

/-- is one below 0? -/
def negF (l : List Int) : Bool := l.any fun x => decide (x < 0)
set_option maxHeartbeats 400000 in
theorem below_any (w : World) (v : Value) (xs : List Int) (hv : IsInts w w.heap.size v xs) (hlen : xs.length ≤ 281474976710656) :
    Calls Try.prog 21 #[v] w fun e w' => e = .returned (.bool (negF xs)) ∧ Below w.heap.size w w' := by
  have C := Lib.hid (containsFunc_any w v xs (fun x => decide (x < 0)) 29 #[] enters_below1 hv hlen (fun x _ W _ => below1_any x W))
  clear hv
  go_enter Try.func21, Try.ntmps21
  go_wp2_with fail
  refine C.out.mono ?_
  rintro e w1 ⟨rfl, hB⟩
  go_wp2_with fail
  go_ret
  exact ⟨rfl, hB⟩
theorem idxF_row (top : Int) (l : List Int) : (if idxF (fun x => decide (top < x)) l < 0 then (l.length : Int) else idxF (fun x => decide (top < x)) l) = (rowLen top l : Nat) := by
  have e : (l.takeWhile fun x => !decide (top < x)) = l.takeWhile fun x => decide (x ≤ top) := by
    congr 1; funext x; rw [Bool.eq_iff_iff]; simp
  unfold idxF
  by_cases h : (l.any fun x => decide (top < x)) = true
  · rw [if_pos h, if_neg (by omega), e]; rfl
  · rw [if_neg h, if_pos (by omega)]
    rw [rowLen_eq (Nat.le_refl _) (fun i x _ hi => ?_) (fun x hx => by simp at hx)]
    have h2 : (l.any fun x => decide (top < x)) = false := by simpa using h
    rw [List.any_eq_false] at h2
    have := h2 x (List.mem_of_getElem? hi)
    simpa using this
set_option maxHeartbeats 400000 in
theorem row_any (w : World) (v : Value) (xs : List Int) (top : Int) (hv : IsInts w w.heap.size v xs) (hlen : xs.length ≤ 281474976710656) :
    Calls Try.prog 25 #[v, .int .i64 top] w fun e w' => e = .returned (.int .i64 (rowLen top xs : Nat)) ∧ Below w.heap.size w w' := by
  have hmf := hmf
  obtain ⟨A, ca, rfl, hc1, hc2⟩ := hv.shape
  have hbx : (w.alloc (.cells #[.int .i64 top] 3)).heap[w.heap.size]? = some (.cells #[.int .i64 top] 3 (0, 0)) := heap_alloc_new w _
  have C := Lib.hid (indexFunc_any (w.alloc (.cells #[.int .i64 top] 3)) _ xs (fun x => decide (top < x)) 31 #[.pointer (some ⟨w.heap.size, 0, none⟩)] enters_row1 ((hv.below ((Below.refl w.heap.size w).alloc (Nat.le_refl _) _) (Nat.le_refl _)).mono (by simp)) hlen
    (fun x _ W hB => row1_any x top w.heap.size W (cell_of_heap ((hB.block w.heap.size (by simp)).trans hbx) 0)))
  have hr := idxF_row top xs
  generalize idxF (fun x => decide (top < x)) xs = z at *
  have Hr := Lib.hid hr
  clear hv hr hbx
  go_enter Try.func25, Try.ntmps25
  go_wp2_with fail
  refine C.out.mono ?_
  rintro e w1 ⟨rfl, hB⟩
  have hBw : Below w.heap.size w w1 := ((Below.refl _ _).alloc (Nat.le_refl _) _).trans (hB.mono (by simp))
  by_cases hz : z < 0
  · go_wp2_with fail
    go_ret
    exact ⟨ret_int (by rw [← Hr.out, if_pos hz]), hBw⟩
  · go_wp2_with fail
    go_ret
    exact ⟨ret_int (by rw [← Hr.out, if_neg (by omega)]), hBw⟩
end Go.Proofs.Ytflhhlemoaifnaa
