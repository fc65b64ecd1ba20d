/- Put and Cat of the program: contracts. -/
import Derived.Test.YtpccdohhiojlkaaBitsLaid
namespace Go.Proofs.Ytpccdohhiojlkaa
open Go.RowKit
set_option linter.unusedVariables false

/-- what is put -/
def putL (s : List UInt8) (m : Int) (v : Nat) (n : Int) : Option (List Bool) :=
  if rightB s m then (if 0 ≤ n ∧ n ≤ 64 then some (B.slice s 0 m.toNat ++ B.low v n.toNat) else none) else none

set_option maxHeartbeats 400000 in
theorem put1_any (w : World) (b : Nat) (a1 a2 a3 : Nat) (s : ByteArray) (m : Int) (v : Nat) (n : Int) (h : Wr w b []) (hs : 8 * s.size < 562949953421248) (hv : v < 18446744073709551616)
    (hm : -9223372036854775808 ≤ m) (hm' : m ≤ 9223372036854775807) (h1 : a1 < b) (h2 : a2 < b) (h3 : a3 < b)
    (c1 : w.heap[a1]? = some (.cells #[.string s, .int .i64 m] 28 (0, 0))) (c2 : w.heap[a2]? = some (.cells #[.int .u64 v] 42 (0, 0))) (c3 : w.heap[a3]? = some (.cells #[.int .i64 n] 3 (0, 0))) :
    Calls Try.prog 37 #[.pointer (some ⟨b, 0, none⟩), .pointer (some ⟨a1, 0, none⟩), .pointer (some ⟨a2, 0, none⟩), .pointer (some ⟨a3, 0, none⟩)] w (Laid w b (putL s.data.toList m v n)) := by
  have q0 : w.cell? ⟨a1, 0, none⟩ = some (.string s) := cell_of_heap c1 0
  have q1 : w.cell? ⟨a1, 1, none⟩ = some (.int .i64 m) := cell_of_heap c1 1
  have hb := bits_any w b [] s m h (by simpa using by omega) hm hm'
  have Hb := Lib.hid hb
  have C1 := Lib.hid c1
  have C2 := Lib.hid c2
  have C3 := Lib.hid c3
  clear hb c1 c2 c3
  cases hr : rightB s.data.toList m with
  | false =>
    have hp : putL s.data.toList m v n = none := by unfold putL; rw [hr]; rfl
    rw [hp]
    rw [hr] at Hb
    clear hr hp
    go_enter Try.func37, Try.ntmps37
    go_wp2_with (go_at_call 36; refine Hb.out.mono ?_; rintro e w' ⟨hB, rfl⟩)
    exact ⟨rfl, hB, rfl⟩
  | true =>
    have hp : putL s.data.toList m v n = if 0 ≤ n ∧ n ≤ 64 then some (B.slice s.data.toList 0 m.toNat ++ B.low v n.toNat) else none := by unfold putL; rw [hr]; rfl
    rw [hp]
    rw [hr, if_pos rfl, List.nil_append] at Hb
    have hl : (B.slice s.data.toList 0 m.toNat).length ≤ 8 * s.size := by
      rw [B.length_slice]
      unfold rightB at hr
      simp only [Bool.and_eq_true, decide_eq_true_eq] at hr
      have : s.data.toList.length = s.size := by simp
      omega
    clear hr hp
    generalize B.slice s.data.toList 0 m.toNat = l at *
    by_cases hn : 0 ≤ n ∧ n ≤ 64
    · have e : (if 0 ≤ n ∧ n ≤ 64 then some (l ++ B.low v n.toNat) else none) = some (l ++ B.low v n.toNat) := if_pos hn
      rw [e]
      clear e
      go_enter Try.func37, Try.ntmps37
      go_wp2_with
        (first
         | (go_at_call 36
            refine Hb.out.mono ?_
            rintro e w1 ⟨hB, rfl, hW⟩
            have q2 : w1.cell? ⟨a2, 0, none⟩ = some (.int .u64 v) := cell_of_heap ((hB.block _ h2).trans C2.out) 0
            have q3 : w1.cell? ⟨a3, 0, none⟩ = some (.int .i64 n) := cell_of_heap ((hB.block _ h3).trans C3.out) 0)
         | (go_at_call 38
            refine (number_any _ b l v n hW hv (by omega)).mono ?_
            rintro e w2 ⟨hB2, hL⟩
            rw [if_pos hn] at hL
            obtain ⟨rfl, hW2⟩ := hL))
      go_end0
      exact ⟨hB.trans hB2, rfl, hW2⟩
    · have e : (if 0 ≤ n ∧ n ≤ 64 then some (l ++ B.low v n.toNat) else none) = none := if_neg hn
      rw [e]
      clear e
      go_enter Try.func37, Try.ntmps37
      go_wp2_with
        (first
         | (go_at_call 36
            refine Hb.out.mono ?_
            rintro e w1 ⟨hB, rfl, hW⟩
            have q2 : w1.cell? ⟨a2, 0, none⟩ = some (.int .u64 v) := cell_of_heap ((hB.block _ h2).trans C2.out) 0
            have q3 : w1.cell? ⟨a3, 0, none⟩ = some (.int .i64 n) := cell_of_heap ((hB.block _ h3).trans C3.out) 0)
         | (go_at_call 38
            refine (number_any _ b l v n hW hv (by omega)).mono ?_
            rintro e w2 ⟨hB2, hL⟩
            rw [if_neg hn] at hL
            obtain rfl := hL))
      exact ⟨rfl, hB.trans hB2, rfl⟩

theorem enters_put1 : Enters Try.prog 37 := enters_of Try.func37 (by kernel_rfl) rfl

/-- bits that are no result -/
def noBits : Value := .agg #[.string ⟨#[]⟩, .int .i64 0]

set_option maxHeartbeats 400000 in
theorem put_any (w : World) (s : ByteArray) (m : Int) (v : Nat) (n : Int) (hs : 8 * s.size < 562949953421248) (hv : v < 18446744073709551616) (hm : -9223372036854775808 ≤ m) (hm' : m ≤ 9223372036854775807) :
    Calls Try.prog 18 #[.agg #[.string s, .int .i64 m], .int .u64 v, .int .i64 n] w fun e w' => e = .returned (laidVal (putL s.data.toList m v n)) ∧ Below w.heap.size w w' := by
  have hmf := hmf
  have hz : (((w.alloc (.cells #[.string s, .int .i64 m] 28)).alloc (.cells #[.int .u64 v] 42)).alloc (.cells #[.int .i64 n] 3)).heap.size = w.heap.size + 3 := by simp
  obtain ⟨W, hW⟩ : ∃ W, W = ((((w.alloc (.cells #[.string s, .int .i64 m] 28)).alloc (.cells #[.int .u64 v] 42)).alloc (.cells #[.int .i64 n] 3)).alloc (.cells #[.string ⟨#[]⟩, .int .i64 0] 28)) := ⟨_, rfl⟩
  have a0 : W.heap[w.heap.size]? = some (.cells #[.string s, .int .i64 m] 28 (0, 0)) := by rw [hW]; exact heap_up _ (heap_up _ (heap_up _ (heap_alloc_new w _)))
  have a1 : W.heap[w.heap.size + 1]? = some (.cells #[.int .u64 v] 42 (0, 0)) := by rw [hW]; exact heap_up _ (heap_up _ (heap_new _ _ _ (by simp)))
  have a2 : W.heap[w.heap.size + 1 + 1]? = some (.cells #[.int .i64 n] 3 (0, 0)) := by rw [hW]; exact heap_up _ (heap_new _ _ _ (by simp))
  have a3 : W.heap[w.heap.size + 1 + 1 + 1]? = some (.cells #[.string ⟨#[]⟩, .int .i64 0] 28 (0, 0)) := by rw [hW]; exact heap_new _ _ _ (by simp)
  have hWs : W.heap.size = w.heap.size + 4 := by rw [hW]; simp
  have hWB : Below w.heap.size w W := by rw [hW]; exact ((((Below.refl _ _).alloc (Nat.le_refl _) _).alloc (by simp) _).alloc (by simp; omega) _).alloc (by simp; omega) _
  have HW := Lib.hid hW
  clear hW hz
  have C := Lib.hid (laid_any W 37 #[.pointer (some ⟨w.heap.size, 0, none⟩), .pointer (some ⟨w.heap.size + 1, 0, none⟩), .pointer (some ⟨w.heap.size + 1 + 1, 0, none⟩)] (putL s.data.toList m v n) enters_put1
    (fun W' b hB hb hw => put1_any W' b w.heap.size (w.heap.size + 1) (w.heap.size + 1 + 1) s m v n hw hs hv hm hm' (by omega) (by omega) (by omega) ((hB.block _ (by omega)).trans a0) ((hB.block _ (by omega)).trans a1) ((hB.block _ (by omega)).trans a2)))
  have A3 := Lib.hid a3
  clear a0 a1 a2 a3
  generalize putL s.data.toList m v n = ls at *
  go_enter Try.func18, Try.ntmps18
  go_wp2_with fail
  rw [← HW.out]
  refine C.out.mono ?_
  rintro e w1 ⟨rfl, hB⟩
  have hb3 := (hB.block _ (by omega)).trans A3.out
  have q0 : w1.cell? ⟨w.heap.size + 1 + 1 + 1, 0, none⟩ = some (.string ⟨#[]⟩) := cell_of_heap hb3 0
  have q1 : w1.cell? ⟨w.heap.size + 1 + 1 + 1, 1, none⟩ = some (.int .i64 0) := cell_of_heap hb3 1
  have qf := frozen_of_heap hb3
  have hBw := hWB.trans (hB.mono (by omega))
  clear hb3 C HW A3
  cases ls with
  | none =>
    simp only [laidVal]
    go_wp2
    exact bodyPost_ret (v := .tuple #[noBits, .int .i64 1]) (by simp [results, Try.results18, go_sem, q0, q1, noBits]) rfl ⟨rfl, (hBw.setCell (p := ⟨w.heap.size + 1 + 1 + 1, 0, none⟩) (by simp; omega) _).setCell (p := ⟨w.heap.size + 1 + 1 + 1, 1, none⟩) (by simp; omega) _⟩
  | some l =>
    simp only [laidVal, bitsVal]
    go_wp2
    exact bodyPost_ret (v := .tuple #[bitsVal l, .int .i64 0]) (by simp [results, Try.results18, go_sem, q0, q1, bitsVal]) rfl ⟨rfl, (hBw.setCell (p := ⟨w.heap.size + 1 + 1 + 1, 0, none⟩) (by simp; omega) _).setCell (p := ⟨w.heap.size + 1 + 1 + 1, 1, none⟩) (by simp; omega) _⟩

end Go.Proofs.Ytpccdohhiojlkaa
