/- BitsBack: what was put is got at its place: the walk. -/
import Derived.Test.YtfieelanbcjcpaaAwake01
namespace Go.Proofs.Ytfieelanbcjcpaa
open Go.RowKit
set_option linter.unusedVariables false

set_option maxRecDepth 100000 in
set_option maxHeartbeats 1600000 in
theorem back_walk (w : World) (v : Value) (raw : List Int) (x : Nat) (n : Int) (hv : IsInts w w.heap.size v raw) (hr : I64s raw) (hx : x < 18446744073709551616) (hn : -9223372036854775808 ≤ n) (hn' : n ≤ 9223372036854775807) :
    Calls Try.prog 3 #[v, .int .u64 x, .int .i64 n] w fun e w' => e = .returned (.bool true) ∧ Below w.heap.size w w' := by
  obtain ⟨A, cap, rfl, hcap, hmax⟩ := hv.shape
  have hk := pickF_lt n 65 (by omega)
  obtain ⟨k, hkk⟩ : ∃ k : Nat, pickF n 65 = (k : Int) := ⟨(pickF n 65).toNat, by omega⟩
  have hk64 : k ≤ 64 := by omega
  have hlen := length_rawBits raw 200
  generalize hl : rawBits raw 200 = l at *
  have hlow := B.length_low x k
  have hnum : ((l ++ B.low x k).drop l.length).take k = B.low x k := by rw [List.drop_left, List.take_of_length_le (by omega)]
  have hcl : (l ++ B.low x k).length = l.length + k := by rw [List.length_append, hlow]
  generalize hc : l ++ B.low x k = c at *
  have Hc := Lib.hid hc
  have hcl2 : c.length ≤ 264 := by omega
  have hcl3 : l.length + k ≤ c.length := by omega
  have Hcl := Lib.hid hcl
  have Hnum := Lib.hid hnum
  have Hl := Lib.hid hl
  have Hkk := Lib.hid hkk
  have Hk := Lib.hid hk
  have Ha := Lib.hid awake_any
  clear hl hkk hk hlow hnum hc hcl
  go_enter Try.func3, Try.ntmps3
  go_wp2_with fail
  refine (Ha.out _).mono ?_
  rintro e w1 ⟨rfl, hB1⟩
  have z1 : w.heap.size ≤ w1.heap.size := by have := hB1.size; (try simp at this); omega
  have hBw1 : Below w.heap.size w w1 := (Below.refl _ _).trans (hB1.mono (by first | omega | (simp; try omega)))
  have y1 : w.heap.size ≤ w1.heap.size := hBw1.size
  clear hB1
  go_wp2_with fail
  refine (lawBits_any w1 _ raw 200 ((hv.below hBw1 (Nat.le_refl _)).mono hBw1.size) hr (by omega)).mono ?_
  rintro e w2 ⟨rfl, hB2⟩
  rw [Hl.out, bitsVal_txt]
  have z2 : w1.heap.size ≤ w2.heap.size := by have := hB2.size; (try simp at this); omega
  have hBw2 : Below w.heap.size w w2 := hBw1.trans (hB2.mono (by first | omega | (simp; try omega)))
  have y2 : w.heap.size ≤ w2.heap.size := hBw2.size
  clear hB2 hBw1
  go_wp2_with fail
  refine (pick_any n 65 _ hn hn' (by omega) (by omega)).mono ?_
  rintro e v3 ⟨rfl, rfl⟩
  rw [Hkk.out]
  go_wp2_with fail
  refine (put_ok _ l x k (by omega) hx hk64).mono ?_
  rintro e w4 ⟨rfl, hB4⟩
  rw [Hc.out]
  have z4 : w2.heap.size + 1 ≤ w4.heap.size := by have := hB4.size; (try simp at this); omega
  have f4b : w4.heap[w2.heap.size]? = some (.cells #[.string (txt l), .int .i64 (l.length : Nat)] 26 (0, 0)) := (hB4.block _ (by first | omega | (simp; try omega))).trans (heap_new _ _ _ (by simp))
  have x4b : w2.heap.size < w4.heap.size := lt_of_heap f4b
  have q4b0 : w4.cell? ⟨w2.heap.size, 0, none⟩ = some (.string (txt l)) := cell_of_heap f4b 0
  have q4b1 : w4.cell? ⟨w2.heap.size, 1, none⟩ = some (.int .i64 (l.length : Nat)) := cell_of_heap f4b 1
  have F4b := Lib.hid f4b
  have hBw4 : Below w.heap.size w w4 := (hBw2.alloc (by first | omega | (simp; try omega)) _).trans (hB4.mono (by first | omega | (simp; try omega)))
  have y4 : w.heap.size ≤ w4.heap.size := hBw4.size
  clear f4b hB4 hBw2
  go_wp2_with fail
  refine (get_ok _ c l.length k (by omega) hcl3 hk64).mono ?_
  rintro e v5 ⟨rfl, rfl⟩
  rw [Hnum.out, B.num_low]
  by_cases h64 : k < 64
  · have hlq : ((c.length : Int) == (l.length : Int) + k) = true := by rw [beq_iff_eq, Hcl.out]; omega
    have e1 := wrap_pow k h64
    have e2 := pow_ne k
    go_wp2_with fail
    refine (right_ok _ c (by omega)).mono ?_
    rintro e w6 ⟨rfl, hB6⟩
    have z6 : w4.heap.size + 1 ≤ w6.heap.size := by have := hB6.size; (try simp at this); omega
    have f6b : w6.heap[w2.heap.size]? = some (.cells #[.string (txt l), .int .i64 (l.length : Nat)] 26 (0, 0)) := (hB6.block _ (by first | omega | (simp; try omega))).trans (heap_up _ (F4b.out))
    have x6b : w2.heap.size < w6.heap.size := lt_of_heap f6b
    have q6b0 : w6.cell? ⟨w2.heap.size, 0, none⟩ = some (.string (txt l)) := cell_of_heap f6b 0
    have q6b1 : w6.cell? ⟨w2.heap.size, 1, none⟩ = some (.int .i64 (l.length : Nat)) := cell_of_heap f6b 1
    have F6b := Lib.hid f6b
    have f6c : w6.heap[w4.heap.size]? = some (.cells #[.string (txt c), .int .i64 (c.length : Nat)] 26 (0, 0)) := (hB6.block _ (by first | omega | (simp; try omega))).trans (heap_new _ _ _ (by simp))
    have x6c : w4.heap.size < w6.heap.size := lt_of_heap f6c
    have q6c0 : w6.cell? ⟨w4.heap.size, 0, none⟩ = some (.string (txt c)) := cell_of_heap f6c 0
    have q6c1 : w6.cell? ⟨w4.heap.size, 1, none⟩ = some (.int .i64 (c.length : Nat)) := cell_of_heap f6c 1
    have F6c := Lib.hid f6c
    have hBw6 : Below w.heap.size w w6 := (hBw4.alloc (by first | omega | (simp; try omega)) _).trans (hB6.mono (by first | omega | (simp; try omega)))
    have y6 : w.heap.size ≤ w6.heap.size := hBw6.size
    clear f6b f6c hB6 q4b0 q4b1 x4b F4b hBw4
    go_wp2_with fail
    refine (same_ok _ [] l (B.low x k) c 0 (by rw [List.nil_append]; exact Hc.out.symm) rfl (by omega)).mono ?_
    rintro e w7 ⟨rfl, hB7⟩
    have z7 : w6.heap.size ≤ w7.heap.size := by have := hB7.size; (try simp at this); omega
    have f7b : w7.heap[w2.heap.size]? = some (.cells #[.string (txt l), .int .i64 (l.length : Nat)] 26 (0, 0)) := (hB7.block _ (by first | omega | (simp; try omega))).trans (F6b.out)
    have x7b : w2.heap.size < w7.heap.size := lt_of_heap f7b
    have q7b0 : w7.cell? ⟨w2.heap.size, 0, none⟩ = some (.string (txt l)) := cell_of_heap f7b 0
    have q7b1 : w7.cell? ⟨w2.heap.size, 1, none⟩ = some (.int .i64 (l.length : Nat)) := cell_of_heap f7b 1
    have F7b := Lib.hid f7b
    have f7c : w7.heap[w4.heap.size]? = some (.cells #[.string (txt c), .int .i64 (c.length : Nat)] 26 (0, 0)) := (hB7.block _ (by first | omega | (simp; try omega))).trans (F6c.out)
    have x7c : w4.heap.size < w7.heap.size := lt_of_heap f7c
    have q7c0 : w7.cell? ⟨w4.heap.size, 0, none⟩ = some (.string (txt c)) := cell_of_heap f7c 0
    have q7c1 : w7.cell? ⟨w4.heap.size, 1, none⟩ = some (.int .i64 (c.length : Nat)) := cell_of_heap f7c 1
    have F7c := Lib.hid f7c
    have hBw7 : Below w.heap.size w w7 := hBw6.trans (hB7.mono (by first | omega | (simp; try omega)))
    have y7 : w.heap.size ≤ w7.heap.size := hBw7.size
    clear f7b f7c hB7 q6b0 q6b1 x6b q6c0 q6c1 x6c F6b F6c hBw6
    go_wp2
    go_ret
    exact ⟨rfl, hBw7⟩
  · obtain rfl : k = 64 := by omega
    have hlq : ((c.length : Int) == (l.length : Int) + 64) = true := by rw [beq_iff_eq, Hcl.out]; omega
    rw [Nat.mod_eq_of_lt (by simpa using hx)]
    go_wp2_with fail
    refine (right_ok _ c (by omega)).mono ?_
    rintro e w6 ⟨rfl, hB6⟩
    have z6 : w4.heap.size + 1 ≤ w6.heap.size := by have := hB6.size; (try simp at this); omega
    have f6b : w6.heap[w2.heap.size]? = some (.cells #[.string (txt l), .int .i64 (l.length : Nat)] 26 (0, 0)) := (hB6.block _ (by first | omega | (simp; try omega))).trans (heap_up _ (F4b.out))
    have x6b : w2.heap.size < w6.heap.size := lt_of_heap f6b
    have q6b0 : w6.cell? ⟨w2.heap.size, 0, none⟩ = some (.string (txt l)) := cell_of_heap f6b 0
    have q6b1 : w6.cell? ⟨w2.heap.size, 1, none⟩ = some (.int .i64 (l.length : Nat)) := cell_of_heap f6b 1
    have F6b := Lib.hid f6b
    have f6c : w6.heap[w4.heap.size]? = some (.cells #[.string (txt c), .int .i64 (c.length : Nat)] 26 (0, 0)) := (hB6.block _ (by first | omega | (simp; try omega))).trans (heap_new _ _ _ (by simp))
    have x6c : w4.heap.size < w6.heap.size := lt_of_heap f6c
    have q6c0 : w6.cell? ⟨w4.heap.size, 0, none⟩ = some (.string (txt c)) := cell_of_heap f6c 0
    have q6c1 : w6.cell? ⟨w4.heap.size, 1, none⟩ = some (.int .i64 (c.length : Nat)) := cell_of_heap f6c 1
    have F6c := Lib.hid f6c
    have hBw6 : Below w.heap.size w w6 := (hBw4.alloc (by first | omega | (simp; try omega)) _).trans (hB6.mono (by first | omega | (simp; try omega)))
    have y6 : w.heap.size ≤ w6.heap.size := hBw6.size
    clear f6b f6c hB6 q4b0 q4b1 x4b F4b hBw4
    go_wp2_with fail
    refine (same_ok _ [] l (B.low x 64) c 0 (by rw [List.nil_append]; exact Hc.out.symm) rfl (by omega)).mono ?_
    rintro e w7 ⟨rfl, hB7⟩
    have z7 : w6.heap.size ≤ w7.heap.size := by have := hB7.size; (try simp at this); omega
    have f7b : w7.heap[w2.heap.size]? = some (.cells #[.string (txt l), .int .i64 (l.length : Nat)] 26 (0, 0)) := (hB7.block _ (by first | omega | (simp; try omega))).trans (F6b.out)
    have x7b : w2.heap.size < w7.heap.size := lt_of_heap f7b
    have q7b0 : w7.cell? ⟨w2.heap.size, 0, none⟩ = some (.string (txt l)) := cell_of_heap f7b 0
    have q7b1 : w7.cell? ⟨w2.heap.size, 1, none⟩ = some (.int .i64 (l.length : Nat)) := cell_of_heap f7b 1
    have F7b := Lib.hid f7b
    have f7c : w7.heap[w4.heap.size]? = some (.cells #[.string (txt c), .int .i64 (c.length : Nat)] 26 (0, 0)) := (hB7.block _ (by first | omega | (simp; try omega))).trans (F6c.out)
    have x7c : w4.heap.size < w7.heap.size := lt_of_heap f7c
    have q7c0 : w7.cell? ⟨w4.heap.size, 0, none⟩ = some (.string (txt c)) := cell_of_heap f7c 0
    have q7c1 : w7.cell? ⟨w4.heap.size, 1, none⟩ = some (.int .i64 (c.length : Nat)) := cell_of_heap f7c 1
    have F7c := Lib.hid f7c
    have hBw7 : Below w.heap.size w w7 := hBw6.trans (hB7.mono (by first | omega | (simp; try omega)))
    have y7 : w.heap.size ≤ w7.heap.size := hBw7.size
    clear f7b f7c hB7 q6b0 q6b1 x6b q6c0 q6c1 x6c F6b F6c hBw6
    go_wp2
    go_ret
    exact ⟨rfl, hBw7⟩
end Go.Proofs.Ytfieelanbcjcpaa
