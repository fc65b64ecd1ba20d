/- awake of the law's package: its first calls answer as they must. -/
import Derived.Test.YtfieelanbcjcpaaBitsFacts
import Derived.Test.YtfieelanbcjcpaaBitsSame
namespace Go.Proofs.Ytfieelanbcjcpaa
open Go.RowKit
set_option linter.unusedVariables false

theorem aw_put1 (W : World) : Calls Try.prog 11 #[.agg #[.string ⟨#[]⟩, .int .i64 0], .int .u64 5, .int .i64 3] W fun e w' => e = .returned (.tuple #[.agg #[.string ⟨#[160]⟩, .int .i64 3], .int .i64 0]) ∧ Below W.heap.size W w' :=
  (put_any W ⟨#[]⟩ 0 5 3 (by decide) (by decide) (by decide) (by decide)).mono fun _ _ h => ⟨h.1.trans (congrArg Ending.returned (by kernel_rfl)), h.2⟩
theorem aw_put2 (W : World) : Calls Try.prog 11 #[.agg #[.string ⟨#[160]⟩, .int .i64 3], .int .u64 1, .int .i64 2] W fun e w' => e = .returned (.tuple #[.agg #[.string ⟨#[168]⟩, .int .i64 5], .int .i64 0]) ∧ Below W.heap.size W w' :=
  (put_any W ⟨#[160]⟩ 3 1 2 (by decide) (by decide) (by decide) (by decide)).mono fun _ _ h => ⟨h.1.trans (congrArg Ending.returned (by kernel_rfl)), h.2⟩
theorem aw_get1 (W : World) : Calls Try.prog 12 #[.string ⟨#[168]⟩, .int .i64 2, .int .i64 3] W fun e w' => e = .returned (.tuple #[.int .u64 5, .int .i64 0]) ∧ W = w' :=
  (get_any ⟨#[168]⟩ 2 3 W (by decide)).mono fun _ _ h => ⟨h.1.trans (congrArg Ending.returned (by kernel_rfl)), h.2⟩
theorem aw_get2 (W : World) : Calls Try.prog 12 #[.string ⟨#[168]⟩, .int .i64 6, .int .i64 3] W fun e w' => e = .returned (.tuple #[.int .u64 0, .int .i64 2]) ∧ W = w' :=
  (get_any ⟨#[168]⟩ 6 3 W (by decide)).mono fun _ _ h => ⟨h.1.trans (congrArg Ending.returned (by kernel_rfl)), h.2⟩
theorem aw_get3 (W : World) : Calls Try.prog 12 #[.string ⟨#[168]⟩, .int .i64 0, .int .i64 65] W fun e w' => e = .returned (.tuple #[.int .u64 0, .int .i64 1]) ∧ W = w' :=
  (get_any ⟨#[168]⟩ 0 65 W (by decide)).mono fun _ _ h => ⟨h.1.trans (congrArg Ending.returned (by kernel_rfl)), h.2⟩
theorem aw_put3 (W : World) : Calls Try.prog 11 #[.agg #[.string ⟨#[]⟩, .int .i64 1], .int .u64 0, .int .i64 0] W fun e w' => e = .returned (.tuple #[.agg #[.string ⟨#[]⟩, .int .i64 0], .int .i64 1]) ∧ Below W.heap.size W w' :=
  (put_any W ⟨#[]⟩ 1 0 0 (by decide) (by decide) (by decide) (by decide)).mono fun _ _ h => ⟨h.1.trans (congrArg Ending.returned (by kernel_rfl)), h.2⟩
theorem aw_cat (W : World) (v : Value) (hv : IsPairs W W.heap.size v [(⟨#[160]⟩, 3), (⟨#[168]⟩, 5)]) : Calls Try.prog 15 #[v] W fun e w' => e = .returned (.tuple #[.agg #[.string ⟨#[181]⟩, .int .i64 8], .int .i64 0]) ∧ Below W.heap.size W w' :=
  (cat_any W v _ hv (by intro p hp; simp at hp; rcases hp with rfl | rfl <;> decide) (by decide)).mono fun _ _ h => ⟨h.1.trans (congrArg Ending.returned (by kernel_rfl)), h.2⟩
theorem aw_right1 (W : World) : Calls Try.prog 13 #[.agg #[.string ⟨#[168]⟩, .int .i64 5]] W fun e w' => e = .returned (.bool true) ∧ Below W.heap.size W w' :=
  (right_any ⟨#[168]⟩ 5 W (by decide) (by decide) (by decide)).mono fun _ _ h => ⟨h.1.trans (congrArg (fun b => Ending.returned (.bool b)) (by decide)), h.2⟩
theorem aw_right2 (W : World) : Calls Try.prog 13 #[.agg #[.string ⟨#[1]⟩, .int .i64 7]] W fun e w' => e = .returned (.bool false) ∧ Below W.heap.size W w' :=
  (right_any ⟨#[1]⟩ 7 W (by decide) (by decide) (by decide)).mono fun _ _ h => ⟨h.1.trans (congrArg (fun b => Ending.returned (.bool b)) (by decide)), h.2⟩
theorem aw_same (W : World) : Calls Try.prog 14 #[.string ⟨#[21]⟩, .int .i64 3, .agg #[.string ⟨#[168]⟩, .int .i64 5]] W fun e w' => e = .returned (.bool true) ∧ Below W.heap.size W w' :=
  (same_any W ⟨#[21]⟩ ⟨#[168]⟩ 3 5 (by decide) (by decide) (by decide) (by decide)).mono fun _ _ h => ⟨h.1.trans (congrArg (fun b => Ending.returned (.bool b)) (by decide)), h.2⟩

set_option maxRecDepth 100000 in
set_option maxHeartbeats 1600000 in
theorem awake_any (w : World) : Calls Try.prog 8 #[] w fun e w' => e = .returned (.bool true) ∧ Below w.heap.size w w' := by
  go_enter Try.func8, Try.ntmps8
  go_wp2_with fail
  refine (aw_put1 _).mono ?_
  rintro e w1 ⟨rfl, hB1⟩
  have z1 : w.heap.size ≤ w1.heap.size := by have := hB1.size; (try simp at this); omega
  have hBw1 : Below w.heap.size w w1 := (Below.refl _ _).trans (hB1.mono (by first | omega | (simp; try omega)))
  have y1 : w.heap.size ≤ w1.heap.size := hBw1.size
  clear hB1
  go_wp2_with fail
  refine (aw_put2 _).mono ?_
  rintro e w2 ⟨rfl, hB2⟩
  have z2 : w1.heap.size + 1 ≤ w2.heap.size := by have := hB2.size; (try simp at this); omega
  have f2a : w2.heap[w1.heap.size]? = some (.cells #[.string ⟨#[160]⟩, .int .i64 3] 26 (0, 0)) := (hB2.block _ (by first | omega | (simp; try omega))).trans (heap_new _ _ _ (by simp))
  have x2a : w1.heap.size < w2.heap.size := lt_of_heap f2a
  have q2a0 : w2.cell? ⟨w1.heap.size, 0, none⟩ = some (.string ⟨#[160]⟩) := cell_of_heap f2a 0
  have q2a1 : w2.cell? ⟨w1.heap.size, 1, none⟩ = some (.int .i64 3) := cell_of_heap f2a 1
  have F2a := Lib.hid f2a
  have hBw2 : Below w.heap.size w w2 := (hBw1.alloc (by first | omega | (simp; try omega)) _).trans (hB2.mono (by first | omega | (simp; try omega)))
  have y2 : w.heap.size ≤ w2.heap.size := hBw2.size
  clear f2a hB2 hBw1
  go_wp2_with fail
  refine (aw_get1 _).mono ?_
  rintro e v3 ⟨rfl, rfl⟩
  go_wp2_with fail
  refine (aw_get2 _).mono ?_
  rintro e v4 ⟨rfl, rfl⟩
  go_wp2_with fail
  refine (aw_get3 _).mono ?_
  rintro e v5 ⟨rfl, rfl⟩
  go_wp2_with fail
  refine (aw_cat _ _ (IsPairs.new _ _ (by simp) [(⟨#[160]⟩, 3), (⟨#[168]⟩, 5)] _ rfl (by decide))).mono ?_
  rintro e w6 ⟨rfl, hB6⟩
  have z6 : w2.heap.size + 2 ≤ w6.heap.size := by have := hB6.size; (try simp at this); omega
  have f6a : w6.heap[w1.heap.size]? = some (.cells #[.string ⟨#[160]⟩, .int .i64 3] 26 (0, 0)) := (hB6.block _ (by first | omega | (simp; try omega))).trans (heap_up _ (heap_up _ (F2a.out)))
  have x6a : w1.heap.size < w6.heap.size := lt_of_heap f6a
  have q6a0 : w6.cell? ⟨w1.heap.size, 0, none⟩ = some (.string ⟨#[160]⟩) := cell_of_heap f6a 0
  have q6a1 : w6.cell? ⟨w1.heap.size, 1, none⟩ = some (.int .i64 3) := cell_of_heap f6a 1
  have F6a := Lib.hid f6a
  have f6b : w6.heap[w2.heap.size]? = some (.cells #[.string ⟨#[168]⟩, .int .i64 5] 26 (0, 0)) := (hB6.block _ (by first | omega | (simp; try omega))).trans (heap_up _ (heap_new _ _ _ (by simp)))
  have x6b : w2.heap.size < w6.heap.size := lt_of_heap f6b
  have q6b0 : w6.cell? ⟨w2.heap.size, 0, none⟩ = some (.string ⟨#[168]⟩) := cell_of_heap f6b 0
  have q6b1 : w6.cell? ⟨w2.heap.size, 1, none⟩ = some (.int .i64 5) := cell_of_heap f6b 1
  have F6b := Lib.hid f6b
  have f6s : w6.heap[w2.heap.size + 1]? = some (.cells #[.string ⟨#[160]⟩, .int .i64 3, .string ⟨#[168]⟩, .int .i64 5] 26 (0, 0)) := (hB6.block _ (by first | omega | (simp; try omega))).trans (heap_new _ _ _ (by simp))
  have x6s : w2.heap.size + 1 < w6.heap.size := lt_of_heap f6s
  have q6s0 : w6.cell? ⟨w2.heap.size + 1, 0, none⟩ = some (.string ⟨#[160]⟩) := cell_of_heap f6s 0
  have q6s1 : w6.cell? ⟨w2.heap.size + 1, 1, none⟩ = some (.int .i64 3) := cell_of_heap f6s 1
  have q6s2 : w6.cell? ⟨w2.heap.size + 1, 2, none⟩ = some (.string ⟨#[168]⟩) := cell_of_heap f6s 2
  have q6s3 : w6.cell? ⟨w2.heap.size + 1, 3, none⟩ = some (.int .i64 5) := cell_of_heap f6s 3
  have F6s := Lib.hid f6s
  have hBw6 : Below w.heap.size w w6 := ((hBw2.alloc (by first | omega | (simp; try omega)) _).alloc (by first | omega | (simp; try omega)) _).trans (hB6.mono (by first | omega | (simp; try omega)))
  have y6 : w.heap.size ≤ w6.heap.size := hBw6.size
  clear f6a f6b f6s hB6 q2a0 q2a1 x2a F2a hBw2
  go_wp2_with fail
  refine (aw_put3 _).mono ?_
  rintro e w7 ⟨rfl, hB7⟩
  have z7 : w6.heap.size + 1 ≤ w7.heap.size := by have := hB7.size; (try simp at this); omega
  have f7a : w7.heap[w1.heap.size]? = some (.cells #[.string ⟨#[160]⟩, .int .i64 3] 26 (0, 0)) := (hB7.block _ (by first | omega | (simp; try omega))).trans (heap_up _ (F6a.out))
  have x7a : w1.heap.size < w7.heap.size := lt_of_heap f7a
  have q7a0 : w7.cell? ⟨w1.heap.size, 0, none⟩ = some (.string ⟨#[160]⟩) := cell_of_heap f7a 0
  have q7a1 : w7.cell? ⟨w1.heap.size, 1, none⟩ = some (.int .i64 3) := cell_of_heap f7a 1
  have F7a := Lib.hid f7a
  have f7b : w7.heap[w2.heap.size]? = some (.cells #[.string ⟨#[168]⟩, .int .i64 5] 26 (0, 0)) := (hB7.block _ (by first | omega | (simp; try omega))).trans (heap_up _ (F6b.out))
  have x7b : w2.heap.size < w7.heap.size := lt_of_heap f7b
  have q7b0 : w7.cell? ⟨w2.heap.size, 0, none⟩ = some (.string ⟨#[168]⟩) := cell_of_heap f7b 0
  have q7b1 : w7.cell? ⟨w2.heap.size, 1, none⟩ = some (.int .i64 5) := cell_of_heap f7b 1
  have F7b := Lib.hid f7b
  have f7c : w7.heap[w6.heap.size]? = some (.cells #[.string ⟨#[181]⟩, .int .i64 8] 26 (0, 0)) := (hB7.block _ (by first | omega | (simp; try omega))).trans (heap_new _ _ _ (by simp))
  have x7c : w6.heap.size < w7.heap.size := lt_of_heap f7c
  have q7c0 : w7.cell? ⟨w6.heap.size, 0, none⟩ = some (.string ⟨#[181]⟩) := cell_of_heap f7c 0
  have q7c1 : w7.cell? ⟨w6.heap.size, 1, none⟩ = some (.int .i64 8) := cell_of_heap f7c 1
  have F7c := Lib.hid f7c
  have hBw7 : Below w.heap.size w w7 := (hBw6.alloc (by first | omega | (simp; try omega)) _).trans (hB7.mono (by first | omega | (simp; try omega)))
  have y7 : w.heap.size ≤ w7.heap.size := hBw7.size
  clear f7a f7b f7c hB7 q6a0 q6a1 x6a q6b0 q6b1 x6b F6a F6b q6s0 q6s1 q6s2 q6s3 x6s hBw6
  go_wp2_with fail
  refine (aw_right1 _).mono ?_
  rintro e w8 ⟨rfl, hB8⟩
  have z8 : w7.heap.size + 1 ≤ w8.heap.size := by have := hB8.size; (try simp at this); omega
  have f8a : w8.heap[w1.heap.size]? = some (.cells #[.string ⟨#[160]⟩, .int .i64 3] 26 (0, 0)) := (hB8.block _ (by first | omega | (simp; try omega))).trans (heap_up _ (F7a.out))
  have x8a : w1.heap.size < w8.heap.size := lt_of_heap f8a
  have q8a0 : w8.cell? ⟨w1.heap.size, 0, none⟩ = some (.string ⟨#[160]⟩) := cell_of_heap f8a 0
  have q8a1 : w8.cell? ⟨w1.heap.size, 1, none⟩ = some (.int .i64 3) := cell_of_heap f8a 1
  have F8a := Lib.hid f8a
  have f8b : w8.heap[w2.heap.size]? = some (.cells #[.string ⟨#[168]⟩, .int .i64 5] 26 (0, 0)) := (hB8.block _ (by first | omega | (simp; try omega))).trans (heap_up _ (F7b.out))
  have x8b : w2.heap.size < w8.heap.size := lt_of_heap f8b
  have q8b0 : w8.cell? ⟨w2.heap.size, 0, none⟩ = some (.string ⟨#[168]⟩) := cell_of_heap f8b 0
  have q8b1 : w8.cell? ⟨w2.heap.size, 1, none⟩ = some (.int .i64 5) := cell_of_heap f8b 1
  have F8b := Lib.hid f8b
  have f8c : w8.heap[w6.heap.size]? = some (.cells #[.string ⟨#[181]⟩, .int .i64 8] 26 (0, 0)) := (hB8.block _ (by first | omega | (simp; try omega))).trans (heap_up _ (F7c.out))
  have x8c : w6.heap.size < w8.heap.size := lt_of_heap f8c
  have q8c0 : w8.cell? ⟨w6.heap.size, 0, none⟩ = some (.string ⟨#[181]⟩) := cell_of_heap f8c 0
  have q8c1 : w8.cell? ⟨w6.heap.size, 1, none⟩ = some (.int .i64 8) := cell_of_heap f8c 1
  have F8c := Lib.hid f8c
  have f8d : w8.heap[w7.heap.size]? = some (.cells #[.string ⟨#[]⟩, .int .i64 0] 26 (0, 0)) := (hB8.block _ (by first | omega | (simp; try omega))).trans (heap_new _ _ _ (by simp))
  have x8d : w7.heap.size < w8.heap.size := lt_of_heap f8d
  have q8d0 : w8.cell? ⟨w7.heap.size, 0, none⟩ = some (.string ⟨#[]⟩) := cell_of_heap f8d 0
  have q8d1 : w8.cell? ⟨w7.heap.size, 1, none⟩ = some (.int .i64 0) := cell_of_heap f8d 1
  have F8d := Lib.hid f8d
  have hBw8 : Below w.heap.size w w8 := (hBw7.alloc (by first | omega | (simp; try omega)) _).trans (hB8.mono (by first | omega | (simp; try omega)))
  have y8 : w.heap.size ≤ w8.heap.size := hBw8.size
  clear f8a f8b f8c f8d hB8 q7a0 q7a1 x7a q7b0 q7b1 x7b q7c0 q7c1 x7c F7a F7b F7c hBw7
  go_wp2_with fail
  refine (aw_right2 _).mono ?_
  rintro e w9 ⟨rfl, hB9⟩
  have z9 : w8.heap.size ≤ w9.heap.size := by have := hB9.size; (try simp at this); omega
  have f9b : w9.heap[w2.heap.size]? = some (.cells #[.string ⟨#[168]⟩, .int .i64 5] 26 (0, 0)) := (hB9.block _ (by first | omega | (simp; try omega))).trans (F8b.out)
  have x9b : w2.heap.size < w9.heap.size := lt_of_heap f9b
  have q9b0 : w9.cell? ⟨w2.heap.size, 0, none⟩ = some (.string ⟨#[168]⟩) := cell_of_heap f9b 0
  have q9b1 : w9.cell? ⟨w2.heap.size, 1, none⟩ = some (.int .i64 5) := cell_of_heap f9b 1
  have F9b := Lib.hid f9b
  have hBw9 : Below w.heap.size w w9 := hBw8.trans (hB9.mono (by first | omega | (simp; try omega)))
  have y9 : w.heap.size ≤ w9.heap.size := hBw9.size
  clear f9b hB9 q8b0 q8b1 x8b F8b q8a0 q8a1 x8a q8c0 q8c1 x8c q8d0 q8d1 x8d hBw8
  go_wp2_with fail
  refine (aw_same _).mono ?_
  rintro e w10 ⟨rfl, hB10⟩
  have z10 : w9.heap.size ≤ w10.heap.size := by have := hB10.size; (try simp at this); omega
  have f10b : w10.heap[w2.heap.size]? = some (.cells #[.string ⟨#[168]⟩, .int .i64 5] 26 (0, 0)) := (hB10.block _ (by first | omega | (simp; try omega))).trans (F9b.out)
  have x10b : w2.heap.size < w10.heap.size := lt_of_heap f10b
  have q10b0 : w10.cell? ⟨w2.heap.size, 0, none⟩ = some (.string ⟨#[168]⟩) := cell_of_heap f10b 0
  have q10b1 : w10.cell? ⟨w2.heap.size, 1, none⟩ = some (.int .i64 5) := cell_of_heap f10b 1
  have F10b := Lib.hid f10b
  have hBw10 : Below w.heap.size w w10 := hBw9.trans (hB10.mono (by first | omega | (simp; try omega)))
  have y10 : w.heap.size ≤ w10.heap.size := hBw10.size
  clear f10b hB10 q9b0 q9b1 x9b F9b hBw9
  go_wp2
  go_ret
  exact ⟨rfl, hBw10⟩
end Go.Proofs.Ytfieelanbcjcpaa
