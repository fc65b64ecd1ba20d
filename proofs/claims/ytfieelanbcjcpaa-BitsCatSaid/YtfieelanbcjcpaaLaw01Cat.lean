/- BitsCat: Cat is of all in any parts, and Put is Cat of what is put: the walk. -/
import Derived.Test.YtfieelanbcjcpaaAwake01
namespace Go.Proofs.Ytfieelanbcjcpaa
open Go.RowKit
set_option linter.unusedVariables false

set_option maxRecDepth 100000 in
set_option maxHeartbeats 3200000 in
theorem cat_walk (w : World) (v1 v2 v3 : Value) (one two three : List Int) (x : Nat) (n : Int) (hv1 : IsInts w w.heap.size v1 one) (hrone : I64s one) (hv2 : IsInts w w.heap.size v2 two) (hrtwo : I64s two)
    (hv3 : IsInts w w.heap.size v3 three) (hrthree : I64s three) (hx : x < 18446744073709551616) (hn : -9223372036854775808 ≤ n) (hn' : n ≤ 9223372036854775807) :
    Calls Try.prog 4 #[v1, v2, v3, .int .u64 x, .int .i64 n] w fun e w' => e = .returned (.bool true) ∧ Below w.heap.size w w' := by
  have hk := pickF_lt n 65 (by omega)
  obtain ⟨k, hkk⟩ : ∃ k : Nat, pickF n 65 = (k : Int) := ⟨(pickF n 65).toNat, by omega⟩
  have hk64 : k ≤ 64 := by omega
  have hl1 := length_rawBits one 80
  have hl2 := length_rawBits two 80
  have hl3 := length_rawBits three 80
  generalize hla : rawBits one 80 = la at *
  generalize hlb : rawBits two 80 = lb at *
  generalize hlc : rawBits three 80 = lc at *
  obtain ⟨all, hall⟩ : ∃ r, [la, lb, lc].flatten = r := ⟨_, rfl⟩
  obtain ⟨ab, hab⟩ : ∃ r, [la, lb].flatten = r := ⟨_, rfl⟩
  obtain ⟨bc, hbc⟩ : ∃ r, [lb, lc].flatten = r := ⟨_, rfl⟩
  obtain ⟨p, hp⟩ : ∃ r, B.low x k = r := ⟨_, rfl⟩
  obtain ⟨q, hq⟩ : ∃ r, la ++ B.low x k = r := ⟨_, rfl⟩
  have hpl : p.length = k := by rw [← hp, B.length_low]
  have hql : q.length = la.length + k := by rw [← hq, List.length_append, B.length_low]
  have habl : ab.length = la.length + lb.length := by rw [← hab]; simp
  have hbcl : bc.length = lb.length + lc.length := by rw [← hbc]; simp
  have halll : all.length = la.length + lb.length + lc.length := by rw [← hall]; simp [Nat.add_assoc]
  have b1 : p.length ≤ 64 := by omega
  have b2 : q.length ≤ 144 := by omega
  have b3 : ab.length ≤ 160 := by omega
  have b4 : bc.length ≤ 160 := by omega
  have b5 : all.length ≤ 240 := by omega
  have t1 : ((all.length : Int) == (la.length : Int) + lb.length + lc.length) = true := by rw [beq_iff_eq, halll]; omega
  have Hx : Hid ([ab, lc].flatten = all) := by rw [← hall, ← hab]; simp [Hid]
  have Hy : Hid ([la, bc].flatten = all) := by rw [← hall, ← hbc]; simp [Hid]
  have Hr : Hid ([la, p].flatten = q) := by rw [← hq, ← hp]; simp [Hid]
  have Hall2 : Hid (all = la ++ lb ++ lc) := by rw [← hall]; simp [Hid]
  have Hall3 : Hid (all = ab ++ lc ++ []) := by rw [← hall, ← hab]; simp [Hid]
  have Hall := Lib.hid hall
  have Hab := Lib.hid hab
  have Hbc := Lib.hid hbc
  have Hp := Lib.hid hp
  have Hq := Lib.hid hq
  have Hla := Lib.hid hla
  have Hlb := Lib.hid hlb
  have Hlc := Lib.hid hlc
  have Hkk := Lib.hid hkk
  have Hk := Lib.hid hk
  have Habl := Lib.hid habl
  have Ha := Lib.hid awake_any
  clear hkk hk hall hab hbc hp hq hla hlb hlc hpl hql habl hbcl halll
  go_enter Try.func4, Try.ntmps4
  go_wp2_with fail
  refine (Ha.out _).mono ?_
  rintro e w1 ⟨rfl, hB1⟩
  have z1 : w.heap.size ≤ w1.heap.size := by have := hB1.size; (try simp at this); omega
  have hBw1 : Below w.heap.size w w1 := (Below.refl _ _).trans (hB1.mono (by first | omega | (simp; try omega)))
  have y1 : w.heap.size ≤ w1.heap.size := hBw1.size
  clear hB1
  go_wp2_with fail
  refine (lawBits_any _ _ one 80 ((hv1.below hBw1 (Nat.le_refl _)).mono (hBw1).size) hrone (by omega)).mono ?_
  rintro e w2 ⟨rfl, hB2⟩
  rw [Hla.out, bitsVal_txt]
  have z2 : w1.heap.size ≤ w2.heap.size := by have := hB2.size; (try simp at this); omega
  have hBw2 : Below w.heap.size w w2 := hBw1.trans (hB2.mono (by first | omega | (simp; try omega)))
  have y2 : w.heap.size ≤ w2.heap.size := hBw2.size
  clear hB2 hBw1
  go_wp2_with fail
  refine (lawBits_any _ _ two 80 ((hv2.below (hBw2.alloc (by first | omega | (simp; try omega)) _) (Nat.le_refl _)).mono ((hBw2.alloc (by first | omega | (simp; try omega)) _)).size) hrtwo (by omega)).mono ?_
  rintro e w3 ⟨rfl, hB3⟩
  rw [Hlb.out, bitsVal_txt]
  have z3 : w2.heap.size + 1 ≤ w3.heap.size := by have := hB3.size; (try simp at this); omega
  have f3a : w3.heap[w2.heap.size]? = some (.cells #[.string (txt la), .int .i64 (la.length : Nat)] 26 (0, 0)) := (hB3.block _ (by first | omega | (simp; try omega))).trans (heap_new _ _ _ (by simp))
  have x3a : w2.heap.size < w3.heap.size := lt_of_heap f3a
  have q3a0 : w3.cell? ⟨w2.heap.size, 0, none⟩ = some (.string (txt la)) := cell_of_heap f3a 0
  have q3a1 : w3.cell? ⟨w2.heap.size, 1, none⟩ = some (.int .i64 (la.length : Nat)) := cell_of_heap f3a 1
  have F3a := Lib.hid f3a
  have hBw3 : Below w.heap.size w w3 := (hBw2.alloc (by first | omega | (simp; try omega)) _).trans (hB3.mono (by first | omega | (simp; try omega)))
  have y3 : w.heap.size ≤ w3.heap.size := hBw3.size
  clear f3a hB3 hBw2
  go_wp2_with fail
  refine (lawBits_any _ _ three 80 ((hv3.below (hBw3.alloc (by first | omega | (simp; try omega)) _) (Nat.le_refl _)).mono ((hBw3.alloc (by first | omega | (simp; try omega)) _)).size) hrthree (by omega)).mono ?_
  rintro e w4 ⟨rfl, hB4⟩
  rw [Hlc.out, bitsVal_txt]
  have z4 : w3.heap.size + 1 ≤ w4.heap.size := by have := hB4.size; (try simp at this); omega
  have f4a : w4.heap[w2.heap.size]? = some (.cells #[.string (txt la), .int .i64 (la.length : Nat)] 26 (0, 0)) := (hB4.block _ (by first | omega | (simp; try omega))).trans (heap_up _ (F3a.out))
  have x4a : w2.heap.size < w4.heap.size := lt_of_heap f4a
  have q4a0 : w4.cell? ⟨w2.heap.size, 0, none⟩ = some (.string (txt la)) := cell_of_heap f4a 0
  have q4a1 : w4.cell? ⟨w2.heap.size, 1, none⟩ = some (.int .i64 (la.length : Nat)) := cell_of_heap f4a 1
  have F4a := Lib.hid f4a
  have f4b : w4.heap[w3.heap.size]? = some (.cells #[.string (txt lb), .int .i64 (lb.length : Nat)] 26 (0, 0)) := (hB4.block _ (by first | omega | (simp; try omega))).trans (heap_new _ _ _ (by simp))
  have x4b : w3.heap.size < w4.heap.size := lt_of_heap f4b
  have q4b0 : w4.cell? ⟨w3.heap.size, 0, none⟩ = some (.string (txt lb)) := cell_of_heap f4b 0
  have q4b1 : w4.cell? ⟨w3.heap.size, 1, none⟩ = some (.int .i64 (lb.length : Nat)) := cell_of_heap f4b 1
  have F4b := Lib.hid f4b
  have hBw4 : Below w.heap.size w w4 := (hBw3.alloc (by first | omega | (simp; try omega)) _).trans (hB4.mono (by first | omega | (simp; try omega)))
  have y4 : w.heap.size ≤ w4.heap.size := hBw4.size
  clear f4a f4b hB4 q3a0 q3a1 x3a F3a hBw3
  go_wp2_with fail
  refine (pick_any n 65 _ hn hn' (by omega) (by omega)).mono ?_
  rintro e v5 ⟨rfl, rfl⟩
  rw [Hkk.out]
  go_wp2_with fail
  refine (cat_is _ _ [la, lb, lc] all Hall.out (IsPairs.new _ _ (by simp) ([la, lb, lc].map pairOf) _ rfl (by simp [maxLen])) (by simp; omega)).mono ?_
  rintro e w6 ⟨rfl, hB6⟩
  have z6 : w4.heap.size + 2 ≤ w6.heap.size := by have := hB6.size; (try simp at this); omega
  have f6a : w6.heap[w2.heap.size]? = some (.cells #[.string (txt la), .int .i64 (la.length : Nat)] 26 (0, 0)) := (hB6.block _ (by first | omega | (simp; try omega))).trans (heap_up _ (heap_up _ (F4a.out)))
  have x6a : w2.heap.size < w6.heap.size := lt_of_heap f6a
  have q6a0 : w6.cell? ⟨w2.heap.size, 0, none⟩ = some (.string (txt la)) := cell_of_heap f6a 0
  have q6a1 : w6.cell? ⟨w2.heap.size, 1, none⟩ = some (.int .i64 (la.length : Nat)) := cell_of_heap f6a 1
  have F6a := Lib.hid f6a
  have f6b : w6.heap[w3.heap.size]? = some (.cells #[.string (txt lb), .int .i64 (lb.length : Nat)] 26 (0, 0)) := (hB6.block _ (by first | omega | (simp; try omega))).trans (heap_up _ (heap_up _ (F4b.out)))
  have x6b : w3.heap.size < w6.heap.size := lt_of_heap f6b
  have q6b0 : w6.cell? ⟨w3.heap.size, 0, none⟩ = some (.string (txt lb)) := cell_of_heap f6b 0
  have q6b1 : w6.cell? ⟨w3.heap.size, 1, none⟩ = some (.int .i64 (lb.length : Nat)) := cell_of_heap f6b 1
  have F6b := Lib.hid f6b
  have f6c : w6.heap[w4.heap.size]? = some (.cells #[.string (txt lc), .int .i64 (lc.length : Nat)] 26 (0, 0)) := (hB6.block _ (by first | omega | (simp; try omega))).trans (heap_up _ (heap_new _ _ _ (by simp)))
  have x6c : w4.heap.size < w6.heap.size := lt_of_heap f6c
  have q6c0 : w6.cell? ⟨w4.heap.size, 0, none⟩ = some (.string (txt lc)) := cell_of_heap f6c 0
  have q6c1 : w6.cell? ⟨w4.heap.size, 1, none⟩ = some (.int .i64 (lc.length : Nat)) := cell_of_heap f6c 1
  have F6c := Lib.hid f6c
  have f6s : w6.heap[w4.heap.size + 1]? = some (.cells #[.string (txt la), .int .i64 (la.length : Nat), .string (txt lb), .int .i64 (lb.length : Nat), .string (txt lc), .int .i64 (lc.length : Nat)] 26 (0, 0)) := (hB6.block _ (by first | omega | (simp; try omega))).trans (heap_new _ _ _ (by simp))
  have x6s : w4.heap.size + 1 < w6.heap.size := lt_of_heap f6s
  have q6s0 : w6.cell? ⟨w4.heap.size + 1, 0, none⟩ = some (.string (txt la)) := cell_of_heap f6s 0
  have q6s1 : w6.cell? ⟨w4.heap.size + 1, 1, none⟩ = some (.int .i64 (la.length : Nat)) := cell_of_heap f6s 1
  have q6s2 : w6.cell? ⟨w4.heap.size + 1, 2, none⟩ = some (.string (txt lb)) := cell_of_heap f6s 2
  have q6s3 : w6.cell? ⟨w4.heap.size + 1, 3, none⟩ = some (.int .i64 (lb.length : Nat)) := cell_of_heap f6s 3
  have q6s4 : w6.cell? ⟨w4.heap.size + 1, 4, none⟩ = some (.string (txt lc)) := cell_of_heap f6s 4
  have q6s5 : w6.cell? ⟨w4.heap.size + 1, 5, none⟩ = some (.int .i64 (lc.length : Nat)) := cell_of_heap f6s 5
  have F6s := Lib.hid f6s
  have hBw6 : Below w.heap.size w w6 := ((hBw4.alloc (by first | omega | (simp; try omega)) _).alloc (by first | omega | (simp; try omega)) _).trans (hB6.mono (by first | omega | (simp; try omega)))
  have y6 : w.heap.size ≤ w6.heap.size := hBw6.size
  clear f6a f6b f6c f6s hB6 q4a0 q4a1 x4a q4b0 q4b1 x4b F4a F4b hBw4
  go_wp2_with fail
  refine (cat_is _ _ [la, lb] ab Hab.out (IsPairs.new _ _ (by simp) ([la, lb].map pairOf) _ rfl (by simp [maxLen])) (by simp; omega)).mono ?_
  rintro e w7 ⟨rfl, hB7⟩
  have z7 : w6.heap.size + 2 ≤ w7.heap.size := by have := hB7.size; (try simp at this); omega
  have f7a : w7.heap[w2.heap.size]? = some (.cells #[.string (txt la), .int .i64 (la.length : Nat)] 26 (0, 0)) := (hB7.block _ (by first | omega | (simp; try omega))).trans (heap_up _ (heap_up _ (F6a.out)))
  have x7a : w2.heap.size < w7.heap.size := lt_of_heap f7a
  have q7a0 : w7.cell? ⟨w2.heap.size, 0, none⟩ = some (.string (txt la)) := cell_of_heap f7a 0
  have q7a1 : w7.cell? ⟨w2.heap.size, 1, none⟩ = some (.int .i64 (la.length : Nat)) := cell_of_heap f7a 1
  have F7a := Lib.hid f7a
  have f7b : w7.heap[w3.heap.size]? = some (.cells #[.string (txt lb), .int .i64 (lb.length : Nat)] 26 (0, 0)) := (hB7.block _ (by first | omega | (simp; try omega))).trans (heap_up _ (heap_up _ (F6b.out)))
  have x7b : w3.heap.size < w7.heap.size := lt_of_heap f7b
  have q7b0 : w7.cell? ⟨w3.heap.size, 0, none⟩ = some (.string (txt lb)) := cell_of_heap f7b 0
  have q7b1 : w7.cell? ⟨w3.heap.size, 1, none⟩ = some (.int .i64 (lb.length : Nat)) := cell_of_heap f7b 1
  have F7b := Lib.hid f7b
  have f7c : w7.heap[w4.heap.size]? = some (.cells #[.string (txt lc), .int .i64 (lc.length : Nat)] 26 (0, 0)) := (hB7.block _ (by first | omega | (simp; try omega))).trans (heap_up _ (heap_up _ (F6c.out)))
  have x7c : w4.heap.size < w7.heap.size := lt_of_heap f7c
  have q7c0 : w7.cell? ⟨w4.heap.size, 0, none⟩ = some (.string (txt lc)) := cell_of_heap f7c 0
  have q7c1 : w7.cell? ⟨w4.heap.size, 1, none⟩ = some (.int .i64 (lc.length : Nat)) := cell_of_heap f7c 1
  have F7c := Lib.hid f7c
  have f7all : w7.heap[w6.heap.size]? = some (.cells #[.string (txt all), .int .i64 (all.length : Nat)] 26 (0, 0)) := (hB7.block _ (by first | omega | (simp; try omega))).trans (heap_up _ (heap_new _ _ _ (by simp)))
  have x7all : w6.heap.size < w7.heap.size := lt_of_heap f7all
  have q7all0 : w7.cell? ⟨w6.heap.size, 0, none⟩ = some (.string (txt all)) := cell_of_heap f7all 0
  have q7all1 : w7.cell? ⟨w6.heap.size, 1, none⟩ = some (.int .i64 (all.length : Nat)) := cell_of_heap f7all 1
  have F7all := Lib.hid f7all
  have f7s : w7.heap[w6.heap.size + 1]? = some (.cells #[.string (txt la), .int .i64 (la.length : Nat), .string (txt lb), .int .i64 (lb.length : Nat)] 26 (0, 0)) := (hB7.block _ (by first | omega | (simp; try omega))).trans (heap_new _ _ _ (by simp))
  have x7s : w6.heap.size + 1 < w7.heap.size := lt_of_heap f7s
  have q7s0 : w7.cell? ⟨w6.heap.size + 1, 0, none⟩ = some (.string (txt la)) := cell_of_heap f7s 0
  have q7s1 : w7.cell? ⟨w6.heap.size + 1, 1, none⟩ = some (.int .i64 (la.length : Nat)) := cell_of_heap f7s 1
  have q7s2 : w7.cell? ⟨w6.heap.size + 1, 2, none⟩ = some (.string (txt lb)) := cell_of_heap f7s 2
  have q7s3 : w7.cell? ⟨w6.heap.size + 1, 3, none⟩ = some (.int .i64 (lb.length : Nat)) := cell_of_heap f7s 3
  have F7s := Lib.hid f7s
  have hBw7 : Below w.heap.size w w7 := ((hBw6.alloc (by first | omega | (simp; try omega)) _).alloc (by first | omega | (simp; try omega)) _).trans (hB7.mono (by first | omega | (simp; try omega)))
  have y7 : w.heap.size ≤ w7.heap.size := hBw7.size
  clear f7a f7b f7c f7all f7s hB7 q6a0 q6a1 x6a q6b0 q6b1 x6b q6c0 q6c1 x6c F6a F6b F6c q6s0 q6s1 q6s2 q6s3 q6s4 q6s5 x6s hBw6
  go_wp2_with fail
  refine (cat_is _ _ [lb, lc] bc Hbc.out (IsPairs.new _ _ (by simp) ([lb, lc].map pairOf) _ rfl (by simp [maxLen])) (by simp; omega)).mono ?_
  rintro e w8 ⟨rfl, hB8⟩
  have z8 : w7.heap.size + 2 ≤ w8.heap.size := by have := hB8.size; (try simp at this); omega
  have f8a : w8.heap[w2.heap.size]? = some (.cells #[.string (txt la), .int .i64 (la.length : Nat)] 26 (0, 0)) := (hB8.block _ (by first | omega | (simp; try omega))).trans (heap_up _ (heap_up _ (F7a.out)))
  have x8a : w2.heap.size < w8.heap.size := lt_of_heap f8a
  have q8a0 : w8.cell? ⟨w2.heap.size, 0, none⟩ = some (.string (txt la)) := cell_of_heap f8a 0
  have q8a1 : w8.cell? ⟨w2.heap.size, 1, none⟩ = some (.int .i64 (la.length : Nat)) := cell_of_heap f8a 1
  have F8a := Lib.hid f8a
  have f8b : w8.heap[w3.heap.size]? = some (.cells #[.string (txt lb), .int .i64 (lb.length : Nat)] 26 (0, 0)) := (hB8.block _ (by first | omega | (simp; try omega))).trans (heap_up _ (heap_up _ (F7b.out)))
  have x8b : w3.heap.size < w8.heap.size := lt_of_heap f8b
  have q8b0 : w8.cell? ⟨w3.heap.size, 0, none⟩ = some (.string (txt lb)) := cell_of_heap f8b 0
  have q8b1 : w8.cell? ⟨w3.heap.size, 1, none⟩ = some (.int .i64 (lb.length : Nat)) := cell_of_heap f8b 1
  have F8b := Lib.hid f8b
  have f8c : w8.heap[w4.heap.size]? = some (.cells #[.string (txt lc), .int .i64 (lc.length : Nat)] 26 (0, 0)) := (hB8.block _ (by first | omega | (simp; try omega))).trans (heap_up _ (heap_up _ (F7c.out)))
  have x8c : w4.heap.size < w8.heap.size := lt_of_heap f8c
  have q8c0 : w8.cell? ⟨w4.heap.size, 0, none⟩ = some (.string (txt lc)) := cell_of_heap f8c 0
  have q8c1 : w8.cell? ⟨w4.heap.size, 1, none⟩ = some (.int .i64 (lc.length : Nat)) := cell_of_heap f8c 1
  have F8c := Lib.hid f8c
  have f8all : w8.heap[w6.heap.size]? = some (.cells #[.string (txt all), .int .i64 (all.length : Nat)] 26 (0, 0)) := (hB8.block _ (by first | omega | (simp; try omega))).trans (heap_up _ (heap_up _ (F7all.out)))
  have x8all : w6.heap.size < w8.heap.size := lt_of_heap f8all
  have q8all0 : w8.cell? ⟨w6.heap.size, 0, none⟩ = some (.string (txt all)) := cell_of_heap f8all 0
  have q8all1 : w8.cell? ⟨w6.heap.size, 1, none⟩ = some (.int .i64 (all.length : Nat)) := cell_of_heap f8all 1
  have F8all := Lib.hid f8all
  have f8ab : w8.heap[w7.heap.size]? = some (.cells #[.string (txt ab), .int .i64 (ab.length : Nat)] 26 (0, 0)) := (hB8.block _ (by first | omega | (simp; try omega))).trans (heap_up _ (heap_new _ _ _ (by simp)))
  have x8ab : w7.heap.size < w8.heap.size := lt_of_heap f8ab
  have q8ab0 : w8.cell? ⟨w7.heap.size, 0, none⟩ = some (.string (txt ab)) := cell_of_heap f8ab 0
  have q8ab1 : w8.cell? ⟨w7.heap.size, 1, none⟩ = some (.int .i64 (ab.length : Nat)) := cell_of_heap f8ab 1
  have F8ab := Lib.hid f8ab
  have f8s : w8.heap[w7.heap.size + 1]? = some (.cells #[.string (txt lb), .int .i64 (lb.length : Nat), .string (txt lc), .int .i64 (lc.length : Nat)] 26 (0, 0)) := (hB8.block _ (by first | omega | (simp; try omega))).trans (heap_new _ _ _ (by simp))
  have x8s : w7.heap.size + 1 < w8.heap.size := lt_of_heap f8s
  have q8s0 : w8.cell? ⟨w7.heap.size + 1, 0, none⟩ = some (.string (txt lb)) := cell_of_heap f8s 0
  have q8s1 : w8.cell? ⟨w7.heap.size + 1, 1, none⟩ = some (.int .i64 (lb.length : Nat)) := cell_of_heap f8s 1
  have q8s2 : w8.cell? ⟨w7.heap.size + 1, 2, none⟩ = some (.string (txt lc)) := cell_of_heap f8s 2
  have q8s3 : w8.cell? ⟨w7.heap.size + 1, 3, none⟩ = some (.int .i64 (lc.length : Nat)) := cell_of_heap f8s 3
  have F8s := Lib.hid f8s
  have hBw8 : Below w.heap.size w w8 := ((hBw7.alloc (by first | omega | (simp; try omega)) _).alloc (by first | omega | (simp; try omega)) _).trans (hB8.mono (by first | omega | (simp; try omega)))
  have y8 : w.heap.size ≤ w8.heap.size := hBw8.size
  clear f8a f8b f8c f8all f8ab f8s hB8 q7a0 q7a1 x7a q7b0 q7b1 x7b q7c0 q7c1 x7c q7all0 q7all1 x7all F7a F7b F7c F7all q7s0 q7s1 q7s2 q7s3 x7s hBw7
  go_wp2_with fail
  refine (cat_is _ _ [ab, lc] all Hx.out (IsPairs.new _ _ (by simp) ([ab, lc].map pairOf) _ rfl (by simp [maxLen])) (by simp; omega)).mono ?_
  rintro e w9 ⟨rfl, hB9⟩
  have z9 : w8.heap.size + 2 ≤ w9.heap.size := by have := hB9.size; (try simp at this); omega
  have f9a : w9.heap[w2.heap.size]? = some (.cells #[.string (txt la), .int .i64 (la.length : Nat)] 26 (0, 0)) := (hB9.block _ (by first | omega | (simp; try omega))).trans (heap_up _ (heap_up _ (F8a.out)))
  have x9a : w2.heap.size < w9.heap.size := lt_of_heap f9a
  have q9a0 : w9.cell? ⟨w2.heap.size, 0, none⟩ = some (.string (txt la)) := cell_of_heap f9a 0
  have q9a1 : w9.cell? ⟨w2.heap.size, 1, none⟩ = some (.int .i64 (la.length : Nat)) := cell_of_heap f9a 1
  have F9a := Lib.hid f9a
  have f9b : w9.heap[w3.heap.size]? = some (.cells #[.string (txt lb), .int .i64 (lb.length : Nat)] 26 (0, 0)) := (hB9.block _ (by first | omega | (simp; try omega))).trans (heap_up _ (heap_up _ (F8b.out)))
  have x9b : w3.heap.size < w9.heap.size := lt_of_heap f9b
  have q9b0 : w9.cell? ⟨w3.heap.size, 0, none⟩ = some (.string (txt lb)) := cell_of_heap f9b 0
  have q9b1 : w9.cell? ⟨w3.heap.size, 1, none⟩ = some (.int .i64 (lb.length : Nat)) := cell_of_heap f9b 1
  have F9b := Lib.hid f9b
  have f9c : w9.heap[w4.heap.size]? = some (.cells #[.string (txt lc), .int .i64 (lc.length : Nat)] 26 (0, 0)) := (hB9.block _ (by first | omega | (simp; try omega))).trans (heap_up _ (heap_up _ (F8c.out)))
  have x9c : w4.heap.size < w9.heap.size := lt_of_heap f9c
  have q9c0 : w9.cell? ⟨w4.heap.size, 0, none⟩ = some (.string (txt lc)) := cell_of_heap f9c 0
  have q9c1 : w9.cell? ⟨w4.heap.size, 1, none⟩ = some (.int .i64 (lc.length : Nat)) := cell_of_heap f9c 1
  have F9c := Lib.hid f9c
  have f9all : w9.heap[w6.heap.size]? = some (.cells #[.string (txt all), .int .i64 (all.length : Nat)] 26 (0, 0)) := (hB9.block _ (by first | omega | (simp; try omega))).trans (heap_up _ (heap_up _ (F8all.out)))
  have x9all : w6.heap.size < w9.heap.size := lt_of_heap f9all
  have q9all0 : w9.cell? ⟨w6.heap.size, 0, none⟩ = some (.string (txt all)) := cell_of_heap f9all 0
  have q9all1 : w9.cell? ⟨w6.heap.size, 1, none⟩ = some (.int .i64 (all.length : Nat)) := cell_of_heap f9all 1
  have F9all := Lib.hid f9all
  have f9ab : w9.heap[w7.heap.size]? = some (.cells #[.string (txt ab), .int .i64 (ab.length : Nat)] 26 (0, 0)) := (hB9.block _ (by first | omega | (simp; try omega))).trans (heap_up _ (heap_up _ (F8ab.out)))
  have x9ab : w7.heap.size < w9.heap.size := lt_of_heap f9ab
  have q9ab0 : w9.cell? ⟨w7.heap.size, 0, none⟩ = some (.string (txt ab)) := cell_of_heap f9ab 0
  have q9ab1 : w9.cell? ⟨w7.heap.size, 1, none⟩ = some (.int .i64 (ab.length : Nat)) := cell_of_heap f9ab 1
  have F9ab := Lib.hid f9ab
  have f9bc : w9.heap[w8.heap.size]? = some (.cells #[.string (txt bc), .int .i64 (bc.length : Nat)] 26 (0, 0)) := (hB9.block _ (by first | omega | (simp; try omega))).trans (heap_up _ (heap_new _ _ _ (by simp)))
  have x9bc : w8.heap.size < w9.heap.size := lt_of_heap f9bc
  have q9bc0 : w9.cell? ⟨w8.heap.size, 0, none⟩ = some (.string (txt bc)) := cell_of_heap f9bc 0
  have q9bc1 : w9.cell? ⟨w8.heap.size, 1, none⟩ = some (.int .i64 (bc.length : Nat)) := cell_of_heap f9bc 1
  have F9bc := Lib.hid f9bc
  have f9s : w9.heap[w8.heap.size + 1]? = some (.cells #[.string (txt ab), .int .i64 (ab.length : Nat), .string (txt lc), .int .i64 (lc.length : Nat)] 26 (0, 0)) := (hB9.block _ (by first | omega | (simp; try omega))).trans (heap_new _ _ _ (by simp))
  have x9s : w8.heap.size + 1 < w9.heap.size := lt_of_heap f9s
  have q9s0 : w9.cell? ⟨w8.heap.size + 1, 0, none⟩ = some (.string (txt ab)) := cell_of_heap f9s 0
  have q9s1 : w9.cell? ⟨w8.heap.size + 1, 1, none⟩ = some (.int .i64 (ab.length : Nat)) := cell_of_heap f9s 1
  have q9s2 : w9.cell? ⟨w8.heap.size + 1, 2, none⟩ = some (.string (txt lc)) := cell_of_heap f9s 2
  have q9s3 : w9.cell? ⟨w8.heap.size + 1, 3, none⟩ = some (.int .i64 (lc.length : Nat)) := cell_of_heap f9s 3
  have F9s := Lib.hid f9s
  have hBw9 : Below w.heap.size w w9 := ((hBw8.alloc (by first | omega | (simp; try omega)) _).alloc (by first | omega | (simp; try omega)) _).trans (hB9.mono (by first | omega | (simp; try omega)))
  have y9 : w.heap.size ≤ w9.heap.size := hBw9.size
  clear f9a f9b f9c f9all f9ab f9bc f9s hB9 q8a0 q8a1 x8a q8b0 q8b1 x8b q8c0 q8c1 x8c q8all0 q8all1 x8all q8ab0 q8ab1 x8ab F8a F8b F8c F8all F8ab q8s0 q8s1 q8s2 q8s3 x8s hBw8
  go_wp2_with fail
  refine (cat_is _ _ [la, bc] all Hy.out (IsPairs.new _ _ (by simp) ([la, bc].map pairOf) _ rfl (by simp [maxLen])) (by simp; omega)).mono ?_
  rintro e w10 ⟨rfl, hB10⟩
  have z10 : w9.heap.size + 2 ≤ w10.heap.size := by have := hB10.size; (try simp at this); omega
  have f10a : w10.heap[w2.heap.size]? = some (.cells #[.string (txt la), .int .i64 (la.length : Nat)] 26 (0, 0)) := (hB10.block _ (by first | omega | (simp; try omega))).trans (heap_up _ (heap_up _ (F9a.out)))
  have x10a : w2.heap.size < w10.heap.size := lt_of_heap f10a
  have q10a0 : w10.cell? ⟨w2.heap.size, 0, none⟩ = some (.string (txt la)) := cell_of_heap f10a 0
  have q10a1 : w10.cell? ⟨w2.heap.size, 1, none⟩ = some (.int .i64 (la.length : Nat)) := cell_of_heap f10a 1
  have F10a := Lib.hid f10a
  have f10b : w10.heap[w3.heap.size]? = some (.cells #[.string (txt lb), .int .i64 (lb.length : Nat)] 26 (0, 0)) := (hB10.block _ (by first | omega | (simp; try omega))).trans (heap_up _ (heap_up _ (F9b.out)))
  have x10b : w3.heap.size < w10.heap.size := lt_of_heap f10b
  have q10b0 : w10.cell? ⟨w3.heap.size, 0, none⟩ = some (.string (txt lb)) := cell_of_heap f10b 0
  have q10b1 : w10.cell? ⟨w3.heap.size, 1, none⟩ = some (.int .i64 (lb.length : Nat)) := cell_of_heap f10b 1
  have F10b := Lib.hid f10b
  have f10c : w10.heap[w4.heap.size]? = some (.cells #[.string (txt lc), .int .i64 (lc.length : Nat)] 26 (0, 0)) := (hB10.block _ (by first | omega | (simp; try omega))).trans (heap_up _ (heap_up _ (F9c.out)))
  have x10c : w4.heap.size < w10.heap.size := lt_of_heap f10c
  have q10c0 : w10.cell? ⟨w4.heap.size, 0, none⟩ = some (.string (txt lc)) := cell_of_heap f10c 0
  have q10c1 : w10.cell? ⟨w4.heap.size, 1, none⟩ = some (.int .i64 (lc.length : Nat)) := cell_of_heap f10c 1
  have F10c := Lib.hid f10c
  have f10all : w10.heap[w6.heap.size]? = some (.cells #[.string (txt all), .int .i64 (all.length : Nat)] 26 (0, 0)) := (hB10.block _ (by first | omega | (simp; try omega))).trans (heap_up _ (heap_up _ (F9all.out)))
  have x10all : w6.heap.size < w10.heap.size := lt_of_heap f10all
  have q10all0 : w10.cell? ⟨w6.heap.size, 0, none⟩ = some (.string (txt all)) := cell_of_heap f10all 0
  have q10all1 : w10.cell? ⟨w6.heap.size, 1, none⟩ = some (.int .i64 (all.length : Nat)) := cell_of_heap f10all 1
  have F10all := Lib.hid f10all
  have f10ab : w10.heap[w7.heap.size]? = some (.cells #[.string (txt ab), .int .i64 (ab.length : Nat)] 26 (0, 0)) := (hB10.block _ (by first | omega | (simp; try omega))).trans (heap_up _ (heap_up _ (F9ab.out)))
  have x10ab : w7.heap.size < w10.heap.size := lt_of_heap f10ab
  have q10ab0 : w10.cell? ⟨w7.heap.size, 0, none⟩ = some (.string (txt ab)) := cell_of_heap f10ab 0
  have q10ab1 : w10.cell? ⟨w7.heap.size, 1, none⟩ = some (.int .i64 (ab.length : Nat)) := cell_of_heap f10ab 1
  have F10ab := Lib.hid f10ab
  have f10bc : w10.heap[w8.heap.size]? = some (.cells #[.string (txt bc), .int .i64 (bc.length : Nat)] 26 (0, 0)) := (hB10.block _ (by first | omega | (simp; try omega))).trans (heap_up _ (heap_up _ (F9bc.out)))
  have x10bc : w8.heap.size < w10.heap.size := lt_of_heap f10bc
  have q10bc0 : w10.cell? ⟨w8.heap.size, 0, none⟩ = some (.string (txt bc)) := cell_of_heap f10bc 0
  have q10bc1 : w10.cell? ⟨w8.heap.size, 1, none⟩ = some (.int .i64 (bc.length : Nat)) := cell_of_heap f10bc 1
  have F10bc := Lib.hid f10bc
  have f10x : w10.heap[w9.heap.size]? = some (.cells #[.string (txt all), .int .i64 (all.length : Nat)] 26 (0, 0)) := (hB10.block _ (by first | omega | (simp; try omega))).trans (heap_up _ (heap_new _ _ _ (by simp)))
  have x10x : w9.heap.size < w10.heap.size := lt_of_heap f10x
  have q10x0 : w10.cell? ⟨w9.heap.size, 0, none⟩ = some (.string (txt all)) := cell_of_heap f10x 0
  have q10x1 : w10.cell? ⟨w9.heap.size, 1, none⟩ = some (.int .i64 (all.length : Nat)) := cell_of_heap f10x 1
  have F10x := Lib.hid f10x
  have f10s : w10.heap[w9.heap.size + 1]? = some (.cells #[.string (txt la), .int .i64 (la.length : Nat), .string (txt bc), .int .i64 (bc.length : Nat)] 26 (0, 0)) := (hB10.block _ (by first | omega | (simp; try omega))).trans (heap_new _ _ _ (by simp))
  have x10s : w9.heap.size + 1 < w10.heap.size := lt_of_heap f10s
  have q10s0 : w10.cell? ⟨w9.heap.size + 1, 0, none⟩ = some (.string (txt la)) := cell_of_heap f10s 0
  have q10s1 : w10.cell? ⟨w9.heap.size + 1, 1, none⟩ = some (.int .i64 (la.length : Nat)) := cell_of_heap f10s 1
  have q10s2 : w10.cell? ⟨w9.heap.size + 1, 2, none⟩ = some (.string (txt bc)) := cell_of_heap f10s 2
  have q10s3 : w10.cell? ⟨w9.heap.size + 1, 3, none⟩ = some (.int .i64 (bc.length : Nat)) := cell_of_heap f10s 3
  have F10s := Lib.hid f10s
  have hBw10 : Below w.heap.size w w10 := ((hBw9.alloc (by first | omega | (simp; try omega)) _).alloc (by first | omega | (simp; try omega)) _).trans (hB10.mono (by first | omega | (simp; try omega)))
  have y10 : w.heap.size ≤ w10.heap.size := hBw10.size
  clear f10a f10b f10c f10all f10ab f10bc f10x f10s hB10 q9a0 q9a1 x9a q9b0 q9b1 x9b q9c0 q9c1 x9c q9all0 q9all1 x9all q9ab0 q9ab1 x9ab q9bc0 q9bc1 x9bc F9a F9b F9c F9all F9ab F9bc q9s0 q9s1 q9s2 q9s3 x9s hBw9
  go_wp2_with fail
  refine (put_nil _ x k p Hp.out hx hk64).mono ?_
  rintro e w11 ⟨rfl, hB11⟩
  have z11 : w10.heap.size + 1 ≤ w11.heap.size := by have := hB11.size; (try simp at this); omega
  have f11a : w11.heap[w2.heap.size]? = some (.cells #[.string (txt la), .int .i64 (la.length : Nat)] 26 (0, 0)) := (hB11.block _ (by first | omega | (simp; try omega))).trans (heap_up _ (F10a.out))
  have x11a : w2.heap.size < w11.heap.size := lt_of_heap f11a
  have q11a0 : w11.cell? ⟨w2.heap.size, 0, none⟩ = some (.string (txt la)) := cell_of_heap f11a 0
  have q11a1 : w11.cell? ⟨w2.heap.size, 1, none⟩ = some (.int .i64 (la.length : Nat)) := cell_of_heap f11a 1
  have F11a := Lib.hid f11a
  have f11b : w11.heap[w3.heap.size]? = some (.cells #[.string (txt lb), .int .i64 (lb.length : Nat)] 26 (0, 0)) := (hB11.block _ (by first | omega | (simp; try omega))).trans (heap_up _ (F10b.out))
  have x11b : w3.heap.size < w11.heap.size := lt_of_heap f11b
  have q11b0 : w11.cell? ⟨w3.heap.size, 0, none⟩ = some (.string (txt lb)) := cell_of_heap f11b 0
  have q11b1 : w11.cell? ⟨w3.heap.size, 1, none⟩ = some (.int .i64 (lb.length : Nat)) := cell_of_heap f11b 1
  have F11b := Lib.hid f11b
  have f11c : w11.heap[w4.heap.size]? = some (.cells #[.string (txt lc), .int .i64 (lc.length : Nat)] 26 (0, 0)) := (hB11.block _ (by first | omega | (simp; try omega))).trans (heap_up _ (F10c.out))
  have x11c : w4.heap.size < w11.heap.size := lt_of_heap f11c
  have q11c0 : w11.cell? ⟨w4.heap.size, 0, none⟩ = some (.string (txt lc)) := cell_of_heap f11c 0
  have q11c1 : w11.cell? ⟨w4.heap.size, 1, none⟩ = some (.int .i64 (lc.length : Nat)) := cell_of_heap f11c 1
  have F11c := Lib.hid f11c
  have f11all : w11.heap[w6.heap.size]? = some (.cells #[.string (txt all), .int .i64 (all.length : Nat)] 26 (0, 0)) := (hB11.block _ (by first | omega | (simp; try omega))).trans (heap_up _ (F10all.out))
  have x11all : w6.heap.size < w11.heap.size := lt_of_heap f11all
  have q11all0 : w11.cell? ⟨w6.heap.size, 0, none⟩ = some (.string (txt all)) := cell_of_heap f11all 0
  have q11all1 : w11.cell? ⟨w6.heap.size, 1, none⟩ = some (.int .i64 (all.length : Nat)) := cell_of_heap f11all 1
  have F11all := Lib.hid f11all
  have f11ab : w11.heap[w7.heap.size]? = some (.cells #[.string (txt ab), .int .i64 (ab.length : Nat)] 26 (0, 0)) := (hB11.block _ (by first | omega | (simp; try omega))).trans (heap_up _ (F10ab.out))
  have x11ab : w7.heap.size < w11.heap.size := lt_of_heap f11ab
  have q11ab0 : w11.cell? ⟨w7.heap.size, 0, none⟩ = some (.string (txt ab)) := cell_of_heap f11ab 0
  have q11ab1 : w11.cell? ⟨w7.heap.size, 1, none⟩ = some (.int .i64 (ab.length : Nat)) := cell_of_heap f11ab 1
  have F11ab := Lib.hid f11ab
  have f11bc : w11.heap[w8.heap.size]? = some (.cells #[.string (txt bc), .int .i64 (bc.length : Nat)] 26 (0, 0)) := (hB11.block _ (by first | omega | (simp; try omega))).trans (heap_up _ (F10bc.out))
  have x11bc : w8.heap.size < w11.heap.size := lt_of_heap f11bc
  have q11bc0 : w11.cell? ⟨w8.heap.size, 0, none⟩ = some (.string (txt bc)) := cell_of_heap f11bc 0
  have q11bc1 : w11.cell? ⟨w8.heap.size, 1, none⟩ = some (.int .i64 (bc.length : Nat)) := cell_of_heap f11bc 1
  have F11bc := Lib.hid f11bc
  have f11x : w11.heap[w9.heap.size]? = some (.cells #[.string (txt all), .int .i64 (all.length : Nat)] 26 (0, 0)) := (hB11.block _ (by first | omega | (simp; try omega))).trans (heap_up _ (F10x.out))
  have x11x : w9.heap.size < w11.heap.size := lt_of_heap f11x
  have q11x0 : w11.cell? ⟨w9.heap.size, 0, none⟩ = some (.string (txt all)) := cell_of_heap f11x 0
  have q11x1 : w11.cell? ⟨w9.heap.size, 1, none⟩ = some (.int .i64 (all.length : Nat)) := cell_of_heap f11x 1
  have F11x := Lib.hid f11x
  have f11y : w11.heap[w10.heap.size]? = some (.cells #[.string (txt all), .int .i64 (all.length : Nat)] 26 (0, 0)) := (hB11.block _ (by first | omega | (simp; try omega))).trans (heap_new _ _ _ (by simp))
  have x11y : w10.heap.size < w11.heap.size := lt_of_heap f11y
  have q11y0 : w11.cell? ⟨w10.heap.size, 0, none⟩ = some (.string (txt all)) := cell_of_heap f11y 0
  have q11y1 : w11.cell? ⟨w10.heap.size, 1, none⟩ = some (.int .i64 (all.length : Nat)) := cell_of_heap f11y 1
  have F11y := Lib.hid f11y
  have hBw11 : Below w.heap.size w w11 := (hBw10.alloc (by first | omega | (simp; try omega)) _).trans (hB11.mono (by first | omega | (simp; try omega)))
  have y11 : w.heap.size ≤ w11.heap.size := hBw11.size
  clear f11a f11b f11c f11all f11ab f11bc f11x f11y hB11 q10a0 q10a1 x10a q10b0 q10b1 x10b q10c0 q10c1 x10c q10all0 q10all1 x10all q10ab0 q10ab1 x10ab q10bc0 q10bc1 x10bc q10x0 q10x1 x10x F10a F10b F10c F10all F10ab F10bc F10x q10s0 q10s1 q10s2 q10s3 x10s hBw10
  go_wp2_with fail
  refine (put_is _ la x k q Hq.out (by omega) hx hk64).mono ?_
  rintro e w12 ⟨rfl, hB12⟩
  have z12 : w11.heap.size + 1 ≤ w12.heap.size := by have := hB12.size; (try simp at this); omega
  have f12a : w12.heap[w2.heap.size]? = some (.cells #[.string (txt la), .int .i64 (la.length : Nat)] 26 (0, 0)) := (hB12.block _ (by first | omega | (simp; try omega))).trans (heap_up _ (F11a.out))
  have x12a : w2.heap.size < w12.heap.size := lt_of_heap f12a
  have q12a0 : w12.cell? ⟨w2.heap.size, 0, none⟩ = some (.string (txt la)) := cell_of_heap f12a 0
  have q12a1 : w12.cell? ⟨w2.heap.size, 1, none⟩ = some (.int .i64 (la.length : Nat)) := cell_of_heap f12a 1
  have F12a := Lib.hid f12a
  have f12b : w12.heap[w3.heap.size]? = some (.cells #[.string (txt lb), .int .i64 (lb.length : Nat)] 26 (0, 0)) := (hB12.block _ (by first | omega | (simp; try omega))).trans (heap_up _ (F11b.out))
  have x12b : w3.heap.size < w12.heap.size := lt_of_heap f12b
  have q12b0 : w12.cell? ⟨w3.heap.size, 0, none⟩ = some (.string (txt lb)) := cell_of_heap f12b 0
  have q12b1 : w12.cell? ⟨w3.heap.size, 1, none⟩ = some (.int .i64 (lb.length : Nat)) := cell_of_heap f12b 1
  have F12b := Lib.hid f12b
  have f12c : w12.heap[w4.heap.size]? = some (.cells #[.string (txt lc), .int .i64 (lc.length : Nat)] 26 (0, 0)) := (hB12.block _ (by first | omega | (simp; try omega))).trans (heap_up _ (F11c.out))
  have x12c : w4.heap.size < w12.heap.size := lt_of_heap f12c
  have q12c0 : w12.cell? ⟨w4.heap.size, 0, none⟩ = some (.string (txt lc)) := cell_of_heap f12c 0
  have q12c1 : w12.cell? ⟨w4.heap.size, 1, none⟩ = some (.int .i64 (lc.length : Nat)) := cell_of_heap f12c 1
  have F12c := Lib.hid f12c
  have f12all : w12.heap[w6.heap.size]? = some (.cells #[.string (txt all), .int .i64 (all.length : Nat)] 26 (0, 0)) := (hB12.block _ (by first | omega | (simp; try omega))).trans (heap_up _ (F11all.out))
  have x12all : w6.heap.size < w12.heap.size := lt_of_heap f12all
  have q12all0 : w12.cell? ⟨w6.heap.size, 0, none⟩ = some (.string (txt all)) := cell_of_heap f12all 0
  have q12all1 : w12.cell? ⟨w6.heap.size, 1, none⟩ = some (.int .i64 (all.length : Nat)) := cell_of_heap f12all 1
  have F12all := Lib.hid f12all
  have f12ab : w12.heap[w7.heap.size]? = some (.cells #[.string (txt ab), .int .i64 (ab.length : Nat)] 26 (0, 0)) := (hB12.block _ (by first | omega | (simp; try omega))).trans (heap_up _ (F11ab.out))
  have x12ab : w7.heap.size < w12.heap.size := lt_of_heap f12ab
  have q12ab0 : w12.cell? ⟨w7.heap.size, 0, none⟩ = some (.string (txt ab)) := cell_of_heap f12ab 0
  have q12ab1 : w12.cell? ⟨w7.heap.size, 1, none⟩ = some (.int .i64 (ab.length : Nat)) := cell_of_heap f12ab 1
  have F12ab := Lib.hid f12ab
  have f12bc : w12.heap[w8.heap.size]? = some (.cells #[.string (txt bc), .int .i64 (bc.length : Nat)] 26 (0, 0)) := (hB12.block _ (by first | omega | (simp; try omega))).trans (heap_up _ (F11bc.out))
  have x12bc : w8.heap.size < w12.heap.size := lt_of_heap f12bc
  have q12bc0 : w12.cell? ⟨w8.heap.size, 0, none⟩ = some (.string (txt bc)) := cell_of_heap f12bc 0
  have q12bc1 : w12.cell? ⟨w8.heap.size, 1, none⟩ = some (.int .i64 (bc.length : Nat)) := cell_of_heap f12bc 1
  have F12bc := Lib.hid f12bc
  have f12x : w12.heap[w9.heap.size]? = some (.cells #[.string (txt all), .int .i64 (all.length : Nat)] 26 (0, 0)) := (hB12.block _ (by first | omega | (simp; try omega))).trans (heap_up _ (F11x.out))
  have x12x : w9.heap.size < w12.heap.size := lt_of_heap f12x
  have q12x0 : w12.cell? ⟨w9.heap.size, 0, none⟩ = some (.string (txt all)) := cell_of_heap f12x 0
  have q12x1 : w12.cell? ⟨w9.heap.size, 1, none⟩ = some (.int .i64 (all.length : Nat)) := cell_of_heap f12x 1
  have F12x := Lib.hid f12x
  have f12y : w12.heap[w10.heap.size]? = some (.cells #[.string (txt all), .int .i64 (all.length : Nat)] 26 (0, 0)) := (hB12.block _ (by first | omega | (simp; try omega))).trans (heap_up _ (F11y.out))
  have x12y : w10.heap.size < w12.heap.size := lt_of_heap f12y
  have q12y0 : w12.cell? ⟨w10.heap.size, 0, none⟩ = some (.string (txt all)) := cell_of_heap f12y 0
  have q12y1 : w12.cell? ⟨w10.heap.size, 1, none⟩ = some (.int .i64 (all.length : Nat)) := cell_of_heap f12y 1
  have F12y := Lib.hid f12y
  have f12p : w12.heap[w11.heap.size]? = some (.cells #[.string (txt p), .int .i64 (p.length : Nat)] 26 (0, 0)) := (hB12.block _ (by first | omega | (simp; try omega))).trans (heap_new _ _ _ (by simp))
  have x12p : w11.heap.size < w12.heap.size := lt_of_heap f12p
  have q12p0 : w12.cell? ⟨w11.heap.size, 0, none⟩ = some (.string (txt p)) := cell_of_heap f12p 0
  have q12p1 : w12.cell? ⟨w11.heap.size, 1, none⟩ = some (.int .i64 (p.length : Nat)) := cell_of_heap f12p 1
  have F12p := Lib.hid f12p
  have hBw12 : Below w.heap.size w w12 := (hBw11.alloc (by first | omega | (simp; try omega)) _).trans (hB12.mono (by first | omega | (simp; try omega)))
  have y12 : w.heap.size ≤ w12.heap.size := hBw12.size
  clear f12a f12b f12c f12all f12ab f12bc f12x f12y f12p hB12 q11a0 q11a1 x11a q11b0 q11b1 x11b q11c0 q11c1 x11c q11all0 q11all1 x11all q11ab0 q11ab1 x11ab q11bc0 q11bc1 x11bc q11x0 q11x1 x11x q11y0 q11y1 x11y F11a F11b F11c F11all F11ab F11bc F11x F11y hBw11
  go_wp2_with fail
  refine (cat_is _ _ [la, p] q Hr.out (IsPairs.new _ _ (by simp) ([la, p].map pairOf) _ rfl (by simp [maxLen])) (by simp; omega)).mono ?_
  rintro e w13 ⟨rfl, hB13⟩
  have z13 : w12.heap.size + 2 ≤ w13.heap.size := by have := hB13.size; (try simp at this); omega
  have f13a : w13.heap[w2.heap.size]? = some (.cells #[.string (txt la), .int .i64 (la.length : Nat)] 26 (0, 0)) := (hB13.block _ (by first | omega | (simp; try omega))).trans (heap_up _ (heap_up _ (F12a.out)))
  have x13a : w2.heap.size < w13.heap.size := lt_of_heap f13a
  have q13a0 : w13.cell? ⟨w2.heap.size, 0, none⟩ = some (.string (txt la)) := cell_of_heap f13a 0
  have q13a1 : w13.cell? ⟨w2.heap.size, 1, none⟩ = some (.int .i64 (la.length : Nat)) := cell_of_heap f13a 1
  have F13a := Lib.hid f13a
  have f13b : w13.heap[w3.heap.size]? = some (.cells #[.string (txt lb), .int .i64 (lb.length : Nat)] 26 (0, 0)) := (hB13.block _ (by first | omega | (simp; try omega))).trans (heap_up _ (heap_up _ (F12b.out)))
  have x13b : w3.heap.size < w13.heap.size := lt_of_heap f13b
  have q13b0 : w13.cell? ⟨w3.heap.size, 0, none⟩ = some (.string (txt lb)) := cell_of_heap f13b 0
  have q13b1 : w13.cell? ⟨w3.heap.size, 1, none⟩ = some (.int .i64 (lb.length : Nat)) := cell_of_heap f13b 1
  have F13b := Lib.hid f13b
  have f13c : w13.heap[w4.heap.size]? = some (.cells #[.string (txt lc), .int .i64 (lc.length : Nat)] 26 (0, 0)) := (hB13.block _ (by first | omega | (simp; try omega))).trans (heap_up _ (heap_up _ (F12c.out)))
  have x13c : w4.heap.size < w13.heap.size := lt_of_heap f13c
  have q13c0 : w13.cell? ⟨w4.heap.size, 0, none⟩ = some (.string (txt lc)) := cell_of_heap f13c 0
  have q13c1 : w13.cell? ⟨w4.heap.size, 1, none⟩ = some (.int .i64 (lc.length : Nat)) := cell_of_heap f13c 1
  have F13c := Lib.hid f13c
  have f13all : w13.heap[w6.heap.size]? = some (.cells #[.string (txt all), .int .i64 (all.length : Nat)] 26 (0, 0)) := (hB13.block _ (by first | omega | (simp; try omega))).trans (heap_up _ (heap_up _ (F12all.out)))
  have x13all : w6.heap.size < w13.heap.size := lt_of_heap f13all
  have q13all0 : w13.cell? ⟨w6.heap.size, 0, none⟩ = some (.string (txt all)) := cell_of_heap f13all 0
  have q13all1 : w13.cell? ⟨w6.heap.size, 1, none⟩ = some (.int .i64 (all.length : Nat)) := cell_of_heap f13all 1
  have F13all := Lib.hid f13all
  have f13ab : w13.heap[w7.heap.size]? = some (.cells #[.string (txt ab), .int .i64 (ab.length : Nat)] 26 (0, 0)) := (hB13.block _ (by first | omega | (simp; try omega))).trans (heap_up _ (heap_up _ (F12ab.out)))
  have x13ab : w7.heap.size < w13.heap.size := lt_of_heap f13ab
  have q13ab0 : w13.cell? ⟨w7.heap.size, 0, none⟩ = some (.string (txt ab)) := cell_of_heap f13ab 0
  have q13ab1 : w13.cell? ⟨w7.heap.size, 1, none⟩ = some (.int .i64 (ab.length : Nat)) := cell_of_heap f13ab 1
  have F13ab := Lib.hid f13ab
  have f13bc : w13.heap[w8.heap.size]? = some (.cells #[.string (txt bc), .int .i64 (bc.length : Nat)] 26 (0, 0)) := (hB13.block _ (by first | omega | (simp; try omega))).trans (heap_up _ (heap_up _ (F12bc.out)))
  have x13bc : w8.heap.size < w13.heap.size := lt_of_heap f13bc
  have q13bc0 : w13.cell? ⟨w8.heap.size, 0, none⟩ = some (.string (txt bc)) := cell_of_heap f13bc 0
  have q13bc1 : w13.cell? ⟨w8.heap.size, 1, none⟩ = some (.int .i64 (bc.length : Nat)) := cell_of_heap f13bc 1
  have F13bc := Lib.hid f13bc
  have f13x : w13.heap[w9.heap.size]? = some (.cells #[.string (txt all), .int .i64 (all.length : Nat)] 26 (0, 0)) := (hB13.block _ (by first | omega | (simp; try omega))).trans (heap_up _ (heap_up _ (F12x.out)))
  have x13x : w9.heap.size < w13.heap.size := lt_of_heap f13x
  have q13x0 : w13.cell? ⟨w9.heap.size, 0, none⟩ = some (.string (txt all)) := cell_of_heap f13x 0
  have q13x1 : w13.cell? ⟨w9.heap.size, 1, none⟩ = some (.int .i64 (all.length : Nat)) := cell_of_heap f13x 1
  have F13x := Lib.hid f13x
  have f13y : w13.heap[w10.heap.size]? = some (.cells #[.string (txt all), .int .i64 (all.length : Nat)] 26 (0, 0)) := (hB13.block _ (by first | omega | (simp; try omega))).trans (heap_up _ (heap_up _ (F12y.out)))
  have x13y : w10.heap.size < w13.heap.size := lt_of_heap f13y
  have q13y0 : w13.cell? ⟨w10.heap.size, 0, none⟩ = some (.string (txt all)) := cell_of_heap f13y 0
  have q13y1 : w13.cell? ⟨w10.heap.size, 1, none⟩ = some (.int .i64 (all.length : Nat)) := cell_of_heap f13y 1
  have F13y := Lib.hid f13y
  have f13p : w13.heap[w11.heap.size]? = some (.cells #[.string (txt p), .int .i64 (p.length : Nat)] 26 (0, 0)) := (hB13.block _ (by first | omega | (simp; try omega))).trans (heap_up _ (heap_up _ (F12p.out)))
  have x13p : w11.heap.size < w13.heap.size := lt_of_heap f13p
  have q13p0 : w13.cell? ⟨w11.heap.size, 0, none⟩ = some (.string (txt p)) := cell_of_heap f13p 0
  have q13p1 : w13.cell? ⟨w11.heap.size, 1, none⟩ = some (.int .i64 (p.length : Nat)) := cell_of_heap f13p 1
  have F13p := Lib.hid f13p
  have f13q : w13.heap[w12.heap.size]? = some (.cells #[.string (txt q), .int .i64 (q.length : Nat)] 26 (0, 0)) := (hB13.block _ (by first | omega | (simp; try omega))).trans (heap_up _ (heap_new _ _ _ (by simp)))
  have x13q : w12.heap.size < w13.heap.size := lt_of_heap f13q
  have q13q0 : w13.cell? ⟨w12.heap.size, 0, none⟩ = some (.string (txt q)) := cell_of_heap f13q 0
  have q13q1 : w13.cell? ⟨w12.heap.size, 1, none⟩ = some (.int .i64 (q.length : Nat)) := cell_of_heap f13q 1
  have F13q := Lib.hid f13q
  have f13s : w13.heap[w12.heap.size + 1]? = some (.cells #[.string (txt la), .int .i64 (la.length : Nat), .string (txt p), .int .i64 (p.length : Nat)] 26 (0, 0)) := (hB13.block _ (by first | omega | (simp; try omega))).trans (heap_new _ _ _ (by simp))
  have x13s : w12.heap.size + 1 < w13.heap.size := lt_of_heap f13s
  have q13s0 : w13.cell? ⟨w12.heap.size + 1, 0, none⟩ = some (.string (txt la)) := cell_of_heap f13s 0
  have q13s1 : w13.cell? ⟨w12.heap.size + 1, 1, none⟩ = some (.int .i64 (la.length : Nat)) := cell_of_heap f13s 1
  have q13s2 : w13.cell? ⟨w12.heap.size + 1, 2, none⟩ = some (.string (txt p)) := cell_of_heap f13s 2
  have q13s3 : w13.cell? ⟨w12.heap.size + 1, 3, none⟩ = some (.int .i64 (p.length : Nat)) := cell_of_heap f13s 3
  have F13s := Lib.hid f13s
  have hBw13 : Below w.heap.size w w13 := ((hBw12.alloc (by first | omega | (simp; try omega)) _).alloc (by first | omega | (simp; try omega)) _).trans (hB13.mono (by first | omega | (simp; try omega)))
  have y13 : w.heap.size ≤ w13.heap.size := hBw13.size
  clear f13a f13b f13c f13all f13ab f13bc f13x f13y f13p f13q f13s hB13 q12a0 q12a1 x12a q12b0 q12b1 x12b q12c0 q12c1 x12c q12all0 q12all1 x12all q12ab0 q12ab1 x12ab q12bc0 q12bc1 x12bc q12x0 q12x1 x12x q12y0 q12y1 x12y q12p0 q12p1 x12p F12a F12b F12c F12all F12ab F12bc F12x F12y F12p hBw12
  go_wp2_with fail
  refine (same_ok _ la lb lc all (la.length : Nat) Hall2.out rfl (by omega)).mono ?_
  rintro e w14 ⟨rfl, hB14⟩
  have z14 : w13.heap.size + 1 ≤ w14.heap.size := by have := hB14.size; (try simp at this); omega
  have f14a : w14.heap[w2.heap.size]? = some (.cells #[.string (txt la), .int .i64 (la.length : Nat)] 26 (0, 0)) := (hB14.block _ (by first | omega | (simp; try omega))).trans (heap_up _ (F13a.out))
  have x14a : w2.heap.size < w14.heap.size := lt_of_heap f14a
  have q14a0 : w14.cell? ⟨w2.heap.size, 0, none⟩ = some (.string (txt la)) := cell_of_heap f14a 0
  have q14a1 : w14.cell? ⟨w2.heap.size, 1, none⟩ = some (.int .i64 (la.length : Nat)) := cell_of_heap f14a 1
  have F14a := Lib.hid f14a
  have f14b : w14.heap[w3.heap.size]? = some (.cells #[.string (txt lb), .int .i64 (lb.length : Nat)] 26 (0, 0)) := (hB14.block _ (by first | omega | (simp; try omega))).trans (heap_up _ (F13b.out))
  have x14b : w3.heap.size < w14.heap.size := lt_of_heap f14b
  have q14b0 : w14.cell? ⟨w3.heap.size, 0, none⟩ = some (.string (txt lb)) := cell_of_heap f14b 0
  have q14b1 : w14.cell? ⟨w3.heap.size, 1, none⟩ = some (.int .i64 (lb.length : Nat)) := cell_of_heap f14b 1
  have F14b := Lib.hid f14b
  have f14c : w14.heap[w4.heap.size]? = some (.cells #[.string (txt lc), .int .i64 (lc.length : Nat)] 26 (0, 0)) := (hB14.block _ (by first | omega | (simp; try omega))).trans (heap_up _ (F13c.out))
  have x14c : w4.heap.size < w14.heap.size := lt_of_heap f14c
  have q14c0 : w14.cell? ⟨w4.heap.size, 0, none⟩ = some (.string (txt lc)) := cell_of_heap f14c 0
  have q14c1 : w14.cell? ⟨w4.heap.size, 1, none⟩ = some (.int .i64 (lc.length : Nat)) := cell_of_heap f14c 1
  have F14c := Lib.hid f14c
  have f14all : w14.heap[w6.heap.size]? = some (.cells #[.string (txt all), .int .i64 (all.length : Nat)] 26 (0, 0)) := (hB14.block _ (by first | omega | (simp; try omega))).trans (heap_up _ (F13all.out))
  have x14all : w6.heap.size < w14.heap.size := lt_of_heap f14all
  have q14all0 : w14.cell? ⟨w6.heap.size, 0, none⟩ = some (.string (txt all)) := cell_of_heap f14all 0
  have q14all1 : w14.cell? ⟨w6.heap.size, 1, none⟩ = some (.int .i64 (all.length : Nat)) := cell_of_heap f14all 1
  have F14all := Lib.hid f14all
  have f14ab : w14.heap[w7.heap.size]? = some (.cells #[.string (txt ab), .int .i64 (ab.length : Nat)] 26 (0, 0)) := (hB14.block _ (by first | omega | (simp; try omega))).trans (heap_up _ (F13ab.out))
  have x14ab : w7.heap.size < w14.heap.size := lt_of_heap f14ab
  have q14ab0 : w14.cell? ⟨w7.heap.size, 0, none⟩ = some (.string (txt ab)) := cell_of_heap f14ab 0
  have q14ab1 : w14.cell? ⟨w7.heap.size, 1, none⟩ = some (.int .i64 (ab.length : Nat)) := cell_of_heap f14ab 1
  have F14ab := Lib.hid f14ab
  have f14bc : w14.heap[w8.heap.size]? = some (.cells #[.string (txt bc), .int .i64 (bc.length : Nat)] 26 (0, 0)) := (hB14.block _ (by first | omega | (simp; try omega))).trans (heap_up _ (F13bc.out))
  have x14bc : w8.heap.size < w14.heap.size := lt_of_heap f14bc
  have q14bc0 : w14.cell? ⟨w8.heap.size, 0, none⟩ = some (.string (txt bc)) := cell_of_heap f14bc 0
  have q14bc1 : w14.cell? ⟨w8.heap.size, 1, none⟩ = some (.int .i64 (bc.length : Nat)) := cell_of_heap f14bc 1
  have F14bc := Lib.hid f14bc
  have f14x : w14.heap[w9.heap.size]? = some (.cells #[.string (txt all), .int .i64 (all.length : Nat)] 26 (0, 0)) := (hB14.block _ (by first | omega | (simp; try omega))).trans (heap_up _ (F13x.out))
  have x14x : w9.heap.size < w14.heap.size := lt_of_heap f14x
  have q14x0 : w14.cell? ⟨w9.heap.size, 0, none⟩ = some (.string (txt all)) := cell_of_heap f14x 0
  have q14x1 : w14.cell? ⟨w9.heap.size, 1, none⟩ = some (.int .i64 (all.length : Nat)) := cell_of_heap f14x 1
  have F14x := Lib.hid f14x
  have f14y : w14.heap[w10.heap.size]? = some (.cells #[.string (txt all), .int .i64 (all.length : Nat)] 26 (0, 0)) := (hB14.block _ (by first | omega | (simp; try omega))).trans (heap_up _ (F13y.out))
  have x14y : w10.heap.size < w14.heap.size := lt_of_heap f14y
  have q14y0 : w14.cell? ⟨w10.heap.size, 0, none⟩ = some (.string (txt all)) := cell_of_heap f14y 0
  have q14y1 : w14.cell? ⟨w10.heap.size, 1, none⟩ = some (.int .i64 (all.length : Nat)) := cell_of_heap f14y 1
  have F14y := Lib.hid f14y
  have f14p : w14.heap[w11.heap.size]? = some (.cells #[.string (txt p), .int .i64 (p.length : Nat)] 26 (0, 0)) := (hB14.block _ (by first | omega | (simp; try omega))).trans (heap_up _ (F13p.out))
  have x14p : w11.heap.size < w14.heap.size := lt_of_heap f14p
  have q14p0 : w14.cell? ⟨w11.heap.size, 0, none⟩ = some (.string (txt p)) := cell_of_heap f14p 0
  have q14p1 : w14.cell? ⟨w11.heap.size, 1, none⟩ = some (.int .i64 (p.length : Nat)) := cell_of_heap f14p 1
  have F14p := Lib.hid f14p
  have f14q : w14.heap[w12.heap.size]? = some (.cells #[.string (txt q), .int .i64 (q.length : Nat)] 26 (0, 0)) := (hB14.block _ (by first | omega | (simp; try omega))).trans (heap_up _ (F13q.out))
  have x14q : w12.heap.size < w14.heap.size := lt_of_heap f14q
  have q14q0 : w14.cell? ⟨w12.heap.size, 0, none⟩ = some (.string (txt q)) := cell_of_heap f14q 0
  have q14q1 : w14.cell? ⟨w12.heap.size, 1, none⟩ = some (.int .i64 (q.length : Nat)) := cell_of_heap f14q 1
  have F14q := Lib.hid f14q
  have f14r : w14.heap[w13.heap.size]? = some (.cells #[.string (txt q), .int .i64 (q.length : Nat)] 26 (0, 0)) := (hB14.block _ (by first | omega | (simp; try omega))).trans (heap_new _ _ _ (by simp))
  have x14r : w13.heap.size < w14.heap.size := lt_of_heap f14r
  have q14r0 : w14.cell? ⟨w13.heap.size, 0, none⟩ = some (.string (txt q)) := cell_of_heap f14r 0
  have q14r1 : w14.cell? ⟨w13.heap.size, 1, none⟩ = some (.int .i64 (q.length : Nat)) := cell_of_heap f14r 1
  have F14r := Lib.hid f14r
  have hBw14 : Below w.heap.size w w14 := (hBw13.alloc (by first | omega | (simp; try omega)) _).trans (hB14.mono (by first | omega | (simp; try omega)))
  have y14 : w.heap.size ≤ w14.heap.size := hBw14.size
  clear f14a f14b f14c f14all f14ab f14bc f14x f14y f14p f14q f14r hB14 q13a0 q13a1 x13a q13b0 q13b1 x13b q13c0 q13c1 x13c q13all0 q13all1 x13all q13ab0 q13ab1 x13ab q13bc0 q13bc1 x13bc q13x0 q13x1 x13x q13y0 q13y1 x13y q13p0 q13p1 x13p q13q0 q13q1 x13q F13a F13b F13c F13all F13ab F13bc F13x F13y F13p F13q q13s0 q13s1 q13s2 q13s3 x13s hBw13
  go_wp2_with fail
  refine (same_ok _ ab lc [] all _ Hall3.out (by rw [Habl.out]; omega) (by omega)).mono ?_
  rintro e w15 ⟨rfl, hB15⟩
  have z15 : w14.heap.size ≤ w15.heap.size := by have := hB15.size; (try simp at this); omega
  have f15a : w15.heap[w2.heap.size]? = some (.cells #[.string (txt la), .int .i64 (la.length : Nat)] 26 (0, 0)) := (hB15.block _ (by first | omega | (simp; try omega))).trans (F14a.out)
  have x15a : w2.heap.size < w15.heap.size := lt_of_heap f15a
  have q15a0 : w15.cell? ⟨w2.heap.size, 0, none⟩ = some (.string (txt la)) := cell_of_heap f15a 0
  have q15a1 : w15.cell? ⟨w2.heap.size, 1, none⟩ = some (.int .i64 (la.length : Nat)) := cell_of_heap f15a 1
  have F15a := Lib.hid f15a
  have f15b : w15.heap[w3.heap.size]? = some (.cells #[.string (txt lb), .int .i64 (lb.length : Nat)] 26 (0, 0)) := (hB15.block _ (by first | omega | (simp; try omega))).trans (F14b.out)
  have x15b : w3.heap.size < w15.heap.size := lt_of_heap f15b
  have q15b0 : w15.cell? ⟨w3.heap.size, 0, none⟩ = some (.string (txt lb)) := cell_of_heap f15b 0
  have q15b1 : w15.cell? ⟨w3.heap.size, 1, none⟩ = some (.int .i64 (lb.length : Nat)) := cell_of_heap f15b 1
  have F15b := Lib.hid f15b
  have f15c : w15.heap[w4.heap.size]? = some (.cells #[.string (txt lc), .int .i64 (lc.length : Nat)] 26 (0, 0)) := (hB15.block _ (by first | omega | (simp; try omega))).trans (F14c.out)
  have x15c : w4.heap.size < w15.heap.size := lt_of_heap f15c
  have q15c0 : w15.cell? ⟨w4.heap.size, 0, none⟩ = some (.string (txt lc)) := cell_of_heap f15c 0
  have q15c1 : w15.cell? ⟨w4.heap.size, 1, none⟩ = some (.int .i64 (lc.length : Nat)) := cell_of_heap f15c 1
  have F15c := Lib.hid f15c
  have f15all : w15.heap[w6.heap.size]? = some (.cells #[.string (txt all), .int .i64 (all.length : Nat)] 26 (0, 0)) := (hB15.block _ (by first | omega | (simp; try omega))).trans (F14all.out)
  have x15all : w6.heap.size < w15.heap.size := lt_of_heap f15all
  have q15all0 : w15.cell? ⟨w6.heap.size, 0, none⟩ = some (.string (txt all)) := cell_of_heap f15all 0
  have q15all1 : w15.cell? ⟨w6.heap.size, 1, none⟩ = some (.int .i64 (all.length : Nat)) := cell_of_heap f15all 1
  have F15all := Lib.hid f15all
  have hBw15 : Below w.heap.size w w15 := hBw14.trans (hB15.mono (by first | omega | (simp; try omega)))
  have y15 : w.heap.size ≤ w15.heap.size := hBw15.size
  clear f15a f15b f15c f15all hB15 q14a0 q14a1 x14a q14b0 q14b1 x14b q14c0 q14c1 x14c q14all0 q14all1 x14all F14a F14b F14c F14all q14ab0 q14ab1 x14ab q14bc0 q14bc1 x14bc q14x0 q14x1 x14x q14y0 q14y1 x14y q14p0 q14p1 x14p q14q0 q14q1 x14q q14r0 q14r1 x14r hBw14
  go_wp2
  go_ret
  exact ⟨rfl, hBw15⟩
end Go.Proofs.Ytfieelanbcjcpaa
