/- The law's own: pick, raw bits, and the document's Of. -/
import Derived.Test.YtpccdohhiojlkaaBitsCat
import Derived.Test.YtpccdohhiojlkaaLift
namespace Go.Proofs.Ytpccdohhiojlkaa
open Go.RowKit
set_option linter.unusedVariables false


set_option maxHeartbeats 400000 in
theorem pick_any (c n : Int) (w : World) (hc : -9223372036854775808 ≤ c) (hc' : c ≤ 9223372036854775807) (hn : 0 < n) (hn' : n ≤ 9223372036854775807) :
    Calls Try.prog 33 #[.int .i64 c, .int .i64 n] w fun e w' => e = .returned (.int .i64 (pickF c n)) ∧ w = w' := by
  by_cases h : c < 0
  · have e : pickF c n = (-(c + 1)) % n := by unfold pickF; rw [if_pos h]
    rw [e]; clear e
    go_enter Try.func33, Try.ntmps33
    go_wp2
    go_ret
    exact ⟨ret_int (by rw [← Int.neg_tmod]; exact Int.tmod_eq_emod_of_nonneg (by omega)), rfl⟩
  · have e : pickF c n = c % n := by unfold pickF; rw [if_neg h]
    rw [e]; clear e
    go_enter Try.func33, Try.ntmps33
    go_wp2
    go_ret
    exact ⟨rfl, rfl⟩

theorem int_info : (Try.prog.info? 3).map (fun i => (i.zero, i.size, i.bytes)) = some (some (.int .i64 0), 1, 8) := by kernel_rfl

/-- numbers, each 0 or 1, as bits -/
def asBits (xs : List Int) : List Bool := xs.map fun x => decide (x = 1)
def Bin (xs : List Int) : Prop := ∀ x ∈ xs, x = 0 ∨ x = 1
/-- eight bits of a row, from a place on, 0 where there is none -/
def eight (l : List Bool) (i k : Nat) : List Bool := (List.range k).map fun t => l.getD (i + t) false
def bytesOf (l : List Bool) (j : Nat) : List UInt8 := (List.range j).map fun t => UInt8.ofNat (B.num (eight l (8 * t) 8))
theorem eight_succ (l : List Bool) (i k : Nat) : eight l i (k + 1) = eight l i k ++ [l.getD (i + k) false] := by
  unfold eight; rw [List.range_succ, List.map_append]; rfl
theorem length_eight (l : List Bool) (i k : Nat) : (eight l i k).length = k := by simp [eight]
theorem num_eight_lt (l : List Bool) (i k : Nat) (hk : k ≤ 8) : B.num (eight l i k) < 256 := by
  have := B.num_lt (eight l i k)
  rw [length_eight] at this
  exact Nat.lt_of_lt_of_le this (Nat.pow_le_pow_right (by omega) hk)
theorem bytesOf_succ (l : List Bool) (j : Nat) : bytesOf l (j + 1) = bytesOf l j ++ [UInt8.ofNat (B.num (eight l (8 * j) 8))] := by
  unfold bytesOf; rw [List.range_succ, List.map_append]; rfl
theorem length_bytesOf (l : List Bool) (j : Nat) : (bytesOf l j).length = j := by simp [bytesOf]
theorem bytesOf_pack (l : List Bool) (j : Nat) (hj : j = (l.length + 7) / 8) : bytesOf l j = B.pack l := by
  apply B.text_ext
  · rw [length_bytesOf, B.length_pack, hj]
  · intro i hi
    rw [length_bytesOf] at hi
    rw [B.bitAt_pack]
    unfold B.bitAt bytesOf
    have h8 : i / 8 < j := by omega
    rw [List.getD_eq_getElem?_getD, List.getElem?_map, List.getElem?_range h8]
    simp only [Option.map_some, Option.getD_some]
    rw [UInt8.toNat_ofNat_of_lt' (by have := num_eight_lt l (8 * (i / 8)) 8 (Nat.le_refl _); simpa using this)]
    have hlow := B.low_num (eight l (8 * (i / 8)) 8)
    rw [length_eight] at hlow
    have h1 : (B.low (B.num (eight l (8 * (i / 8)) 8)) 8)[i % 8]? = some ((B.num (eight l (8 * (i / 8)) 8)).testBit (7 - i % 8)) := by
      unfold B.low
      rw [List.getElem?_map, List.getElem?_range (Nat.mod_lt _ (by omega))]
      simp
    have h2 : (eight l (8 * (i / 8)) 8)[i % 8]? = some (l.getD i false) := by
      unfold eight
      rw [List.getElem?_map, List.getElem?_range (Nat.mod_lt _ (by omega))]
      simp only [Option.map_some]
      rw [show 8 * (i / 8) + i % 8 = i by omega]
    rw [hlow, h2] at h1
    injection h1 with h1
    exact h1.symm
theorem getD_asBits (xs : List Int) (i : Nat) (x : Int) (h : xs[i]? = some x) : (asBits xs).getD i false = decide (x = 1) := by
  simp [asBits, List.getD_eq_getElem?_getD, h]
theorem getD_asBits_none (xs : List Int) (i : Nat) (h : xs.length ≤ i) : (asBits xs).getD i false = false := by
  simp [asBits, List.getD_eq_getElem?_getD, List.getElem?_eq_none h]

set_option maxHeartbeats 800000 in
theorem of_any (w : World) (v : Value) (xs : List Int) (hv : IsInts w w.heap.size v xs) (hx : Bin xs) (hlen : xs.length < 1099511627776) :
    Calls Try.prog 29 #[v] w fun e w' => e = .returned (bitsVal (asBits xs)) ∧ Below w.heap.size w w' := by
  obtain ⟨A, cap, rfl, hcap, hmax⟩ := hv.shape
  obtain ⟨i0, hi, hz0, hz1, hz2⟩ := info_parts byte_info
  go_enter Try.func29, Try.ntmps29
  go_wp2
  have c0 : (w.alloc (.cells #[.string ⟨#[]⟩, .int .i64 0] 28)).cell? ⟨w.heap.size, 0, none⟩ = some (.string ⟨#[]⟩) := cell_of_heap (heap_alloc_new w _) 0
  go_loopw [3, 4] (fun v i wr => ∃ j : Nat, 8 * j ≤ xs.length + 7 ∧ i = .int .i64 ((8 * j : Nat) : Int) ∧ wr.ownsRow (w.heap.size + 1) 5 1 v j (byteCells (bytesOf (asBits xs) j)) ∧ wr.heap[w.heap.size]? = some (.cells #[.string ⟨#[]⟩, .int .i64 0] 28 (0, 0)) ∧ Below w.heap.size w wr) (fun _ i _ => xs.length + 8 - (intOf i).toNat)
  case atStart => exact ⟨0, by omega, rfl, World.ownsRow_nil _ _ _ _, heap_alloc_new w _, (Below.refl _ _).alloc (Nat.le_refl _) _⟩
  case round =>
    clear c0
    obtain ⟨j, hj, rfl, hown, hbx, hB⟩ := hrel
    by_cases hlt : 8 * j < xs.length
    · have Hown := Lib.hid hown
      have Hbx := Lib.hid hbx
      clear hown hbx
      go_wp2
      go_loop [5, 6] (fun n k => ∃ t : Nat, t ≤ 8 ∧ k = .int .i64 t ∧ n = .int .i64 (B.num (eight (asBits xs) (8 * j) t) : Nat)) (fun _ k => 8 - (intOf k).toNat)
      case atStart => exact ⟨0, by omega, rfl, rfl⟩
      case round =>
        obtain ⟨t, ht, rfl, rfl⟩ := hrel
        have hnum := num_eight_lt (asBits xs) (8 * j) t ht
        have hs := eight_succ (asBits xs) (8 * j) t
        by_cases h8 : t < 8
        · by_cases hin : 8 * j + t < xs.length
          · obtain ⟨g, o, rfl, hg, hc⟩ := (hv.below hB (Nat.le_refl _)).at (8 * j + t) hin
            have hxe : xs[8 * j + t]? = some (xs[8 * j + t]) := List.getElem?_eq_getElem hin
            have hx01 := hx _ (List.getElem_mem hin)
            rw [getD_asBits xs _ _ hxe] at hs
            rw [hxe] at hc
            simp only [Option.getD_some] at hc
            generalize xs[8 * j + t] = x at *
            have hnx : (B.num (eight (asBits xs) (8 * j) (t + 1)) : Int) = 2 * (B.num (eight (asBits xs) (8 * j) t) : Nat) + x := by
              rw [hs, B.num_snoc]; rcases hx01 with rfl | rfl <;> simp
            have Hnx := Lib.hid hnx
            clear hnx hs hxe
            have hx0 : 0 ≤ x := by omega
            have hx1 : x ≤ 1 := by omega
            clear hx01
            go_wp2
            go_round
            case rel => exact ⟨t + 1, by omega, by go_num, by rw [Hnx.out]⟩
            case measure => simp [intOf]; omega
          · rw [getD_asBits_none xs _ (by omega)] at hs
            have hnx : (B.num (eight (asBits xs) (8 * j) (t + 1)) : Int) = 2 * (B.num (eight (asBits xs) (8 * j) t) : Nat) := by
              rw [hs, B.num_snoc]; simp
            have Hnx := Lib.hid hnx
            clear hnx hs
            go_wp2
            go_round
            case rel => exact ⟨t + 1, by omega, by go_num, by rw [Hnx.out]⟩
            case measure => simp [intOf]; omega
        · obtain rfl : t = 8 := by omega
          have Hs := Lib.hid hs
          clear hs
          have hown := Hown.out
          have hwz := lt_of_heap Hbx.out
          have hun : IntKind.u8.wrap (B.num (eight (asBits xs) (8 * j) 8) : Nat) = (((UInt8.ofNat (B.num (eight (asBits xs) (8 * j) 8))).toNat : Nat) : Int) := by
            rw [UInt8.toNat_ofNat_of_lt' hnum]
            simp [IntKind.wrap, IntKind.bits, IntKind.signed]
            omega
          go_wp2_with
            (at_builtin
             refine wpList_append_own _ rfl _ _ 32 rfl (w.heap.size + 1) 5 i0 (.int .u8 0) 1 1 Try.underlying32 hi hz0 hz1 hz2 rfl (by decide) u3 j (byteCells (bytesOf (asBits xs) j)) rfl (hown.alloc _) ⟨wr.heap.size, 0, none⟩ 1 1 [.int .u8 ((UInt8.ofNat (B.num (eight (asBits xs) (8 * j) 8))).toNat : Int)] rfl rfl (cell_one_new _ _ _) (by simp [Value.oneCell']) (by simp only [maxLen]; omega) (by omega) (by simp; omega) ?_
             intro v' w1 hown1 hgrow1 _)
          go_roundw
          case rel =>
            have hvb : ∀ k, u3.ownBlock = some k → w.heap.size < k := fun k hk => (Hown.out.lt k hk).1
            refine ⟨j + 1, by omega, by go_num, ?_, ?_, ?_⟩
            · rw [bytesOf_succ, byteCells_append]; exact hown1
            · exact (hgrow1.block _ (by simp; omega) (fun e => Nat.lt_irrefl _ (hvb _ e.symm))).trans ((Below.heap_alloc wr _ _ hwz).trans Hbx.out)
            · exact (hB.alloc hB.size _).grown hgrow1 (by simp; omega) (fun k hk => Nat.le_of_lt (hvb k hk))
          case measure => simp [intOf]; omega
    · have hcv := convert_own _ hown
      have q0 : wr.cell? ⟨w.heap.size, 0, none⟩ = some (.string ⟨#[]⟩) := cell_of_heap hbx 0
      have q1 : wr.cell? ⟨w.heap.size, 1, none⟩ = some (.int .i64 0) := cell_of_heap hbx 1
      have qf := frozen_of_heap hbx
      have Hown := Lib.hid hown
      have Hbx := Lib.hid hbx
      clear hown hbx
      go_wp2
      have hp : bytesOf (asBits xs) j = B.pack (asBits xs) := bytesOf_pack _ _ (by simp [asBits]; omega)
      have hl : (asBits xs).length = xs.length := by simp [asBits]
      exact bodyPost_ret (v := bitsVal (asBits xs)) (by simp [results, Try.results29, go_sem, q0, q1, bitsVal, hp, hl]) rfl ⟨rfl, (hB.setCell (p := ⟨w.heap.size, 0, none⟩) (Nat.le_refl _) _).setCell (p := ⟨w.heap.size, 1, none⟩) (Nat.le_refl _) _⟩
def rawInts (raw : List Int) (m : Nat) : List Int := (raw.take m).map fun c => pickF c 2
/-- raw numbers, at most so many, as bits -/
def rawBits (raw : List Int) (m : Nat) : List Bool := asBits (rawInts raw m)
theorem rawInts_succ (raw : List Int) (m : Nat) (x : Int) (h : raw[m]? = some x) : rawInts raw (m + 1) = rawInts raw m ++ [pickF x 2] := by
  unfold rawInts
  rw [List.take_add_one, h]
  simp
theorem length_rawInts (raw : List Int) (m : Nat) (h : m ≤ raw.length) : (rawInts raw m).length = m := by simp [rawInts]; omega
theorem rawInts_all (raw : List Int) (m : Nat) (h : raw.length ≤ m) : rawInts raw m = rawInts raw raw.length := by
  unfold rawInts; rw [List.take_of_length_le h, List.take_length]
theorem bin_rawInts (raw : List Int) (m : Nat) : Bin (rawInts raw m) := by
  intro x hx
  simp only [rawInts, List.mem_map] at hx
  obtain ⟨c, _, rfl⟩ := hx
  have := pickF_lt c 2 (by omega)
  omega
theorem own_ints {w : World} {base e : Nat} {v : Value} {xs : List Int} (h : w.ownsRow base e 1 v xs.length (intCells xs)) : IsInts w w.heap.size v xs := Rd.own h

set_option maxHeartbeats 800000 in
theorem lawBits_any (w : World) (v : Value) (raw : List Int) (m : Nat) (hv : IsInts w w.heap.size v raw) (hx : I64s raw) (hm : m ≤ 1000) :
    Calls Try.prog 16 #[v, .int .i64 m] w fun e w' => e = .returned (bitsVal (rawBits raw m)) ∧ Below w.heap.size w w' := by
  obtain ⟨A, cap, rfl, hcap, hmax⟩ := hv.shape
  unfold maxLen at hmax
  obtain ⟨i0, hi, hz0, hz1, hz2⟩ := info_parts int_info
  go_enter Try.func16, Try.ntmps16
  go_wp2
  go_loopw [5, 6] (fun v i wr => ∃ j : Nat, j ≤ raw.length ∧ j ≤ m ∧ i = .int .i64 j ∧ wr.ownsRow (w.heap.size + 1) 3 1 v j (intCells (rawInts raw j)) ∧ wr.heap[w.heap.size]? = some (.cells #[.string ⟨#[]⟩, .int .i64 0] 28 (0, 0)) ∧ Below w.heap.size w wr) (fun _ i _ => m - (intOf i).toNat)
  case atStart => exact ⟨0, by omega, by omega, rfl, World.ownsRow_nil _ _ _ _, heap_alloc_new w _, (Below.refl _ _).alloc (Nat.le_refl _) _⟩
  case round =>
    obtain ⟨j, hj, hj2, rfl, hown, hbx, hB⟩ := hrel
    have Hown := Lib.hid hown
    have Hbx := Lib.hid hbx
    have hwz := lt_of_heap hbx
    clear hown hbx
    by_cases hlt : j < raw.length ∧ j < m
    · obtain ⟨h1, h2⟩ := hlt
      obtain ⟨g, o, rfl, hg, hc⟩ := (hv.below hB (Nat.le_refl _)).at j h1
      have hxe : raw[j]? = some (raw[j]) := List.getElem?_eq_getElem h1
      have hxr := hx _ (List.getElem_mem h1)
      have hs := rawInts_succ raw j _ hxe
      rw [hxe] at hc
      simp only [Option.getD_some] at hc
      generalize raw[j] = x at *
      have Hs := Lib.hid hs
      clear hs hxe
      have hown := Hown.out
      go_wp2_with (first
        | (go_at_call 33
           refine (pick_any x 2 _ hxr.1 hxr.2 (by omega) (by omega)).mono ?_
           rintro e w' ⟨rfl, rfl⟩)
        | (at_builtin
           refine wpList_append_own _ rfl _ _ 22 rfl (w.heap.size + 1) 3 i0 (.int .i64 0) 1 8 Try.underlying22 hi hz0 hz1 hz2 rfl (by decide) u5 j (intCells (rawInts raw j)) rfl (hown.alloc _) ⟨wr.heap.size, 0, none⟩ 1 1 [.int .i64 (pickF x 2)] rfl rfl (cell_one_new _ _ _) (by simp [Value.oneCell']) (by simp only [maxLen]; omega) (by omega) (by simp; omega) ?_
           intro v' w1 hown1 hgrow1 _))
      go_roundw
      case rel =>
        have hvb : ∀ k, u5.ownBlock = some k → w.heap.size < k := fun k hk => (Hown.out.lt k hk).1
        refine ⟨j + 1, by omega, by omega, by go_num, ?_, ?_, ?_⟩
        · rw [Hs.out, intCells_append]; exact hown1
        · exact (hgrow1.block _ (by simp; omega) (fun e => Nat.lt_irrefl _ (hvb _ e.symm))).trans ((Below.heap_alloc wr _ _ hwz).trans Hbx.out)
        · exact (hB.alloc hB.size _).grown hgrow1 (by simp; omega) (fun k hk => Nat.le_of_lt (hvb k hk))
      case measure => simp [intOf]; omega
    · have hall : rawInts raw j = rawInts raw m := by
        by_cases h1 : j < raw.length
        · obtain rfl : j = m := by omega
          rfl
        · obtain rfl : j = raw.length := by omega
          exact (rawInts_all raw m (by omega)).symm
      have hown := Hown.out
      have hl := length_rawInts raw j hj
      have hofm : ∀ W : World, Below wr.heap.size wr W → Calls Try.prog 29 #[u5] W fun e w' => e = .returned (bitsVal (rawBits raw m)) ∧ Below W.heap.size W w' := by
        intro W hW
        unfold rawBits
        rw [← hall]
        have h1 : wr.ownsRow (w.heap.size + 1) 3 1 u5 (rawInts raw j).length (intCells (rawInts raw j)) := by rw [hl]; exact hown
        exact of_any W u5 _ (((own_ints h1).below hW (Nat.le_refl _)).mono hW.size) (bin_rawInts raw j) (by rw [hl]; omega)
      have Hof := Lib.hid hofm
      clear hofm hall hl hown
      go_wp2_with fail
      all_goals
        refine (Hof.out _ (Below.refl _ _)).mono ?_
        rintro e w1 ⟨rfl, hB1⟩
        have hb1 := (hB1.block _ hwz).trans Hbx.out
        have q0 : w1.cell? ⟨w.heap.size, 0, none⟩ = some (.string ⟨#[]⟩) := cell_of_heap hb1 0
        have q1 : w1.cell? ⟨w.heap.size, 1, none⟩ = some (.int .i64 0) := cell_of_heap hb1 1
        have qf := frozen_of_heap hb1
        have hBw := hB.trans (hB1.mono (by omega))
        clear hb1
        simp only [bitsVal]
        go_wp2
        exact bodyPost_ret (v := bitsVal (rawBits raw m)) (by simp [results, Try.results16, go_sem, q0, q1, bitsVal]) rfl ⟨rfl, (hBw.setCell (p := ⟨w.heap.size, 0, none⟩) (Nat.le_refl _) _).setCell (p := ⟨w.heap.size, 1, none⟩) (Nat.le_refl _) _⟩
end Go.Proofs.Ytpccdohhiojlkaa
