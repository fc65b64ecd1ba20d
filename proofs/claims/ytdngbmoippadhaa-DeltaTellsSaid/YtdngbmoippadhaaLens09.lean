/- The law's own: pick, Lens. -/
import Derived.Test.YtdngbmoippadhaaAwake09
import Derived.Test.YtdngbmoippadhaaKit3
namespace Go.Proofs.Ytdngbmoippadhaa
open Go.RowKit
set_option linter.unusedVariables false

set_option maxHeartbeats 400000 in
theorem pick09_any (c n : Int) (w : World) (hc : -9223372036854775808 ≤ c) (hc' : c ≤ 9223372036854775807) (hn : 0 < n) (hn' : n ≤ 9223372036854775807) :
    Calls Try.prog 13 #[.int .i64 c, .int .i64 n] w fun e w' => e = .returned (.int .i64 (pickF c n)) ∧ w = w' := by
  by_cases h : c < 0
  · have e : pickF c n = (-(c + 1)) % n := by unfold pickF; rw [if_pos h]
    rw [e]; clear e
    go_enter Try.func13, Try.ntmps13
    go_wp2
    go_ret
    exact ⟨ret_int (by rw [← Int.neg_tmod]; exact Int.tmod_eq_emod_of_nonneg (by omega)), rfl⟩
  · have e : pickF c n = c % n := by unfold pickF; rw [if_neg h]
    rw [e]; clear e
    go_enter Try.func13, Try.ntmps13
    go_wp2
    go_ret
    exact ⟨rfl, rfl⟩
/-- lengths of raw numbers -/
def rawLens (raw : List Int) (i : Nat) : List Nat := (raw.take i).map fun c => 1 + (pickF c 20).toNat
def lensI (raw : List Int) (i : Nat) : List Nat := rawLens raw i ++ [5, 5].drop i
def lensF (raw : List Int) : List Nat := lensI raw (min raw.length 60)
theorem length_rawLens (raw : List Int) (i : Nat) (h : i ≤ raw.length) : (rawLens raw i).length = i := by simp [rawLens]; omega
theorem rawLens_mem (raw : List Int) (i : Nat) : ∀ n ∈ rawLens raw i, 1 ≤ n ∧ n ≤ 20 := by
  intro n hn
  simp only [rawLens, List.mem_map] at hn
  obtain ⟨c, _, rfl⟩ := hn
  have := pickF_lt c 20 (by omega)
  omega
theorem lensI_mem (raw : List Int) (i : Nat) : ∀ n ∈ lensI raw i, 1 ≤ n ∧ n ≤ 20 := by
  intro n hn
  rcases List.mem_append.1 hn with h | h
  · exact rawLens_mem _ _ n h
  · have := List.mem_of_mem_drop h
    simp at this
    omega
theorem lensI_len (raw : List Int) (i : Nat) (h : i ≤ raw.length) : (lensI raw i).length = max i 2 := by
  unfold lensI
  rw [List.length_append, length_rawLens _ _ h, List.length_drop]
  simp
  omega
theorem lensI_put (raw : List Int) (i : Nat) (x : Int) (hx : raw[i]? = some x) (hi : i < 2) : (lensI raw i).set i (1 + (pickF x 20).toNat) = lensI raw (i + 1) := by
  have hil : i < raw.length := by
    rcases Nat.lt_or_ge i raw.length with h | h
    · exact h
    · rw [List.getElem?_eq_none h] at hx; cases hx
  have hl := length_rawLens raw i (by omega)
  unfold lensI
  have e : rawLens raw (i + 1) = rawLens raw i ++ [1 + (pickF x 20).toNat] := by
    unfold rawLens
    rw [List.take_add_one, hx, List.map_append]
    rfl
  rw [e, List.set_append_right _ _ (by omega), hl, Nat.sub_self, List.append_assoc]
  congr 1
  obtain rfl | rfl : i = 0 ∨ i = 1 := by omega
  · rfl
  · rfl
theorem lensI_more (raw : List Int) (i : Nat) (x : Int) (hx : raw[i]? = some x) (hi : 2 ≤ i) : lensI raw (i + 1) = lensI raw i ++ [1 + (pickF x 20).toNat] := by
  unfold lensI
  rw [List.drop_of_length_le (by simp; omega), List.drop_of_length_le (by simp; omega), List.append_nil, List.append_nil]
  unfold rawLens
  rw [List.take_add_one, hx, List.map_append]
  rfl
theorem ints_set (l : List Nat) (i n : Nat) : (ints l).set i (n : Int) = ints (l.set i n) := by simp [ints, List.map_set]

set_option maxRecDepth 100000 in
set_option maxHeartbeats 1600000 in
theorem lens09_any (w : World) (v : Value) (raw : List Int) (hv : IsInts w w.heap.size v raw) (hr : I64s raw) :
    Calls Try.prog 10 #[v] w fun e w' => ∃ u, e = .returned u ∧ OwnInts w' w.heap.size u (ints (lensF raw)) ∧ Below w.heap.size w w' := by
  obtain ⟨A, ca, rfl, hc1, hc2⟩ := hv.shape
  obtain ⟨N, hN⟩ : ∃ N, raw.length = N := ⟨_, rfl⟩
  rw [hN] at hv hc1 ⊢
  have HN := Lib.hid hN
  have Hv := Lib.hid hv
  have Hr := Lib.hid hr
  have hstart : OwnInts (w.alloc (.cells #[.int .i64 5, .int .i64 5] 3)) w.heap.size (.slice (some ⟨w.heap.size, 0, none⟩) 2 2) (ints (lensI raw 0)) := OwnInts.new w _ [5, 5] _ _ _ rfl rfl rfl (by simp [maxLen]) (Nat.le_refl _)
  have Hstart := Lib.hid hstart
  clear hv hr hN hstart
  go_enter Try.func10, Try.ntmps10
  go_wp2
  go_loopw [3, 4] (fun ov iv wr => ∃ i : Nat, i ≤ N ∧ i ≤ 60 ∧ iv = .int .i64 i ∧ OwnInts wr w.heap.size ov (ints (lensI raw i)) ∧ Below w.heap.size w wr) (fun _ iv _ => N + 1 - (intOf iv).toNat)
  case atStart => exact ⟨0, Nat.zero_le _, Nat.zero_le _, rfl, Hstart.out, (Below.refl _ _).alloc (Nat.le_refl _) _⟩
  case round =>
    obtain ⟨i, hi, him, rfl, hown, hB⟩ := hrel
    have Hown := Lib.hid hown
    have hzB := hB.size
    have hll := lensI_len raw i (by have := HN.out; omega)
    clear hown
    by_cases hlt : i < N
    · by_cases hlm : i < 60
      · obtain ⟨g, o, rfl, hg, hc⟩ := Hv.out.at i (by rw [HN.out]; exact hlt)
        obtain ⟨x, hx⟩ : ∃ x, raw[i]? = some x := ⟨_, List.getElem?_eq_getElem (by rw [HN.out]; exact hlt)⟩
        rw [hx] at hc
        simp only [Option.getD_some] at hc
        have hc' : wr.cell? ⟨g, o + i, none⟩ = some (.int .i64 x) := (hB.cell (p := ⟨g, o + i, none⟩) hg).trans hc
        have hxb := Hr.out x (List.mem_of_getElem? hx)
        have hput := Lib.hid (lensI_put raw i x hx)
        have hmore := Lib.hid (lensI_more raw i x hx)
        have hp := pickF_lt x 20 (by omega)
        obtain ⟨p, hpe⟩ : ∃ p : Nat, pickF x 20 = (p : Int) := ⟨(pickF x 20).toNat, by omega⟩
        rw [hpe, Int.toNat_natCast] at hput hmore
        have hp20 : p < 20 := by omega
        have CP : Hid (∀ W, Calls Try.prog 13 #[.int .i64 x, .int .i64 20] W fun e w' => e = .returned (.int .i64 p) ∧ W = w') := fun W => by
          have := pick09_any x 20 W (by omega) (by omega) (by omega) (by omega)
          rw [hpe] at this; exact this
        clear hc hx hpe hxb hp
        by_cases h2 : i < 2
        · obtain ⟨b, cap, rfl, hb1, hb2, hb3, hb4, hb5⟩ := Hown.out.place (by rw [length_ints]; omega)
          have hcc := hb3 i (by rw [length_ints]; omega)
          have hff := hb4 i
          have hil : i < (ints (lensI raw i)).length := by rw [length_ints]; omega
          have HB5 := Lib.hid (hb5 i ((1 + p : Nat) : Int))
          clear hb3 hb4 hb5 hll
          go_wp2_with fail
          refine (CP.out _).mono ?_
          rintro e w1 ⟨rfl, rfl⟩
          go_wp2_with fail
          go_roundw
          case rel =>
            refine ⟨i + 1, by omega, by omega, by go_num, ?_, OwnInts.set_below hB hb1 _ _⟩
            have h5 := HB5.out.1
            rw [ints_set, hput.out h2, length_ints] at h5
            rw [length_ints]
            simpa [Int.natCast_add] using h5
          case measure => simp [intOf]; omega
        · go_wp2_with fail
          refine (CP.out _).mono ?_
          rintro e w1 ⟨rfl, rfl⟩
          go_wp2_with
            (at_builtin
             refine wpList_append_ints rfl _ _ rfl w.heap.size _ (ints (lensI raw i)) rfl (Hown.out.alloc _) (wr.heap.size + 1) _ [1 + (p : Int)] rfl (IsInts.new wr [1 + (p : Int)] _ _ _ rfl rfl rfl (by simp [maxLen])) (by rw [length_ints]; simp; omega) (by simp; omega) ?_
             intro q' c' w1 hown1 hg1 hat1
             have Hown1 := Lib.hid hown1
             have hB1 : Below w.heap.size w w1 := (hB.alloc (by omega) _).grown hg1 (by simp; omega) (fun k hk => by have := own_ge Hown.out hk; omega)
             clear hg1 hat1 hown1)
          go_roundw
          case rel => exact ⟨i + 1, by omega, by omega, by go_num, by rw [hmore.out (by omega)]; simpa [ints] using Hown1.out, hB1⟩
          case measure => simp [intOf]; omega
      · obtain rfl : i = 60 := by omega
        have he : Hid (lensF raw = lensI raw 60) := by
          show _ = _
          unfold lensF
          rw [Nat.min_eq_right (by have := HN.out; omega)]
        go_wp2
        go_ret
        exact ⟨_, rfl, by rw [he.out]; exact Hown.out, hB⟩
    · have he : Hid (lensF raw = lensI raw i) := by
        show _ = _
        unfold lensF
        congr 1
        have := HN.out
        omega
      go_wp2
      go_ret
      exact ⟨_, rfl, by rw [he.out]; exact Hown.out, hB⟩
end Go.Proofs.Ytdngbmoippadhaa
