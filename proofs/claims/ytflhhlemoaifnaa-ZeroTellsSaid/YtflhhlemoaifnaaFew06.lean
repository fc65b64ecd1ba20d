/- The law's own: pick, few. -/
import Derived.Test.YtflhhlemoaifnaaKit
namespace Go.Proofs.Ytflhhlemoaifnaa
open Go.RowKit
set_option linter.unusedVariables false

set_option maxHeartbeats 400000 in
theorem pick06_any (c n : Int) (w : World) (hc : -9223372036854775808 ≤ c) (hc' : c ≤ 9223372036854775807) (hn : 0 < n) (hn' : n ≤ 9223372036854775807) :
    Calls Try.prog 18 #[.int .i64 c, .int .i64 n] w fun e w' => e = .returned (.int .i64 (pickF c n)) ∧ w = w' := by
  by_cases h : c < 0
  · have e : pickF c n = (-(c + 1)) % n := by unfold pickF; rw [if_pos h]
    rw [e]; clear e
    go_enter Try.func18, Try.ntmps18
    go_wp2
    go_ret
    exact ⟨ret_int (by rw [← Int.neg_tmod]; exact Int.tmod_eq_emod_of_nonneg (by omega)), rfl⟩
  · have e : pickF c n = c % n := by unfold pickF; rw [if_neg h]
    rw [e]; clear e
    go_enter Try.func18, Try.ntmps18
    go_wp2
    go_ret
    exact ⟨rfl, rfl⟩
/-- what few tells -/
def fewF (raw : List Int) (most : Nat) (below : Int) : List Int := (raw.take most).map fun c => if pickF c (2 * below) - below < 0 then 0 else pickF c (2 * below) - below
theorem fewF_len (raw : List Int) (most : Nat) (below : Int) : (fewF raw most below).length ≤ most := by simp [fewF]; omega
theorem fewF_mem {raw : List Int} {most : Nat} {below : Int} (hb : 0 < below) : ∀ x ∈ fewF raw most below, 0 ≤ x ∧ x < below := by
  intro x hx
  simp only [fewF, List.mem_map] at hx
  obtain ⟨c, _, rfl⟩ := hx
  have := pickF_lt c (2 * below) (by omega)
  split <;> omega
set_option maxHeartbeats 1000000 in
theorem few06_any (w : World) (v : Value) (raw : List Int) (most : Nat) (below : Int) (hv : IsInts w w.heap.size v raw) (hr : I64s raw) (hm : most ≤ 1000000) (hb : 0 < below) (hb' : below ≤ 1000000) :
    Calls Try.prog 13 #[v, .int .i64 (most : Nat), .int .i64 below] w fun e w' => ∃ u, e = .returned u ∧ OwnInts w' w.heap.size u (fewF raw most below) ∧ Below w.heap.size w w' := by
  obtain ⟨A, ca, rfl, hc1, hc2⟩ := hv.shape
  obtain ⟨N, hN⟩ : ∃ N, raw.length = N := ⟨_, rfl⟩
  rw [hN] at hv hc1 ⊢
  have HN := Lib.hid hN
  have Hv := Lib.hid hv
  have Hr := Lib.hid hr
  clear hv hr hN
  go_enter Try.func13, Try.ntmps13
  go_wp2
  go_loopw [7, 8] (fun ov iv wr => ∃ i : Nat, i ≤ N ∧ i ≤ most ∧ iv = .int .i64 i ∧ OwnInts wr w.heap.size ov (fewF raw i below) ∧ Below w.heap.size w wr) (fun _ iv _ => N + 1 - (intOf iv).toNat)
  case atStart => exact ⟨0, Nat.zero_le _, Nat.zero_le _, rfl, OwnInts.nil _ _, Below.refl _ _⟩
  case round =>
    obtain ⟨i, hi, him, rfl, hown, hB⟩ := hrel
    have Hown := Lib.hid hown
    have hzB := hB.size
    have hfl := fewF_len raw i below
    clear hown
    by_cases hlt : i < N
    · by_cases hlm : i < most
      · obtain ⟨g, o, rfl, hg, hc⟩ := Hv.out.at i (by rw [HN.out]; exact hlt)
        obtain ⟨x, hx⟩ : ∃ x, raw[i]? = some x := ⟨_, List.getElem?_eq_getElem (by rw [HN.out]; exact hlt)⟩
        rw [hx] at hc
        simp only [Option.getD_some] at hc
        have hc' : wr.cell? ⟨g, o + i, none⟩ = some (.int .i64 x) := (hB.cell (p := ⟨g, o + i, none⟩) hg).trans hc
        have hxb := Hr.out x (List.mem_of_getElem? hx)
        have hp := pickF_lt x (2 * below) (by omega)
        have hsnoc : Hid (fewF raw (i + 1) below = fewF raw i below ++ [if pickF x (2 * below) - below < 0 then 0 else pickF x (2 * below) - below]) := by
          show _ = _
          unfold fewF
          rw [List.take_add_one, hx, List.map_append]; rfl
        obtain ⟨p, hpe⟩ : ∃ p, pickF x (2 * below) = p := ⟨_, rfl⟩
        rw [hpe] at hp hsnoc
        have CP : Hid (∀ W, Calls Try.prog 18 #[.int .i64 x, .int .i64 (2 * below)] W fun e w' => e = .returned (.int .i64 p) ∧ W = w') := fun W => by
          have := pick06_any x (2 * below) W (by omega) (by omega) (by omega) (by omega)
          rw [hpe] at this; exact this
        clear hc hx hpe hxb
        go_wp2_with fail
        refine (CP.out _).mono ?_
        rintro e w1 ⟨rfl, rfl⟩
        by_cases hneg : p - below < 0
        · rw [if_pos hneg] at hsnoc
          go_wp2_with
            (at_builtin
             refine wpList_append_ints rfl _ _ rfl w.heap.size _ (fewF raw i below) rfl (Hown.out.alloc _) (wr.heap.size + 1) _ [0] rfl (IsInts.new wr [0] _ _ _ rfl rfl rfl (by simp [maxLen])) (by simp; omega) (by simp; omega) ?_
             intro q' c' w1 hown1 hg1 hat1
             have Hown1 := Lib.hid hown1
             have hB1 : Below w.heap.size w w1 := (hB.alloc (by omega) _).grown hg1 (by simp; omega) (fun k hk => by have := own_ge Hown.out hk; omega)
             clear hg1 hat1 hown1)
          go_roundw
          case rel => exact ⟨i + 1, by omega, by omega, by go_num, by rw [hsnoc.out]; exact Hown1.out, hB1⟩
          case measure => simp [intOf]; omega
        · rw [if_neg hneg] at hsnoc
          go_wp2_with
            (at_builtin
             refine wpList_append_ints rfl _ _ rfl w.heap.size _ (fewF raw i below) rfl (Hown.out.alloc _) (wr.heap.size + 1) _ [p - below] rfl (IsInts.new wr [p - below] _ _ _ rfl rfl rfl (by simp [maxLen])) (by simp; omega) (by simp; omega) ?_
             intro q' c' w1 hown1 hg1 hat1
             have Hown1 := Lib.hid hown1
             have hB1 : Below w.heap.size w w1 := (hB.alloc (by omega) _).grown hg1 (by simp; omega) (fun k hk => by have := own_ge Hown.out hk; omega)
             clear hg1 hat1 hown1)
          go_roundw
          case rel => exact ⟨i + 1, by omega, by omega, by go_num, by rw [hsnoc.out]; exact Hown1.out, hB1⟩
          case measure => simp [intOf]; omega
      · obtain rfl : i = most := by omega
        go_wp2
        go_ret
        exact ⟨_, rfl, Hown.out, hB⟩
    · have he : Hid (fewF raw most below = fewF raw i below) := by
        show _ = _
        unfold fewF
        rw [List.take_of_length_le (by have := HN.out; omega), List.take_of_length_le (by have := HN.out; omega)]
      go_wp2
      go_ret
      exact ⟨_, rfl, by rw [he.out]; exact Hown.out, hB⟩
end Go.Proofs.Ytflhhlemoaifnaa
