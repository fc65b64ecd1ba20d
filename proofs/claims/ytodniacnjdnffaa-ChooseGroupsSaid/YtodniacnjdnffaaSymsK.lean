/- Symbols of layer 8's law. -/
import Derived.Test.YtodniacnjdnffaaPick08
namespace Go.Proofs.Ytodniacnjdnffaa
open Go.RowKit
set_option linter.unusedVariables false

theorem ints_snoc (l : List Nat) (m : Nat) : ints (l ++ [m]) = ints l ++ [(m : Int)] := by simp [ints]
/-- symbols of raw numbers -/
def symsF (raw : List Int) (n : Nat) (i : Nat) : List Nat := (raw.take i).map fun c => (pickF c n).toNat
theorem symsF_lt (raw : List Int) (n i : Nat) (hn : 0 < n) : ∀ x ∈ symsF raw n i, x < n := by
  intro x hx
  simp only [symsF, List.mem_map] at hx
  obtain ⟨c, _, rfl⟩ := hx
  have := pickF_lt c n (by omega)
  omega
theorem symsF_len (raw : List Int) (n i : Nat) : (symsF raw n i).length ≤ i := by simp [symsF]; omega
theorem symsF_snoc (raw : List Int) (n i : Nat) (x : Int) (hx : raw[i]? = some x) : symsF raw n (i + 1) = symsF raw n i ++ [(pickF x n).toNat] := by
  unfold symsF
  rw [List.take_add_one, hx, List.map_append]
  rfl
set_option maxRecDepth 100000 in
set_option maxHeartbeats 1600000 in
theorem syms_any (w : World) (v : Value) (raw : List Int) (n m : Nat) (hv : IsInts w w.heap.size v raw) (hr : I64s raw) (hn : 0 < n) (hn' : n ≤ 1000000) (hm : m ≤ 1000000) :
    Calls Try.prog 9 #[v, .int .i64 (n : Nat), .int .i64 (m : Nat)] w fun e w' => ∃ u, e = .returned u ∧ OwnInts w' w.heap.size u (ints (symsF raw n m)) ∧ Below w.heap.size w w' := by
  obtain ⟨A, ca, rfl, hc1, hc2⟩ := hv.shape
  obtain ⟨N, hN⟩ : ∃ N, raw.length = N := ⟨_, rfl⟩
  rw [hN] at hv hc1 ⊢
  have HN := Lib.hid hN
  have Hv := Lib.hid hv
  have Hr := Lib.hid hr
  clear hv hr hN
  go_enter Try.func9, Try.ntmps9
  go_wp2
  go_loopw [7, 8] (fun ov iv wr => ∃ i : Nat, i ≤ N ∧ i ≤ m ∧ iv = .int .i64 i ∧ OwnInts wr w.heap.size ov (ints (symsF raw n i)) ∧ Below w.heap.size w wr) (fun _ iv _ => N + 1 - (intOf iv).toNat)
  case atStart => exact ⟨0, Nat.zero_le _, Nat.zero_le _, rfl, OwnInts.nil _ _, Below.refl _ _⟩
  case round =>
    obtain ⟨i, hi, him, rfl, hown, hB⟩ := hrel
    have Hown := Lib.hid hown
    have hzB := hB.size
    have hfl := symsF_len raw n i
    clear hown
    by_cases hlt : i < N
    · by_cases hlm : i < m
      · obtain ⟨g, o, rfl, hg, hc⟩ := Hv.out.at i (by rw [HN.out]; exact hlt)
        obtain ⟨x, hx⟩ : ∃ x, raw[i]? = some x := ⟨_, List.getElem?_eq_getElem (by rw [HN.out]; exact hlt)⟩
        rw [hx] at hc
        simp only [Option.getD_some] at hc
        have hc' : wr.cell? ⟨g, o + i, none⟩ = some (.int .i64 x) := (hB.cell (p := ⟨g, o + i, none⟩) hg).trans hc
        have hxb := Hr.out x (List.mem_of_getElem? hx)
        have hsnoc := Lib.hid (symsF_snoc raw n i x hx)
        have hp := pickF_lt x n (by omega)
        obtain ⟨p, hpe⟩ : ∃ p : Nat, pickF x n = (p : Int) := ⟨(pickF x n).toNat, by omega⟩
        rw [hpe, Int.toNat_natCast] at hsnoc
        have CP : Hid (∀ W, Calls Try.prog 20 #[.int .i64 x, .int .i64 (n : Nat)] W fun e w' => e = .returned (.int .i64 (p : Nat)) ∧ W = w') := fun W => by
          have := pick08_any x n W (by omega) (by omega) (by omega) (by omega)
          rw [hpe] at this; exact this
        clear hc hx hpe hxb hp
        go_wp2_with fail
        refine (CP.out _).mono ?_
        rintro e w1 ⟨rfl, rfl⟩
        go_wp2_with
          (at_builtin
           refine wpList_append_ints rfl _ _ rfl w.heap.size _ (ints (symsF raw n i)) rfl (Hown.out.alloc _) (wr.heap.size + 1) _ [(p : Int)] rfl (IsInts.new wr [(p : Int)] _ _ _ rfl rfl rfl (by simp [maxLen])) (by rw [length_ints]; simp; omega) (by simp; omega) ?_
           intro q' c' w1 hown1 hg1 hat1
           have Hown1 := Lib.hid hown1
           have hB1 : Below w.heap.size w w1 := (hB.alloc (by omega) _).grown hg1 (by simp; omega) (fun k hk => by have := own_ge Hown.out hk; omega)
           clear hg1 hat1 hown1)
        go_roundw
        case rel => exact ⟨i + 1, by omega, by omega, by go_num, by rw [hsnoc.out, ints_snoc]; exact Hown1.out, hB1⟩
        case measure => simp [intOf]; omega
      · obtain rfl : i = m := by omega
        go_wp2
        go_ret
        exact ⟨_, rfl, Hown.out, hB⟩
    · have he : Hid (symsF raw n m = symsF raw n i) := by
        show _ = _
        unfold symsF
        rw [List.take_of_length_le (by have := HN.out; omega), List.take_of_length_le (by have := HN.out; omega)]
      go_wp2
      go_ret
      exact ⟨_, rfl, by rw [he.out]; exact Hown.out, hB⟩
theorem syms_is (W : World) (v : Value) (raw : List Int) (n m : Nat) (h : IsInts W W.heap.size v raw) (hr : I64s raw) (hn : 0 < n) (hn' : n ≤ 1000000) (hm : m ≤ 1000000) : Calls Try.prog 9 #[v, .int .i64 (n : Nat), .int .i64 (m : Nat)] W fun e w' => ∃ q c, e = .returned (.slice q (symsF raw n m).length c) ∧ IsInts w' w'.heap.size (.slice q (symsF raw n m).length c) (ints (symsF raw n m)) ∧ Below W.heap.size W w' := by
  refine (syms_any W v raw n m h hr hn hn' hm).mono ?_
  rintro e w' ⟨u, rfl, ho, hB⟩
  obtain ⟨q, c, rfl⟩ := ho.shape
  rw [length_ints] at ho ⊢
  exact ⟨q, c, rfl, ho.is, hB⟩
end Go.Proofs.Ytodniacnjdnffaa
