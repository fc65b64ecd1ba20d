/- Weights of layer 10's law: the walk. -/
import Derived.Test.YtegjkhhgihcdcaaAwake10
namespace Go.Proofs.Ytegjkhhgihcdcaa
open Go.RowKit
set_option linter.unusedVariables false

def pW (raw : List Int) (i : Nat) : List Nat := (raw.take i).map fun c => (pickF c 1048577).toNat
/-- weights of raw numbers -/
def wF (raw : List Int) (i : Nat) : List Nat := pW raw i ++ [0, 3].drop (pW raw i).length
theorem length_pW (raw : List Int) (i : Nat) (h : i ≤ raw.length) : (pW raw i).length = i := by simp [pW]; omega
theorem length_wF (raw : List Int) (i : Nat) : (wF raw i).length = max 2 (min i raw.length) := by
  simp [wF, pW]
  omega
theorem wF_zero (raw : List Int) : wF raw 0 = [0, 3] := rfl
theorem pW_snoc (raw : List Int) (i : Nat) (x : Int) (h : raw[i]? = some x) : pW raw (i + 1) = pW raw i ++ [(pickF x 1048577).toNat] := by
  unfold pW
  rw [List.take_add_one, h, List.map_append]
  rfl
theorem wF_set (raw : List Int) (i : Nat) (x : Int) (h : raw[i]? = some x) (hi : i < 2) : (wF raw i).set i (pickF x 1048577).toNat = wF raw (i + 1) := by
  have hl := (List.getElem?_eq_some_iff.1 h).1
  unfold wF
  rw [pW_snoc raw i x h, List.length_append, length_pW raw i (by omega), List.set_append_right _ _ (by rw [length_pW raw i (by omega)]; exact Nat.le_refl _), length_pW raw i (by omega)]
  rcases (show i = 0 ∨ i = 1 by omega) with rfl | rfl <;> simp
theorem wF_snoc (raw : List Int) (i : Nat) (x : Int) (h : raw[i]? = some x) (hi : 2 ≤ i) : wF raw (i + 1) = wF raw i ++ [(pickF x 1048577).toNat] := by
  have hl := (List.getElem?_eq_some_iff.1 h).1
  unfold wF
  rw [pW_snoc raw i x h, List.length_append, length_pW raw i (by omega), List.drop_of_length_le (by simp; omega), List.drop_of_length_le (by simp; omega)]
  simp
theorem wF_all (raw : List Int) (i m : Nat) (h1 : raw.length ≤ i) (h2 : raw.length ≤ m) : wF raw i = wF raw m := by
  have : pW raw i = pW raw m := by unfold pW; rw [List.take_of_length_le h1, List.take_of_length_le h2]
  unfold wF
  rw [this]
theorem wF_le (raw : List Int) (i : Nat) : ∀ x ∈ wF raw i, x ≤ 1048576 := by
  intro x hx
  unfold wF at hx
  rcases List.mem_append.1 hx with hx | hx
  · simp only [pW, List.mem_map] at hx
    obtain ⟨c, _, rfl⟩ := hx
    have := pickF_lt c 1048577 (by omega)
    omega
  · have := List.mem_of_mem_drop hx
    simp at this
    omega
theorem wF_two (raw : List Int) (i : Nat) : 2 ≤ (wF raw i).length := by rw [length_wF]; omega

set_option maxRecDepth 100000 in
set_option maxHeartbeats 3200000 in
theorem weights_any (w : World) (v : Value) (raw : List Int) (m : Nat) (hv : IsInts w w.heap.size v raw) (hr : I64s raw) (hm : m ≤ 1000000) :
    Calls Try.prog 10 #[v, .int .i64 (m : Nat)] w fun e w' => ∃ q c, e = .returned (.slice q (wF raw m).length c) ∧ OwnInts w' w.heap.size (.slice q (wF raw m).length c) (ints (wF raw m)) ∧ Below w.heap.size w w' := by
  obtain ⟨A, ca, rfl, hc1, hc2⟩ := hv.shape
  obtain ⟨N, hN⟩ : ∃ N, raw.length = N := ⟨_, rfl⟩
  rw [hN] at hv hc1 ⊢
  have HN := Lib.hid hN
  have Hv := Lib.hid hv
  have Hr := Lib.hid hr
  have hstart : OwnInts (w.alloc (.cells #[.int .i64 0, .int .i64 3] 3)) w.heap.size (.slice (some ⟨w.heap.size, 0, none⟩) 2 2) (ints [0, 3]) := OwnInts.new w _ [0, 3] _ _ _ rfl rfl rfl (by simp [maxLen]) (Nat.le_refl _)
  have Hstart := Lib.hid hstart
  clear hv hr hN hstart
  go_enter Try.func10, Try.ntmps10
  go_wp2
  go_loopw [5, 6] (fun ov iv wr => ∃ (i L : Nat) (q : Option Addr) (c : Nat), i ≤ N ∧ i ≤ m ∧ iv = .int .i64 i ∧ ov = .slice q L c ∧ Hid ((wF raw i).length = L) ∧ Hid (OwnInts wr w.heap.size (.slice q L c) (ints (wF raw i))) ∧ Hid (Below w.heap.size w wr)) (fun _ iv _ => N + 1 - (intOf iv).toNat)
  case atStart => exact ⟨0, 2, _, _, Nat.zero_le _, Nat.zero_le _, rfl, rfl, rfl, Hstart, (Below.refl _ _).alloc (Nat.le_refl _) _⟩
  case round =>
    obtain ⟨i, L, q, c, hi, him, rfl, rfl, HL, Hown, HB⟩ := hrel
    have hzB := HB.out.size
    have hL2 : L = max 2 (min i N) := by rw [← HL.out, length_wF, HN.out]
    clear Hstart
    by_cases hlt : i < N
    · by_cases hlm : i < m
      · obtain ⟨g, o, rfl, hg, hc⟩ := Hv.out.at i (by rw [HN.out]; exact hlt)
        obtain ⟨x, hx⟩ : ∃ x, raw[i]? = some x := ⟨_, List.getElem?_eq_getElem (by rw [HN.out]; exact hlt)⟩
        rw [hx] at hc
        simp only [Option.getD_some] at hc
        have hc' : wr.cell? ⟨g, o + i, none⟩ = some (.int .i64 x) := (HB.out.cell (p := ⟨g, o + i, none⟩) hg).trans hc
        have hxb := Hr.out x (List.mem_of_getElem? hx)
        have hp := pickF_lt x 1048577 (by omega)
        obtain ⟨p, hpe⟩ : ∃ p : Nat, pickF x 1048577 = (p : Int) := ⟨(pickF x 1048577).toNat, by omega⟩
        have CP : Hid (∀ W, Calls Try.prog 11 #[.int .i64 x, .int .i64 1048577] W fun e w' => e = .returned (.int .i64 (p : Nat)) ∧ W = w') := fun W => by
          have := pick10_any x 1048577 W (by omega) (by omega) (by omega) (by omega)
          rw [hpe] at this; exact this
        by_cases h2 : i < 2
        · have hset := wF_set raw i x hx h2
          rw [hpe, Int.toNat_natCast] at hset
          obtain rfl : L = 2 := by omega
          obtain ⟨b, cap, he, -⟩ := Hown.out.place (by rw [length_ints, HL.out]; omega)
          rw [length_ints, HL.out] at he
          injection he with e1 e2 e3
          subst e1 e3
          obtain ⟨m1, m2, m3, m4, m5⟩ := Hown.out.mine (by rw [length_ints, HL.out]) (by omega)
          obtain ⟨y, hy⟩ : ∃ y, (ints (wF raw i))[i]? = some y := ⟨_, List.getElem?_eq_getElem (by rw [length_ints, HL.out]; exact h2)⟩
          have hcc := m1 i y hy
          have hff := m2 i
          have HO2 : Hid (OwnInts (wr.setCell ⟨b, i, none⟩ (.int .i64 (p : Nat))) w.heap.size (.slice (some ⟨b, 0, none⟩) 2 c) (ints (wF raw (i + 1)))) := by
            have := m3 i (p : Nat)
            rw [ints_set, hset] at this
            exact this
          have HB2 : Hid (Below w.heap.size w (wr.setCell ⟨b, i, none⟩ (.int .i64 (p : Nat)))) := HB.out.setCell (p := ⟨b, i, none⟩) m4 _
          have HL2 : Hid ((wF raw (i + 1)).length = 2) := by
            show _ = _
            rw [← hset, List.length_set, HL.out]
          clear hc hx hpe hxb hp m1 m2 m3 hy hset hL2
          go_wp2_with fail
          refine (CP.out _).mono ?_
          rintro e w1 ⟨rfl, rfl⟩
          go_wp2_with fail
          go_roundw
          case rel => exact ⟨i + 1, 2, _, _, by omega, by omega, by go_num, rfl, HL2, HO2, HB2⟩
          case measure => simp [intOf]; omega
        · have hsn := wF_snoc raw i x hx (by omega)
          rw [hpe, Int.toNat_natCast] at hsn
          obtain rfl : L = i := by omega
          have Hsn := Lib.hid hsn
          clear hc hx hpe hxb hp hsn hL2
          go_wp2_with fail
          refine (CP.out _).mono ?_
          rintro e w1 ⟨rfl, rfl⟩
          go_wp2_with
            (at_builtin
             refine wpList_append_ints rfl _ _ rfl w.heap.size _ (ints (wF raw L)) rfl (Hown.out.alloc _) (wr.heap.size + 1) _ [(p : Int)] rfl (IsInts.new wr [(p : Int)] _ _ _ rfl rfl rfl (by simp [maxLen])) (by rw [length_ints, HL.out]; simp; omega) (by simp; omega) ?_
             intro q' c' w1 hown1 hg1 hat1
             rw [show (ints (wF raw L)).length + [(p : Int)].length = L + 1 by rw [length_ints, HL.out]; rfl] at hown1 ⊢
             rw [show ints (wF raw L) ++ [(p : Int)] = ints (wF raw (L + 1)) by rw [Hsn.out]; simp [ints]] at hown1
             have Hown1 := Lib.hid hown1
             have HB1 : Hid (Below w.heap.size w w1) := bel_grown hg1 (HB.out.alloc (by omega) _) (fun k hk => own_ge Hown.out hk)
             clear hg1 hat1 hown1)
          have HL2 : Hid ((wF raw (L + 1)).length = L + 1) := by
            show _ = _
            rw [Hsn.out, List.length_append, HL.out]; rfl
          go_roundw
          case rel => exact ⟨L + 1, L + 1, _, _, by omega, by omega, by go_num, rfl, HL2, Hown1, HB1⟩
          case measure => simp [intOf]; omega
      · obtain rfl : i = m := by omega
        go_wp2_with fail
        go_ret
        exact ⟨q, c, by rw [HL.out]; rfl, by rw [HL.out]; exact Hown.out, HB.out⟩
    · have he : Hid (wF raw m = wF raw i) := wF_all raw m i (by rw [HN.out]; omega) (by rw [HN.out]; omega)
      go_wp2_with fail
      go_ret
      exact ⟨q, c, by rw [he.out, HL.out]; rfl, by rw [he.out, HL.out]; exact Hown.out, HB.out⟩
theorem weights_is (W : World) (v : Value) (raw : List Int) (m : Nat) (hv : IsInts W W.heap.size v raw) (hr : I64s raw) (hm : m ≤ 1000000) :
    Calls Try.prog 10 #[v, .int .i64 (m : Nat)] W fun e w' => ∃ q c, e = .returned (.slice q (wF raw m).length c) ∧ IsInts w' w'.heap.size (.slice q (wF raw m).length c) (ints (wF raw m)) ∧ Below W.heap.size W w' := by
  refine (weights_any W v raw m hv hr hm).mono ?_
  rintro e w' ⟨q, c, rfl, ho, hB⟩
  exact ⟨q, c, rfl, ho.is, hB⟩
end Go.Proofs.Ytegjkhhgihcdcaa
