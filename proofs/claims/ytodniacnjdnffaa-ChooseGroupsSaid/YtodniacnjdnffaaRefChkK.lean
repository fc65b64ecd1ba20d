/- Check of the document's answer: the walk. -/
import Derived.Test.YtodniacnjdnffaaKraft
namespace Go.Proofs.Ytodniacnjdnffaa
open Go.RowKit
set_option linter.unusedVariables false

theorem kraft_snoc (l : List Nat) (x : Nat) : kraft (l ++ [x]) = kraft l + 2 ^ (20 - x) := by rw [kraft_append, kraft_cons, kraft_nil]; omega
theorem kraft_le (l : List Nat) : kraft l ≤ 1048576 * l.length := by
  induction l with
  | nil => exact Nat.le_refl _
  | cons x l ih =>
    rw [kraft_cons, List.length_cons]
    have h1 : 2 ^ (20 - x) ≤ 2 ^ 20 := Nat.pow_le_pow_right (by omega) (by omega)
    have h2 : (2 : Nat) ^ 20 = 1048576 := by decide
    omega
theorem wrap_sum (K P : Nat) (hK : K ≤ 1099511627776) (hP : P ≤ 1099511627776) : wrap64 ((K : Int) + wrap64 ((P : Nat) : Int)) = ((K + P : Nat) : Int) := by unfold wrap64; omega
set_option maxRecDepth 100000 in
set_option maxHeartbeats 1600000 in
theorem rcheck_any (w : World) (v : Value) (l : List Int) (hv : IsInts w w.heap.size v l) (hl : l.length ≤ 1000000) :
    Calls Try.prog 29 #[v] w fun e w' => e = .returned (.int .i64 (checkF l)) ∧ w = w' := by
  obtain ⟨A, ca, rfl, hc1, hc2⟩ := hv.shape
  obtain ⟨N, hN⟩ : ∃ N, l.length = N := ⟨_, rfl⟩
  rw [hN] at hv hc1 hl ⊢
  have HN := Lib.hid hN
  have Hv := Lib.hid hv
  by_cases hsm : 2 ≤ N ∧ N ≤ 258
  · clear hv hN
    obtain ⟨hs1, hs2⟩ := hsm
    go_enter Try.func29, Try.ntmps29
    go_wp2
    go_loopw [3] (fun iv wr => w = wr ∧ ∃ i : Nat, i ≤ N ∧ iv = .int .i64 i ∧ ∀ x ∈ l.take i, 1 ≤ x ∧ x ≤ 20) (fun iv _ => N + 1 - (intOf iv).toNat)
    case atStart => exact ⟨rfl, 0, Nat.zero_le _, rfl, fun x hx => by simp at hx⟩
    case round =>
      obtain ⟨rfl, i, hi, rfl, hg⟩ := hrel
      have Hg := Lib.hid hg
      clear hg
      by_cases hlt : i < N
      · obtain ⟨g, o, rfl, hgb, hc⟩ := Hv.out.at i (by rw [HN.out]; exact hlt)
        obtain ⟨x, hx⟩ : ∃ x, l[i]? = some x := ⟨_, List.getElem?_eq_getElem (by rw [HN.out]; exact hlt)⟩
        rw [hx, Option.getD_some] at hc
        by_cases hx1 : x < 1
        · have hr : Hid (checkF l = 1) := by
            show _ = _
            unfold checkF
            rw [if_pos (.inr (.inr fun h => by have := h x (List.mem_of_getElem? hx); omega))]
          clear hx
          go_wp2
          go_ret
          exact ⟨by rw [hr.out]; rfl, rfl⟩
        · by_cases hx2 : 20 < x
          · have hr : Hid (checkF l = 1) := by
              show _ = _
              unfold checkF
              rw [if_pos (.inr (.inr fun h => by have := h x (List.mem_of_getElem? hx); omega))]
            clear hx
            go_wp2
            go_ret
            exact ⟨by rw [hr.out]; rfl, rfl⟩
          · have Hx := Lib.hid hx
            clear hx
            go_wp2
            go_roundw
            case rel => exact ⟨trivial, i + 1, by omega, by go_num, fun y hy => by
              rw [List.take_add_one, Hx.out, List.mem_append] at hy
              rcases hy with hy | hy
              · exact Hg.out y hy
              · simp at hy; omega⟩
            case measure => simp [intOf]; omega
      · obtain rfl : i = N := by omega
        have hf : FitsI l := by
          have := Hg.out
          rw [← HN.out, List.take_length] at this
          exact this
        have Hf := Lib.hid hf
        clear hf Hg
        go_wp2
        go_loopw [4, 5] (fun av iv wr => w = wr ∧ ∃ k : Nat, k ≤ i ∧ iv = .int .i64 k ∧ av = .int .i64 (kraft ((l.take k).map Int.toNat) : Nat)) (fun _ iv _ => i + 1 - (intOf iv).toNat)
        case atStart => exact ⟨rfl, 0, Nat.zero_le _, rfl, rfl⟩
        case round =>
          obtain ⟨rfl, k, hk, rfl, rfl⟩ := hrel
          have hkl := kraft_le ((l.take k).map Int.toNat)
          have hkn : ((l.take k).map Int.toNat).length ≤ k := by simp; omega
          by_cases hlt : k < i
          · obtain ⟨g, o, rfl, hgb, hc⟩ := Hv.out.at k (by rw [HN.out]; exact hlt)
            obtain ⟨x, hx⟩ : ∃ x, l[k]? = some x := ⟨_, List.getElem?_eq_getElem (by rw [HN.out]; exact hlt)⟩
            rw [hx, Option.getD_some] at hc
            have hxf := Hf.out x (List.mem_of_getElem? hx)
            obtain ⟨y, rfl⟩ : ∃ y : Nat, x = y := ⟨x.toNat, by omega⟩
            have hsn : Hid (kraft ((l.take (k + 1)).map Int.toNat) = kraft ((l.take k).map Int.toNat) + 2 ^ (20 - y)) := by
              show _ = _
              rw [List.take_add_one, hx, List.map_append]
              exact kraft_snoc _ _
            generalize kraft ((l.take k).map Int.toNat) = K at *
            have h1p : 2 ^ (20 - y) ≤ 2 ^ 20 := Nat.pow_le_pow_right (by omega) (by omega)
            have h2p : (2 : Nat) ^ 20 = 1048576 := by decide
            have hw : IntKind.i64.wrap (20 - (y : Int)) = ((20 - y : Nat) : Int) := by rw [IntWalk.i64_in _ (by omega)]; omega
            clear hx
            go_wp2
            go_roundw
            case rel => exact ⟨trivial, k + 1, by omega, by go_num, by
              rw [hsn.out, pow_castK, wrap_sum _ _ (by omega) (by omega)]⟩
            case measure => simp [intOf]; omega
          · obtain rfl : k = i := by omega
            have hr : Hid (checkF l = if 1048576 < kraft ((l.take k).map Int.toNat) then 6 else 0) := by
              show _ = _
              unfold checkF
              rw [if_neg (by have := Hf.out; have := HN.out; simp [*]), ← HN.out, List.take_length]
            generalize kraft ((l.take k).map Int.toNat) = K at *
            by_cases hK : 1048576 < K
            · go_wp2
              go_ret
              exact ⟨by rw [hr.out, if_pos hK]; rfl, rfl⟩
            · go_wp2
              go_ret
              exact ⟨by rw [hr.out, if_neg hK]; rfl, rfl⟩
  · have hr : Hid (checkF l = 1) := by
      show _ = _
      unfold checkF
      rw [if_pos (by rw [hN]; omega)]
    clear hv hN
    go_enter Try.func29, Try.ntmps29
    by_cases h2 : N < 2
    · go_wp2
      go_ret
      exact ⟨by rw [hr.out]; rfl, rfl⟩
    · have h3 : 258 < N := by omega
      go_wp2
      go_ret
      exact ⟨by rw [hr.out]; rfl, rfl⟩
end Go.Proofs.Ytodniacnjdnffaa
