/- The document's own answer for layer 6: Digits, below, Number: contracts. -/
import Derived.Test.YtflhhlemoaifnaaZeroDec
import Derived.Test.YtflhhlemoaifnaaZeroPlain2
namespace Go.Proofs.Ytflhhlemoaifnaa
open Go.RowKit
set_option linter.unusedVariables false

set_option maxHeartbeats 400000 in
theorem refDigits_any (n : Int) (w : World) (hn : -9223372036854775808 ≤ n) (hn' : n ≤ 9223372036854775807) :
    Calls Try.prog 12 #[.int .i64 n] w fun e w' => ∃ v, e = .returned v ∧ OwnInts w' w.heap.size v (digs n.toNat) ∧ Below w.heap.size w w' := by
  go_enter Try.func12, Try.ntmps12
  go_wp2
  go_loopw [3, 4] (fun ov nv wr => ∃ (z : Int) (done : List Int), z ≤ n ∧ nv = .int .i64 z ∧ OwnInts wr w.heap.size ov done ∧ Hid (done ++ digs z.toNat = digs n.toNat) ∧ Below w.heap.size w wr) (fun _ nv _ => (intOf nv).toNat)
  case atStart => exact ⟨n, [], Int.le_refl _, rfl, OwnInts.nil _ _, List.nil_append _, Below.refl _ _⟩
  case round =>
    obtain ⟨z, done, hz, rfl, hown, heq, hB⟩ := hrel
    have hzB := hB.size
    have hdl : done.length ≤ 64 := by
      have h1 := length_digs_64 n.toNat (by omega)
      rw [← heq.out, List.length_append] at h1
      omega
    have Hown := Lib.hid hown
    clear hown
    by_cases hpos : 0 < z
    · obtain ⟨m, rfl⟩ := Int.eq_ofNat_of_zero_le (show 0 ≤ z by omega)
      have heq2 : Hid ((done ++ [1 - (m : Int) % 2]) ++ digs (((m : Int) - 1) / 2).toNat = digs n.toNat) := by
        show _ = _
        rw [← heq.out, Int.toNat_natCast, digs_pos (n := m) (by omega), show (((m : Int) - 1) / 2).toNat = (m - 1) / 2 by omega, show (((m - 1) % 2 : Nat) : Int) = 1 - (m : Int) % 2 by omega]
        simp
      clear heq
      go_wp2_with
        (at_builtin
         refine wpList_append_ints rfl _ _ rfl w.heap.size _ done rfl (Hown.out.alloc _) (wr.heap.size + 1) _ [1 - (m : Int) % 2] rfl (IsInts.new wr _ _ _ _ rfl rfl rfl (by simp [maxLen])) (by simp; omega) (by simp; omega) ?_
         intro q' c' w1 hown1 hg1 hat1
         have Hown1 := Lib.hid hown1
         have hB1 : Below w.heap.size w w1 := (hB.alloc (by omega) _).grown hg1 (by simp; omega) (fun k hk => by have := own_ge Hown.out hk; omega)
         clear hg1 hat1 hown1)
      go_roundw
      case rel => exact ⟨((m : Int) - 1) / 2, done ++ [1 - (m : Int) % 2], by omega, rfl, Hown1.out, heq2, hB1⟩
      case measure => simp [intOf]; omega
    · go_wp2
      go_ret
      refine ⟨_, rfl, ?_, hB⟩
      have := heq.out
      rw [show z.toNat = 0 by omega, digs_zero, List.append_nil] at this
      rw [← this]
      exact Hown.out

theorem any_of_at {p : Int → Bool} {xs : List Int} {i : Nat} {x : Int} (hi : xs[i]? = some x) (hp : p x = true) : xs.any p = true := List.any_eq_true.2 ⟨x, List.mem_of_getElem? hi, hp⟩
theorem any_none {p : Int → Bool} {xs : List Int} (h : ∀ (j : Nat) y, xs[j]? = some y → p y = false) : xs.any p = false := by
  rw [List.any_eq_false]
  intro x hx
  obtain ⟨j, hj⟩ := List.getElem?_of_mem hx
  simp [h j x hj]

set_option maxHeartbeats 400000 in
theorem refBelow_any (w : World) (v : Value) (xs : List Int) (hv : IsInts w w.heap.size v xs) (hlen : xs.length ≤ 281474976710656) :
    Calls Try.prog 26 #[v] w fun e w' => e = .returned (.bool (negF xs)) ∧ w = w' := by
  obtain ⟨A, ca, rfl, hc1, hc2⟩ := hv.shape
  obtain ⟨N, hN⟩ : ∃ N, xs.length = N := ⟨_, rfl⟩
  rw [hN] at hv hc1 hlen ⊢
  have HN := Lib.hid hN
  have Hv := Lib.hid hv
  clear hv hN
  go_enter Try.func26, Try.ntmps26
  go_wp2
  go_loop [3] (fun iv => ∃ i : Nat, i ≤ N ∧ iv = .int .i64 i ∧ Hid (∀ (j : Nat) y, j < i → xs[j]? = some y → decide (y < 0) = false)) (fun iv => N + 1 - (intOf iv).toNat)
  case atStart => exact ⟨0, Nat.zero_le _, rfl, fun j y h => by omega⟩
  case round =>
    obtain ⟨i, hi, rfl, hall⟩ := hrel
    by_cases hlt : i < N
    · obtain ⟨g, o, rfl, hg, hc⟩ := Hv.out.at i (by rw [HN.out]; exact hlt)
      obtain ⟨x, hx⟩ : ∃ x, xs[i]? = some x := ⟨_, List.getElem?_eq_getElem (by rw [HN.out]; exact hlt)⟩
      rw [hx] at hc
      simp only [Option.getD_some] at hc
      have Hx := Lib.hid hx
      clear hx
      by_cases hneg : x < 0
      · go_wp2
        go_ret
        exact ⟨ret_bool (any_of_at (p := fun x => decide (x < 0)) Hx.out (by simpa using hneg)).symm, rfl⟩
      · go_wp2
        go_round
        case rel => exact ⟨i + 1, by omega, by go_num, fun j y hj hy => (by
          by_cases e : j = i
          · subst e; rw [Hx.out] at hy; injection hy with hy; subst hy; simpa using hneg
          · exact hall.out j y (by omega) hy)⟩
        case measure => simp [intOf]; omega
    · obtain rfl : i = N := by omega
      go_wp2
      go_ret
      exact ⟨ret_bool (any_none (p := fun x => decide (x < 0)) fun j y hy => hall.out j y (by rw [← HN.out]; exact (List.getElem?_eq_some_iff.1 hy).1) hy).symm, rfl⟩

/-- the number that the first k digits are -/
theorem numD_take_drop (d : List Int) (i : Nat) (x : Int) (hx : d[i]? = some x) (n p : Nat) (h : n + p * numD (d.drop i) = numD d) : (n + p * (x.toNat + 1)) + (2 * p) * numD (d.drop (i + 1)) = numD d := by
  have hl := (List.getElem?_eq_some_iff.1 hx).1
  have hxe := (List.getElem?_eq_some_iff.1 hx).2
  rw [List.drop_eq_getElem_cons hl, numD_cons, hxe] at h
  rw [← h]
  generalize numD (d.drop (i + 1)) = q
  generalize x.toNat = y
  rw [Nat.mul_add, Nat.mul_add, Nat.mul_add, Nat.mul_left_comm, ← Nat.mul_assoc 2 p q]
  omega

set_option maxHeartbeats 1000000 in
theorem refNumber_any (w : World) (v : Value) (xs : List Int) (hv : IsInts w w.heap.size v xs) (hlen : xs.length ≤ 281474976710656) :
    Calls Try.prog 17 #[v] w fun e w' => e = .returned (.tuple #[.int .i64 (numV xs), .int .i64 (numE xs)]) ∧ w = w' := by
  obtain ⟨A, ca, rfl, hc1, hc2⟩ := hv.shape
  obtain ⟨N, hN⟩ : ∃ N, xs.length = N := ⟨_, rfl⟩
  rw [hN] at hv hc1 hlen ⊢
  have HN := Lib.hid hN
  have Hv := Lib.hid hv
  clear hv hN
  go_enter Try.func17, Try.ntmps17
  go_wp2
  go_loop [4] (fun iv => ∃ i : Nat, i ≤ N ∧ iv = .int .i64 i ∧ Hid (∀ (j : Nat) y, j < i → xs[j]? = some y → (y = 0 ∨ y = 1))) (fun iv => N + 1 - (intOf iv).toNat)
  case atStart => exact ⟨0, Nat.zero_le _, rfl, fun j y h => by omega⟩
  case round =>
    obtain ⟨i, hi, rfl, hall⟩ := hrel
    by_cases hlt : i < N
    · obtain ⟨g, o, rfl, hg, hc⟩ := Hv.out.at i (by rw [HN.out]; exact hlt)
      obtain ⟨x, hx⟩ : ∃ x, xs[i]? = some x := ⟨_, List.getElem?_eq_getElem (by rw [HN.out]; exact hlt)⟩
      rw [hx] at hc
      simp only [Option.getD_some] at hc
      have Hx := Lib.hid hx
      clear hx
      have hround : (x = 0 ∨ x = 1) → Hid (∀ (j : Nat) y, j < i + 1 → xs[j]? = some y → (y = 0 ∨ y = 1)) := fun hx01 j y hj hy => by
        by_cases e : j = i
        · subst e; rw [Hx.out] at hy; injection hy with hy; subst hy; exact hx01
        · exact hall.out j y (by omega) hy
      have HRd := Lib.hid hround
      clear hround hall
      by_cases h0 : x = 0
      · subst h0
        go_wp2
        go_round
        case rel => exact ⟨i + 1, by omega, by go_num, HRd.out (.inl rfl)⟩
        case measure => simp [intOf]; omega
      · by_cases h1 : x = 1
        · subst h1
          go_wp2
          go_round
          case rel => exact ⟨i + 1, by omega, by go_num, HRd.out (.inr rfl)⟩
          case measure => simp [intOf]; omega
        · have n0 : (x != 0) = true := by simpa using h0
          have n1 : (x != 1) = true := by simpa using h1
          have hodd : oddF xs = true := any_of_at (p := fun x => !decide (x = 0) && !decide (x = 1)) Hx.out (by simp [h0, h1])
          have Hodd := Lib.hid hodd
          clear h0 h1 hodd
          go_wp2
          go_ret2
          exact ⟨by rw [numV, numE, Hodd.out]; rfl, rfl⟩
    · obtain rfl : i = N := by omega
      have hdg : Dig xs := fun x hx => by
        obtain ⟨j, hj⟩ := List.getElem?_of_mem hx
        exact hall.out j x (by rw [← HN.out]; exact (List.getElem?_eq_some_iff.1 hj).1) hj
      have hge := numD_ge xs
      rw [HN.out] at hge
      have hE : numE xs = if 1099511627776 < numD xs then 4 else 0 := by rw [numE, oddF_of_dig hdg]; rfl
      have hV : numV xs = if 1099511627776 < numD xs then (0 : Int) else (numD xs : Nat) := by rw [numV, oddF_of_dig hdg]; rfl
      obtain ⟨D, hD⟩ : ∃ D, numD xs = D := ⟨_, rfl⟩
      rw [hD] at hge hE hV
      have HE := Lib.hid hE
      have HV := Lib.hid hV
      have HD := Lib.hid hD
      have Hdg := Lib.hid hdg
      have Hge := Lib.hid hge
      clear hall hD hdg hE hV hge
      go_wp2
      go_loop [5, 6, 7] (fun nv pv jv => ∃ (j n p : Nat), j ≤ i ∧ j ≤ 42 ∧ nv = .int .i64 n ∧ pv = .int .i64 p ∧ jv = .int .i64 j ∧ Hid (p = 2 ^ j) ∧ Hid (n + p * numD (xs.drop j) = D) ∧ n ≤ 2 * p) (fun _ _ jv => i + 1 - (intOf jv).toNat)
      case atStart => exact ⟨0, 0, 1, by omega, by omega, rfl, rfl, rfl, rfl, by show _ = _; rw [List.drop_zero, HD.out]; omega, by omega⟩
      case round =>
        obtain ⟨j, n, p, hj, hj42, rfl, rfl, rfl, hp, heq, hnp⟩ := hrel
        have hpb : p ≤ 4398046511104 := by rw [hp.out]; exact Nat.le_trans (Nat.pow_le_pow_right (by omega) hj42) (by decide)
        by_cases hlt : j < i
        · by_cases h41 : 41 < j
          · have hbig : 1099511627776 < D := by
              have h1 := Hge.out
              have h2 : 2 ^ 43 ≤ 2 ^ i := Nat.pow_le_pow_right (by omega) (by omega)
              omega
            go_wp2
            go_ret2
            exact ⟨by rw [HE.out, HV.out, if_pos hbig, if_pos hbig]; rfl, rfl⟩
          · obtain ⟨g, o, rfl, hg, hc⟩ := Hv.out.at j (by rw [HN.out]; exact hlt)
            obtain ⟨x, hx⟩ : ∃ x, xs[j]? = some x := ⟨_, List.getElem?_eq_getElem (by rw [HN.out]; exact hlt)⟩
            rw [hx] at hc
            simp only [Option.getD_some] at hc
            have hx01 := Hdg.out x (List.mem_of_getElem? hx)
            have hnext := numD_take_drop xs j x hx n p (heq.out.trans HD.out.symm)
            have Hnext := Lib.hid hnext
            clear heq hnext hx
            have hp2 : Hid (2 * p = 2 ^ (j + 1)) := by show _ = _; rw [Nat.pow_succ, hp.out]; omega
            rcases hx01 with rfl | rfl
            · go_wp2
              go_round
              case rel => exact ⟨j + 1, n + p, 2 * p, by omega, by omega, by go_num, by go_num, by go_num, hp2, by show _ = _; rw [← HD.out, ← Hnext.out]; simp, by omega⟩
              case measure => simp [intOf]; omega
            · go_wp2
              go_round
              case rel => exact ⟨j + 1, n + p * 2, 2 * p, by omega, by omega, by go_num, by go_num, by go_num, hp2, by show _ = _; rw [← HD.out, ← Hnext.out]; simp, by omega⟩
              case measure => simp [intOf]; omega
        · obtain rfl : j = i := by omega
          have hfin : n = D := by
            have := heq.out
            rw [List.drop_eq_nil_of_le (by rw [HN.out]; exact Nat.le_refl _), numD_nil] at this
            omega
          subst hfin
          clear heq
          by_cases hbig : 1099511627776 < n
          · go_wp2
            go_ret2
            exact ⟨by rw [HE.out, HV.out, if_pos hbig, if_pos hbig]; rfl, rfl⟩
          · go_wp2
            go_ret2
            exact ⟨by rw [HE.out, HV.out, if_neg hbig, if_neg hbig]; rfl, rfl⟩
end Go.Proofs.Ytflhhlemoaifnaa
