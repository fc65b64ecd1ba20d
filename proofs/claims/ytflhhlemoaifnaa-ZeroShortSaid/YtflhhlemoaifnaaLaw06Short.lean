/- ZeroShort: the walk. -/
import Derived.Test.YtflhhlemoaifnaaAwake06
namespace Go.Proofs.Ytflhhlemoaifnaa
open Go.RowKit
set_option linter.unusedVariables false

theorem length_digs (n : Nat) : (digs n).length = Nat.log2 (n + 1) := by
  induction n using Nat.strongRecOn with
  | ind n ih =>
    rcases Nat.eq_zero_or_pos n with rfl | h
    · rw [digs_zero]; rfl
    · rw [digs_pos h, List.length_cons, ih _ (by omega), Nat.log2_def (n + 1), if_pos (by omega), show (n - 1) / 2 + 1 = (n + 1) / 2 by omega]
theorem digs_mono {a b : Nat} (h : a ≤ b) : (digs a).length ≤ (digs b).length := by
  induction b using Nat.strongRecOn generalizing a with
  | ind b ih =>
    rcases Nat.eq_zero_or_pos a with rfl | ha
    · rw [digs_zero]; simp
    · rw [digs_pos ha, digs_pos (n := b) (by omega)]
      have := ih ((b - 1) / 2) (by omega) (a := (a - 1) / 2) (by omega)
      simp only [List.length_cons]; omega

set_option maxRecDepth 100000 in
set_option maxHeartbeats 1600000 in
theorem zshort_walk (w : World) (n m : Int) (hn : -9223372036854775808 ≤ n) (hn' : n ≤ 9223372036854775807) (hm : -9223372036854775808 ≤ m) (hm' : m ≤ 9223372036854775807) :
    Calls Try.prog 7 #[.int .i64 n, .int .i64 m] w fun e w' => e = .returned (.bool true) ∧ Below w.heap.size w w' := by
  have hp := pickF_lt n 1099511627776 (by omega)
  obtain ⟨a, ha⟩ : ∃ k : Nat, pickF n 1099511627776 = (k : Int) := ⟨(pickF n 1099511627776).toNat, by omega⟩
  have ha1 : a < 1099511627776 := by omega
  have hq := pickF_lt m 1099511627776 (by omega)
  obtain ⟨b, hb⟩ : ∃ k : Nat, pickF m 1099511627776 = (k : Int) := ⟨(pickF m 1099511627776).toNat, by omega⟩
  have hb1 : b < 1099511627776 := by omega
  have Ha := Lib.hid ha
  have Hb := Lib.hid hb
  clear hp ha hq hb
  have Hla := Lib.hid (length_digs a)
  have hm1 : a ≤ b → (digs a).length ≤ (digs b).length := digs_mono
  have hm2 : b ≤ a → (digs b).length ≤ (digs a).length := digs_mono
  have hinj : decide (digs a = digs b) = decide (a = b) := by
    rw [decide_eq_decide]
    exact ⟨fun h => by rw [← numD_digs a, h, numD_digs], fun h => by rw [h]⟩
  have l1 := length_digs_64 a (by omega)
  have l2 := length_digs_64 b (by omega)
  have C1 : Hid (∀ W, Calls Try.prog 11 #[.int .i64 (a : Int)] W fun e w' => ∃ q c, e = .returned (.slice q (digs a).length c) ∧ IsInts w' w'.heap.size (.slice q (digs a).length c) (digs a) ∧ Below W.heap.size W w') := fun W => aw_dig W (a : Int) (digs a) (by rw [Int.toNat_natCast]) (by omega) (by omega)
  have C2 : Hid (∀ W, Calls Try.prog 11 #[.int .i64 (b : Int)] W fun e w' => ∃ q c, e = .returned (.slice q (digs b).length c) ∧ IsInts w' w'.heap.size (.slice q (digs b).length c) (digs b) ∧ Below W.heap.size W w') := fun W => aw_dig W (b : Int) (digs b) (by rw [Int.toNat_natCast]) (by omega) (by omega)
  have CI : Hid (∀ (v1 v2 : Value) W, IsInts W W.heap.size v1 (digs a) → IsInts W W.heap.size v2 (digs b) → Calls Try.prog 10 #[v1, v2] W fun e w' => e = .returned (.bool (decide (a = b))) ∧ Below W.heap.size W w') := fun v1 v2 W h1 h2 => by
    have := refInts_any W v1 v2 _ _ h1 h2 (by omega) (by omega)
    rw [hinj] at this; exact this
  generalize digs a = d at *
  generalize digs b = c at *
  obtain ⟨A, hA⟩ : ∃ A, d.length = A := ⟨_, rfl⟩
  obtain ⟨C, hC⟩ : ∃ C, c.length = C := ⟨_, rfl⟩
  rw [hA] at hm1 hm2 l1 Hla C1
  rw [hC] at hm1 hm2 l2 C2
  clear hA hC hinj
  go_enter Try.func7, Try.ntmps7
  have L0 := Lib.hid (Live.nil w)
  go_wp2_with fail
  refine (awake06_any _).mono ?_
  rintro e w1 ⟨rfl, hB⟩
  have L1 := Lib.hid (L0.out.step hB)
  clear L0 hB 
  go_wp2_with fail
  refine (pick06_any n 1099511627776 _ hn hn' (by omega) (by omega)).mono ?_
  rintro e w_ ⟨rfl, rfl⟩
  rw [Ha.out]
  go_wp2_with fail
  refine (pick06_any m 1099511627776 _ hm hm' (by omega) (by omega)).mono ?_
  rintro e w_ ⟨rfl, rfl⟩
  rw [Hb.out]
  go_wp2_with fail
  refine (C1.out _).mono ?_
  rintro e w2 ⟨q1, c1, rfl, hv, hB⟩
  have L2 := Lib.hid ((L1.out.step hB).add hv)
  clear L1 hB hv 
  go_wp2_with fail
  refine (C2.out _).mono ?_
  rintro e w3 ⟨q2, c2, rfl, hv, hB⟩
  have L3 := Lib.hid ((L2.out.step hB).add hv)
  clear L2 hB hv 
  clear C1 C2
  go_wp2_with fail
  go_loop [10, 11] (fun kv xv => ∃ k x : Nat, x ≤ a + 1 ∧ kv = .int .i64 k ∧ xv = .int .i64 x ∧ Hid (k + Nat.log2 x = A)) (fun _ xv => (intOf xv).toNat)
  case atStart => exact ⟨0, a + 1, Nat.le_refl _, rfl, by go_num, by show _ = _; rw [Hla.out, Nat.zero_add]⟩
  case round =>
    obtain ⟨k, x, hx, rfl, rfl, hkx⟩ := hrel
    by_cases hlt : 1 < x
    · have hnext : Hid ((k + 1) + Nat.log2 (x / 2) = A) := by
        show _ = _
        rw [← hkx.out, Nat.log2_def x, if_pos (by omega)]; omega
      have hkA : k ≤ 63 := by have := hkx.out; omega
      clear hkx
      go_wp2
      go_round
      case rel => exact ⟨k + 1, x / 2, by omega, by go_num, by go_num, hnext⟩
      case measure => simp [intOf]; omega
    · have hk : k = A := by
        have := hkx.out
        rw [Nat.log2_def x, if_neg (by omega)] at this
        omega
      subst hk
      clear hkx
      rcases Nat.lt_trichotomy a b with hab | hab | hab
      · have h1 := hm1 (by omega)
        have hne : ((a : Int) == (b : Int)) = false := by rw [beq_eq_false_iff_ne]; omega
        have hne2 : decide (a = b) = false := by simp; omega
        have hngt : ¬ b < a := by omega
        rw [hne2] at CI
        clear hm1 hm2 hne2
        go_wp2_with fail
        refine (CI.out _ _ _ (L3.out.get 1 rfl) (L3.out.get 0 rfl)).mono ?_
        rintro e w4 ⟨rfl, hB⟩
        have L4 := Lib.hid (L3.out.step hB)
        clear L3 hB
        go_wp2
        go_ret
        exact ⟨rfl, L4.out.bel⟩
      · subst hab
        have h1 := hm1 (by omega)
        have h2 := hm2 (by omega)
        have hne2 : decide (a = a) = true := by simp
        rw [hne2] at CI
        clear hm1 hm2 hne2
        go_wp2_with fail
        refine (CI.out _ _ _ (L3.out.get 1 rfl) (L3.out.get 0 rfl)).mono ?_
        rintro e w4 ⟨rfl, hB⟩
        have L4 := Lib.hid (L3.out.step hB)
        clear L3 hB
        go_wp2
        go_ret
        exact ⟨rfl, L4.out.bel⟩
      · have h1 := hm2 (by omega)
        have hne : ((a : Int) == (b : Int)) = false := by rw [beq_eq_false_iff_ne]; omega
        have hne2 : decide (a = b) = false := by simp; omega
        have hngt : ¬ a < b := by omega
        rw [hne2] at CI
        clear hm1 hm2 hne2
        go_wp2_with fail
        refine (CI.out _ _ _ (L3.out.get 1 rfl) (L3.out.get 0 rfl)).mono ?_
        rintro e w4 ⟨rfl, hB⟩
        have L4 := Lib.hid (L3.out.step hB)
        clear L3 hB
        go_wp2
        go_ret
        exact ⟨rfl, L4.out.bel⟩
end Go.Proofs.Ytflhhlemoaifnaa
