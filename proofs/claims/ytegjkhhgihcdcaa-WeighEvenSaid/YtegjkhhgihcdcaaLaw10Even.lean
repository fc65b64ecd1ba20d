/- WeighEven: the walk. -/
import Derived.Test.YtegjkhhgihcdcaaWeights
import Derived.Test.YtegjkhhgihcdcaaWLaws
namespace Go.Proofs.Ytegjkhhgihcdcaa
open Go.RowKit
set_option linter.unusedVariables false

set_option maxRecDepth 100000 in
set_option maxHeartbeats 6400000 in
theorem weven_walk (w : World) (many weight most : Int) (hmany : -9223372036854775808 ≤ many) (hmany' : many ≤ 9223372036854775807) (hweight : -9223372036854775808 ≤ weight) (hweight' : weight ≤ 9223372036854775807) (hmost : -9223372036854775808 ≤ most) (hmost' : most ≤ 9223372036854775807) :
    Calls Try.prog 5 #[.int .i64 many, .int .i64 weight, .int .i64 most] w fun e w' => e = .returned (.bool true) ∧ Below w.heap.size w w' := by
  have hpm := pickF_lt many 257 (by omega)
  obtain ⟨a, ha⟩ : ∃ k : Nat, pickF many 257 = (k : Int) := ⟨(pickF many 257).toNat, by omega⟩
  have HA := Lib.hid ha
  obtain ⟨n, hn⟩ : ∃ n, n = 2 + a := ⟨_, rfl⟩
  have hna : (2 : Int) + (a : Int) = (n : Int) := by omega
  have hn2 : 2 ≤ n := by omega
  have hn258 : n ≤ 258 := by omega
  have hpw := pickF_lt weight 1048577 (by omega)
  obtain ⟨p, hp⟩ : ∃ k : Nat, pickF weight 1048577 = (k : Int) := ⟨(pickF weight 1048577).toNat, by omega⟩
  have HP := Lib.hid hp
  have hp2 : p ≤ 1048576 := by omega
  have hpo := pickF_lt most 12 (by omega)
  obtain ⟨b, hb⟩ : ∃ k : Nat, pickF most 12 = (k : Int) := ⟨(pickF most 12).toNat, by omega⟩
  have HO := Lib.hid hb
  obtain ⟨m, hm⟩ : ∃ m, m = 9 + b := ⟨_, rfl⟩
  have hmb : (9 : Int) + (b : Int) = (m : Int) := by omega
  have hm9 : 9 ≤ m := by omega
  have hm20 : m ≤ 20 := by omega
  obtain ⟨d, e1, e2, e3, e4⟩ := lenF_even n p m hn2 hn258 hm9
  have CL : Hid (∀ W u, IsInts W W.heap.size u (ints (List.replicate n p)) → Calls Try.prog 12 #[u, .int .i64 (m : Nat)] W fun e w' => ∃ q c, e = .returned (.tuple #[.slice q n c, .int .i64 0]) ∧ IsInts w' w'.heap.size (.slice q n c) (ints (lenF (List.replicate n p) m)) ∧ Below W.heap.size W w') := fun W u h => by
    have := lengths_ok W u (List.replicate n p) m h (fun x hx => by rw [(List.mem_replicate.1 hx).2]; exact hp2) (by simpa using hn2) (by simpa using hn258) hm9 hm20
    rw [List.length_replicate] at this
    exact this
  have hRl := length_lenF (List.replicate n p) m (by simpa using hn2) (by simpa using hn258) hm9
  rw [List.length_replicate] at hRl
  generalize lenF (List.replicate n p) m = R at *
  have E1' := Lib.hid e1
  have E4' := Lib.hid e4
  have hd9 : d < 9 := by
    rcases Nat.lt_or_ge d 9 with h | h
    · exact h
    · have h5 : (2 : Nat) ^ 9 ≤ 2 ^ d := Nat.pow_le_pow_right (by omega) h
      have h6 : (2 : Nat) ^ 9 = 512 := by decide
      omega
  have Hlow : Hid (∀ k, k ≤ d → 2 ^ k < n) := fun k hk => Nat.lt_of_le_of_lt (Nat.pow_le_pow_right (by omega) hk) e2
  have Hup : Hid (n ≤ 2 ^ (d + 1)) := e3
  have HRL := Lib.hid hRl
  clear ha hn hp hb hm e1 e2 e3 e4 hpm hpw hpo hRl
  go_enter Try.func5, Try.ntmps5
  have E0 := Lib.hid (Env.nil w)
  go_wp2_with fail
  refine (awake10_any _).mono ?_
  rintro e w1 ⟨rfl, hB⟩
  have E1 := Lib.hid (E0.out.step hB)
  clear E0 hB  
  go_wp2_with fail
  refine (pick10_any many 257 _ hmany hmany' (by omega) (by omega)).mono ?_
  rintro e w_ ⟨rfl, rfl⟩
  rw [HA.out]
  go_wp2_with fail
  have HB1 : Hid (Below w.heap.size w w1) := E1.out.bel
  clear E1
  go_loopw [9, 10] (fun ov iv wr => ∃ (i : Nat) (q : Option Addr) (c : Nat), i ≤ n ∧ iv = .int .i64 i ∧ ov = .slice q i c ∧ Hid (OwnInts wr w.heap.size (.slice q i c) (ints (List.replicate i p))) ∧ Hid (Below w.heap.size w wr)) (fun _ iv _ => n + 1 - (intOf iv).toNat)
  case atStart => exact ⟨0, none, 0, Nat.zero_le _, rfl, rfl, OwnInts.nil _ _, HB1⟩
  case round =>
    obtain ⟨i, q, c, hi, rfl, rfl, HOw, HB⟩ := hrel
    have hz0 := HB.out.size
    clear HB1
    by_cases hlt : i < n
    · go_wp2_with fail
      refine (pick10_any weight 1048577 _ hweight hweight' (by omega) (by omega)).mono ?_
      rintro e w_ ⟨rfl, rfl⟩
      rw [HP.out]
      go_wp2_with
        (at_builtin
         refine wpList_append_ints rfl _ _ rfl w.heap.size _ (ints (List.replicate i p)) rfl (HOw.out.alloc _) (wr.heap.size + 1) _ [(p : Int)] rfl (IsInts.new wr [(p : Int)] _ _ _ rfl rfl rfl (by simp [maxLen])) (by rw [length_ints]; simp; omega) (by simp; omega) ?_
         intro q' c' w1 hown1 hg1 hat1
         rw [show (ints (List.replicate i p)).length + [(p : Int)].length = i + 1 by rw [length_ints, List.length_replicate]; rfl] at hown1 ⊢
         rw [show ints (List.replicate i p) ++ [(p : Int)] = ints (List.replicate (i + 1) p) by rw [List.replicate_succ']; simp [ints]] at hown1
         have Hown1 := Lib.hid hown1
         have HB1 : Hid (Below w.heap.size w w1) := bel_grown hg1 (HB.out.alloc (by omega) _) (fun k hk => own_ge HOw.out hk)
         clear hg1 hat1 hown1)
      go_roundw
      case rel => exact ⟨i + 1, _, _, by omega, by go_num, rfl, Hown1, HB1⟩
      case measure => simp [intOf]; omega
    · obtain rfl : i = n := by omega
      go_wp2_with fail
      refine (pick10_any most 12 _ hmost hmost' (by omega) (by omega)).mono ?_
      rintro e w_ ⟨rfl, rfl⟩
      rw [HO.out]
      go_wp2_with fail
      refine (CL.out _ _ HOw.out.is).mono ?_
      rintro e w2 ⟨q2, c2, rfl, hv2, hB2⟩
      have HV2 := Lib.hid hv2
      have HB2 := Lib.hid (HB.out.trans (hB2.mono hz0))
      clear hv2 hB2 HOw HB CL
      go_wp2_with fail
      go_loop [13] (fun dv => ∃ k : Nat, k ≤ d + 1 ∧ dv = .int .i64 k) (fun dv => d + 2 - (intOf dv).toNat)
      case atStart => exact ⟨0, Nat.zero_le _, rfl⟩
      case round =>
        obtain ⟨k, hk, rfl⟩ := hrel
        by_cases hkd : k ≤ d
        · have hlk := Hlow.out k hkd
          obtain ⟨z, hz⟩ : ∃ z : Nat, 2 ^ k = z := ⟨_, rfl⟩
          rw [hz] at hlk
          have hw : wrap64 ((2 : Int) ^ k) = (z : Int) := by rw [pow_castK, hz]; unfold wrap64; omega
          clear hz
          go_wp2_with fail
          go_round
          case rel => exact ⟨k + 1, by omega, by go_num⟩
          case measure => simp [intOf]; omega
        · have hkk : k = d + 1 := by omega
          clear hkd hk
          rcases (show d = 0 ∨ d = 1 ∨ d = 2 ∨ d = 3 ∨ d = 4 ∨ d = 5 ∨ d = 6 ∨ d = 7 ∨ d = 8 by omega) with rfl | rfl | rfl | rfl | rfl | rfl | rfl | rfl | rfl
          · obtain rfl : k = 1 := by omega
            as_aux_lemma =>
            have E4t : Hid (i = 2 → ∀ j, j < i → R[j]? = some 1) := E4'.out
            have E1t : Hid (∀ j, j < i → R[j]? = some 1 ∨ R[j]? = some 0) := E1'.out
            have hup : i ≤ 2 := Hup.out
            clear E4' E1' Hlow Hup hna hn2 hkk
            go_wp2_with fail
            go_loop [14] (fun iv => ∃ j : Nat, j ≤ i ∧ iv = .int .i64 j) (fun iv => i + 1 - (intOf iv).toNat)
            case atStart => exact ⟨0, Nat.zero_le _, rfl⟩
            case round =>
              obtain ⟨j, hj, rfl⟩ := hrel
              by_cases hji : j < i
              · obtain ⟨g3, o3, rfl, hg3, hx3⟩ := HV2.out.at j (by rw [length_ints, HRL.out]; exact hji)
                by_cases htop : R[j]? = some 1
                · rw [show (ints R)[j]?.getD 0 = ((1 : Nat) : Int) by simp [ints, htop]] at hx3
                  clear htop
                  go_wp2_with fail
                  go_round
                  case rel => exact ⟨j + 1, by omega, by go_num⟩
                  case measure => simp [intOf]; omega
                · have hlow : R[j]? = some 0 := (E1t.out j hji).resolve_left htop
                  have hzi : ¬ (i = 2) := fun e => htop (E4t.out e j hji)
                  rw [show (ints R)[j]?.getD 0 = ((0 : Nat) : Int) by simp [ints, hlow]] at hx3
                  clear htop hlow
                  go_wp2_with fail
                  go_round
                  case rel => exact ⟨j + 1, by omega, by go_num⟩
                  case measure => simp [intOf]; omega
              · go_wp2_with fail
                go_ret
                exact ⟨rfl, HB2.out⟩
          · obtain rfl : k = 2 := by omega
            as_aux_lemma =>
            have E4t : Hid (i = 4 → ∀ j, j < i → R[j]? = some 2) := E4'.out
            have E1t : Hid (∀ j, j < i → R[j]? = some 2 ∨ R[j]? = some 1) := E1'.out
            have hup : i ≤ 4 := Hup.out
            clear E4' E1' Hlow Hup hna hn2 hkk
            go_wp2_with fail
            go_loop [14] (fun iv => ∃ j : Nat, j ≤ i ∧ iv = .int .i64 j) (fun iv => i + 1 - (intOf iv).toNat)
            case atStart => exact ⟨0, Nat.zero_le _, rfl⟩
            case round =>
              obtain ⟨j, hj, rfl⟩ := hrel
              by_cases hji : j < i
              · obtain ⟨g3, o3, rfl, hg3, hx3⟩ := HV2.out.at j (by rw [length_ints, HRL.out]; exact hji)
                by_cases htop : R[j]? = some 2
                · rw [show (ints R)[j]?.getD 0 = ((2 : Nat) : Int) by simp [ints, htop]] at hx3
                  clear htop
                  go_wp2_with fail
                  go_round
                  case rel => exact ⟨j + 1, by omega, by go_num⟩
                  case measure => simp [intOf]; omega
                · have hlow : R[j]? = some 1 := (E1t.out j hji).resolve_left htop
                  have hzi : ¬ (i = 4) := fun e => htop (E4t.out e j hji)
                  rw [show (ints R)[j]?.getD 0 = ((1 : Nat) : Int) by simp [ints, hlow]] at hx3
                  clear htop hlow
                  go_wp2_with fail
                  go_round
                  case rel => exact ⟨j + 1, by omega, by go_num⟩
                  case measure => simp [intOf]; omega
              · go_wp2_with fail
                go_ret
                exact ⟨rfl, HB2.out⟩
          · obtain rfl : k = 3 := by omega
            as_aux_lemma =>
            have E4t : Hid (i = 8 → ∀ j, j < i → R[j]? = some 3) := E4'.out
            have E1t : Hid (∀ j, j < i → R[j]? = some 3 ∨ R[j]? = some 2) := E1'.out
            have hup : i ≤ 8 := Hup.out
            clear E4' E1' Hlow Hup hna hn2 hkk
            go_wp2_with fail
            go_loop [14] (fun iv => ∃ j : Nat, j ≤ i ∧ iv = .int .i64 j) (fun iv => i + 1 - (intOf iv).toNat)
            case atStart => exact ⟨0, Nat.zero_le _, rfl⟩
            case round =>
              obtain ⟨j, hj, rfl⟩ := hrel
              by_cases hji : j < i
              · obtain ⟨g3, o3, rfl, hg3, hx3⟩ := HV2.out.at j (by rw [length_ints, HRL.out]; exact hji)
                by_cases htop : R[j]? = some 3
                · rw [show (ints R)[j]?.getD 0 = ((3 : Nat) : Int) by simp [ints, htop]] at hx3
                  clear htop
                  go_wp2_with fail
                  go_round
                  case rel => exact ⟨j + 1, by omega, by go_num⟩
                  case measure => simp [intOf]; omega
                · have hlow : R[j]? = some 2 := (E1t.out j hji).resolve_left htop
                  have hzi : ¬ (i = 8) := fun e => htop (E4t.out e j hji)
                  rw [show (ints R)[j]?.getD 0 = ((2 : Nat) : Int) by simp [ints, hlow]] at hx3
                  clear htop hlow
                  go_wp2_with fail
                  go_round
                  case rel => exact ⟨j + 1, by omega, by go_num⟩
                  case measure => simp [intOf]; omega
              · go_wp2_with fail
                go_ret
                exact ⟨rfl, HB2.out⟩
          · obtain rfl : k = 4 := by omega
            as_aux_lemma =>
            have E4t : Hid (i = 16 → ∀ j, j < i → R[j]? = some 4) := E4'.out
            have E1t : Hid (∀ j, j < i → R[j]? = some 4 ∨ R[j]? = some 3) := E1'.out
            have hup : i ≤ 16 := Hup.out
            clear E4' E1' Hlow Hup hna hn2 hkk
            go_wp2_with fail
            go_loop [14] (fun iv => ∃ j : Nat, j ≤ i ∧ iv = .int .i64 j) (fun iv => i + 1 - (intOf iv).toNat)
            case atStart => exact ⟨0, Nat.zero_le _, rfl⟩
            case round =>
              obtain ⟨j, hj, rfl⟩ := hrel
              by_cases hji : j < i
              · obtain ⟨g3, o3, rfl, hg3, hx3⟩ := HV2.out.at j (by rw [length_ints, HRL.out]; exact hji)
                by_cases htop : R[j]? = some 4
                · rw [show (ints R)[j]?.getD 0 = ((4 : Nat) : Int) by simp [ints, htop]] at hx3
                  clear htop
                  go_wp2_with fail
                  go_round
                  case rel => exact ⟨j + 1, by omega, by go_num⟩
                  case measure => simp [intOf]; omega
                · have hlow : R[j]? = some 3 := (E1t.out j hji).resolve_left htop
                  have hzi : ¬ (i = 16) := fun e => htop (E4t.out e j hji)
                  rw [show (ints R)[j]?.getD 0 = ((3 : Nat) : Int) by simp [ints, hlow]] at hx3
                  clear htop hlow
                  go_wp2_with fail
                  go_round
                  case rel => exact ⟨j + 1, by omega, by go_num⟩
                  case measure => simp [intOf]; omega
              · go_wp2_with fail
                go_ret
                exact ⟨rfl, HB2.out⟩
          · obtain rfl : k = 5 := by omega
            as_aux_lemma =>
            have E4t : Hid (i = 32 → ∀ j, j < i → R[j]? = some 5) := E4'.out
            have E1t : Hid (∀ j, j < i → R[j]? = some 5 ∨ R[j]? = some 4) := E1'.out
            have hup : i ≤ 32 := Hup.out
            clear E4' E1' Hlow Hup hna hn2 hkk
            go_wp2_with fail
            go_loop [14] (fun iv => ∃ j : Nat, j ≤ i ∧ iv = .int .i64 j) (fun iv => i + 1 - (intOf iv).toNat)
            case atStart => exact ⟨0, Nat.zero_le _, rfl⟩
            case round =>
              obtain ⟨j, hj, rfl⟩ := hrel
              by_cases hji : j < i
              · obtain ⟨g3, o3, rfl, hg3, hx3⟩ := HV2.out.at j (by rw [length_ints, HRL.out]; exact hji)
                by_cases htop : R[j]? = some 5
                · rw [show (ints R)[j]?.getD 0 = ((5 : Nat) : Int) by simp [ints, htop]] at hx3
                  clear htop
                  go_wp2_with fail
                  go_round
                  case rel => exact ⟨j + 1, by omega, by go_num⟩
                  case measure => simp [intOf]; omega
                · have hlow : R[j]? = some 4 := (E1t.out j hji).resolve_left htop
                  have hzi : ¬ (i = 32) := fun e => htop (E4t.out e j hji)
                  rw [show (ints R)[j]?.getD 0 = ((4 : Nat) : Int) by simp [ints, hlow]] at hx3
                  clear htop hlow
                  go_wp2_with fail
                  go_round
                  case rel => exact ⟨j + 1, by omega, by go_num⟩
                  case measure => simp [intOf]; omega
              · go_wp2_with fail
                go_ret
                exact ⟨rfl, HB2.out⟩
          · obtain rfl : k = 6 := by omega
            as_aux_lemma =>
            have E4t : Hid (i = 64 → ∀ j, j < i → R[j]? = some 6) := E4'.out
            have E1t : Hid (∀ j, j < i → R[j]? = some 6 ∨ R[j]? = some 5) := E1'.out
            have hup : i ≤ 64 := Hup.out
            clear E4' E1' Hlow Hup hna hn2 hkk
            go_wp2_with fail
            go_loop [14] (fun iv => ∃ j : Nat, j ≤ i ∧ iv = .int .i64 j) (fun iv => i + 1 - (intOf iv).toNat)
            case atStart => exact ⟨0, Nat.zero_le _, rfl⟩
            case round =>
              obtain ⟨j, hj, rfl⟩ := hrel
              by_cases hji : j < i
              · obtain ⟨g3, o3, rfl, hg3, hx3⟩ := HV2.out.at j (by rw [length_ints, HRL.out]; exact hji)
                by_cases htop : R[j]? = some 6
                · rw [show (ints R)[j]?.getD 0 = ((6 : Nat) : Int) by simp [ints, htop]] at hx3
                  clear htop
                  go_wp2_with fail
                  go_round
                  case rel => exact ⟨j + 1, by omega, by go_num⟩
                  case measure => simp [intOf]; omega
                · have hlow : R[j]? = some 5 := (E1t.out j hji).resolve_left htop
                  have hzi : ¬ (i = 64) := fun e => htop (E4t.out e j hji)
                  rw [show (ints R)[j]?.getD 0 = ((5 : Nat) : Int) by simp [ints, hlow]] at hx3
                  clear htop hlow
                  go_wp2_with fail
                  go_round
                  case rel => exact ⟨j + 1, by omega, by go_num⟩
                  case measure => simp [intOf]; omega
              · go_wp2_with fail
                go_ret
                exact ⟨rfl, HB2.out⟩
          · obtain rfl : k = 7 := by omega
            as_aux_lemma =>
            have E4t : Hid (i = 128 → ∀ j, j < i → R[j]? = some 7) := E4'.out
            have E1t : Hid (∀ j, j < i → R[j]? = some 7 ∨ R[j]? = some 6) := E1'.out
            have hup : i ≤ 128 := Hup.out
            clear E4' E1' Hlow Hup hna hn2 hkk
            go_wp2_with fail
            go_loop [14] (fun iv => ∃ j : Nat, j ≤ i ∧ iv = .int .i64 j) (fun iv => i + 1 - (intOf iv).toNat)
            case atStart => exact ⟨0, Nat.zero_le _, rfl⟩
            case round =>
              obtain ⟨j, hj, rfl⟩ := hrel
              by_cases hji : j < i
              · obtain ⟨g3, o3, rfl, hg3, hx3⟩ := HV2.out.at j (by rw [length_ints, HRL.out]; exact hji)
                by_cases htop : R[j]? = some 7
                · rw [show (ints R)[j]?.getD 0 = ((7 : Nat) : Int) by simp [ints, htop]] at hx3
                  clear htop
                  go_wp2_with fail
                  go_round
                  case rel => exact ⟨j + 1, by omega, by go_num⟩
                  case measure => simp [intOf]; omega
                · have hlow : R[j]? = some 6 := (E1t.out j hji).resolve_left htop
                  have hzi : ¬ (i = 128) := fun e => htop (E4t.out e j hji)
                  rw [show (ints R)[j]?.getD 0 = ((6 : Nat) : Int) by simp [ints, hlow]] at hx3
                  clear htop hlow
                  go_wp2_with fail
                  go_round
                  case rel => exact ⟨j + 1, by omega, by go_num⟩
                  case measure => simp [intOf]; omega
              · go_wp2_with fail
                go_ret
                exact ⟨rfl, HB2.out⟩
          · obtain rfl : k = 8 := by omega
            as_aux_lemma =>
            have E4t : Hid (i = 256 → ∀ j, j < i → R[j]? = some 8) := E4'.out
            have E1t : Hid (∀ j, j < i → R[j]? = some 8 ∨ R[j]? = some 7) := E1'.out
            have hup : i ≤ 256 := Hup.out
            clear E4' E1' Hlow Hup hna hn2 hkk
            go_wp2_with fail
            go_loop [14] (fun iv => ∃ j : Nat, j ≤ i ∧ iv = .int .i64 j) (fun iv => i + 1 - (intOf iv).toNat)
            case atStart => exact ⟨0, Nat.zero_le _, rfl⟩
            case round =>
              obtain ⟨j, hj, rfl⟩ := hrel
              by_cases hji : j < i
              · obtain ⟨g3, o3, rfl, hg3, hx3⟩ := HV2.out.at j (by rw [length_ints, HRL.out]; exact hji)
                by_cases htop : R[j]? = some 8
                · rw [show (ints R)[j]?.getD 0 = ((8 : Nat) : Int) by simp [ints, htop]] at hx3
                  clear htop
                  go_wp2_with fail
                  go_round
                  case rel => exact ⟨j + 1, by omega, by go_num⟩
                  case measure => simp [intOf]; omega
                · have hlow : R[j]? = some 7 := (E1t.out j hji).resolve_left htop
                  have hzi : ¬ (i = 256) := fun e => htop (E4t.out e j hji)
                  rw [show (ints R)[j]?.getD 0 = ((7 : Nat) : Int) by simp [ints, hlow]] at hx3
                  clear htop hlow
                  go_wp2_with fail
                  go_round
                  case rel => exact ⟨j + 1, by omega, by go_num⟩
                  case measure => simp [intOf]; omega
              · go_wp2_with fail
                go_ret
                exact ⟨rfl, HB2.out⟩
          · obtain rfl : k = 9 := by omega
            as_aux_lemma =>
            have E4t : Hid (i = 512 → ∀ j, j < i → R[j]? = some 9) := E4'.out
            have E1t : Hid (∀ j, j < i → R[j]? = some 9 ∨ R[j]? = some 8) := E1'.out
            have hup : i ≤ 512 := Hup.out
            clear E4' E1' Hlow Hup hna hn2 hkk
            go_wp2_with fail
            go_loop [14] (fun iv => ∃ j : Nat, j ≤ i ∧ iv = .int .i64 j) (fun iv => i + 1 - (intOf iv).toNat)
            case atStart => exact ⟨0, Nat.zero_le _, rfl⟩
            case round =>
              obtain ⟨j, hj, rfl⟩ := hrel
              by_cases hji : j < i
              · obtain ⟨g3, o3, rfl, hg3, hx3⟩ := HV2.out.at j (by rw [length_ints, HRL.out]; exact hji)
                by_cases htop : R[j]? = some 9
                · rw [show (ints R)[j]?.getD 0 = ((9 : Nat) : Int) by simp [ints, htop]] at hx3
                  clear htop
                  go_wp2_with fail
                  go_round
                  case rel => exact ⟨j + 1, by omega, by go_num⟩
                  case measure => simp [intOf]; omega
                · have hlow : R[j]? = some 8 := (E1t.out j hji).resolve_left htop
                  have hzi : ¬ (i = 512) := fun e => htop (E4t.out e j hji)
                  rw [show (ints R)[j]?.getD 0 = ((8 : Nat) : Int) by simp [ints, hlow]] at hx3
                  clear htop hlow
                  go_wp2_with fail
                  go_round
                  case rel => exact ⟨j + 1, by omega, by go_num⟩
                  case measure => simp [intOf]; omega
              · go_wp2_with fail
                go_ret
                exact ⟨rfl, HB2.out⟩
end Go.Proofs.Ytegjkhhgihcdcaa
