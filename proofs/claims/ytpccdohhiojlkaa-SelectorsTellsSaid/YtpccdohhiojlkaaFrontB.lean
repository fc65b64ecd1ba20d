/- The document's Back (layer 5), and place (layer 12). -/
import Derived.Test.YtpccdohhiojlkaaFrontT
namespace Go.Proofs.Ytpccdohhiojlkaa
open Go.RowKit
set_option linter.unusedVariables false

theorem al_snoc (D p : List Nat) (k : Nat) (h : k < p.length) : al D ++ (al p).extract k (k + 1) = al (D ++ [p.getD k 0]) := by
  apply ba_ext
  rw [List.getD_eq_getElem?_getD, List.getElem?_eq_getElem h]
  simp only [ByteArray.data_append, ByteArray.data_extract, Array.toList_append, Array.toList_extract, al_list, List.extract_eq_take_drop, Option.getD_some, List.map_append]
  try rw [al_list]
  rw [show k + 1 - k = 1 by omega, List.drop_eq_getElem_cons (by rw [List.length_map]; exact h)]
  simp
set_option maxRecDepth 100000 in
set_option maxHeartbeats 1600000 in
theorem rback_any (w : World) (t : Nat) (p ks : List Nat) (v : Value) (ht : t ≤ 6) (hp : Perm t p) (hn : ∀ k ∈ ks, k < t) (hl : ks.length ≤ 1048576) (hv : IsInts w w.heap.size v (ints ks)) :
    Calls Try.prog 32 #[.string (al p), v] w fun e w' => e = .returned (.tuple #[.string (al (backL p ks)), .int .i64 0]) ∧ Below w.heap.size w w' := by
  obtain ⟨A, ca, rfl, hc1, hc2⟩ := hv.shape
  have hli := length_ints ks
  obtain ⟨N, hN⟩ : ∃ N, ks.length = N := ⟨_, rfl⟩
  rw [hli, hN] at hv hc1 ⊢
  have CR : Hid (Calls Try.prog 44 #[.string (al p)] w fun e w' => e = .returned (.bool true) ∧ w = w') := rright5_any w (al p) (by rw [al_size, hp.len]; omega) (hp.al_nodup ht)
  have CF : Hid (∀ q : List Nat, Perm t q → ∀ (k : Nat), k < t → ∀ W, Calls Try.prog 45 #[.string (al q), .int .i64 (k : Nat)] W fun e w' => e = .returned (.string (al (mtf q k))) ∧ Below W.heap.size W w') := fun q hq k hk W => rfront_al W q k (by rw [hq.len]; exact ht) (by rw [hq.len]; exact hk)
  obtain ⟨T, hT⟩ : ∃ T, backL p ks = T := ⟨_, rfl⟩
  have HT : Hid (([] : List Nat) ++ backL p (ks.drop 0) = T) := by show _ = _; rw [List.drop_zero, List.nil_append, hT]
  have HT2 := Lib.hid hT
  have HNN := Lib.hid hN
  have HKS := Lib.hid hn
  have HP0 := Lib.hid hp
  have HV := Lib.hid hv
  have h00 : al [] = ⟨#[]⟩ := rfl
  have H00 := Lib.hid h00
  rw [hN] at hl
  clear hT hn hN hp hv hli h00
  go_enter Try.func32, Try.ntmps32
  go_wp2_with fail
  refine CR.out.mono ?_
  rintro e w_ ⟨rfl, rfl⟩
  clear CR
  go_wp2_with fail
  go_loopw [7, 8, 9] (fun nv ov iv wr => ∃ (i : Nat) (q D : List Nat), i ≤ N ∧ iv = .int .i64 i ∧ nv = .string (al q) ∧ ov = .string (al D) ∧ Hid (Perm t q) ∧ Hid (D ++ backL q (ks.drop i) = T) ∧ D.length = i ∧ Hid (Below w.heap.size w wr)) (fun _ _ iv _ => N + 1 - (intOf iv).toNat)
  case atStart => exact ⟨0, p, [], Nat.zero_le _, rfl, rfl, by rw [H00.out], HP0, HT, rfl, Below.refl _ _⟩
  case round =>
    clear HT
    obtain ⟨i, q, D, hi, rfl, rfl, rfl, HP, HD, hDl, HB⟩ := hrel
    have hds : (al D).size = i := by rw [al_size, hDl]
    have hqs : (al q).size = t := by rw [al_size, HP.out.len]
    by_cases hlt : i < N
    · obtain ⟨k, hk⟩ : ∃ k, ks[i]? = some k := ⟨_, List.getElem?_eq_getElem (by rw [HNN.out]; exact hlt)⟩
      have hkt := HKS.out k (List.mem_of_getElem? hk)
      obtain ⟨g, o, rfl, hgb, hc⟩ := (HV.out.below HB.out (Nat.le_refl _)).at i (by rw [length_ints, HNN.out]; exact hlt)
      rw [show (ints ks)[i]?.getD 0 = (k : Int) by simp [ints, hk]] at hc
      have HP2 := Lib.hid (HP.out.mtf (k := k) hkt)
      have HD2 : Hid ((D ++ [q.getD k 0]) ++ backL (mtf q k) (ks.drop (i + 1)) = T) := by
        show _ = _
        rw [← HD.out, List.drop_eq_getElem_cons (i := i) (l := ks) (by rw [HNN.out]; exact hlt), backL]
        rw [List.getElem?_eq_getElem (by rw [HNN.out]; exact hlt)] at hk
        injection hk with hk
        rw [hk]
        simp
      have HA := Lib.hid (al_snoc D q k (by rw [HP.out.len]; exact hkt))
      have CF2 := Lib.hid (CF.out q HP.out k hkt)
      have hDl2 : (D ++ [q.getD k 0]).length = i + 1 := by rw [List.length_append, hDl]; rfl
      have hex : ((al q).extract k (k + 1)).size = 1 := by rw [ByteArray.size_extract]; omega
      generalize mtf q k = q2 at *
      generalize D ++ [q.getD k 0] = D2 at *
      clear hk HD HP
      generalize al q = aq at *
      generalize al D = aD at *
      go_wp2_with fail
      go_quiet (fail)
      go_wp2_with fail
      refine (CF2.out _).mono ?_
      rintro e w2 ⟨rfl, hB2⟩
      have HB2 := Lib.hid (bel_call hB2 (below_drewN HB.out _))
      clear hB2 CF2
      go_wp2_with fail
      go_roundw
      case rel => exact ⟨i + 1, q2, D2, by omega, by go_num, rfl, by rw [HA.out], HP2, HD2, hDl2, HB2⟩
      case measure => simp [intOf]; omega
    · obtain rfl : i = N := by omega
      have hD : D = T := by
        have := HD.out
        rw [List.drop_of_length_le (by rw [HNN.out]; exact Nat.le_refl _)] at this
        simpa [backL] using this
      subst hD
      clear HD
      go_wp2_with fail
      go_ret2
      exact ⟨by rw [HT2.out]; rfl, HB.out⟩
/-- place -/
def placeE (s : ByteArray) (r : Except Int (Nat × List Bool)) (e : Ending) : Prop :=
  match r with
  | .error c => e = .returned (.tuple #[.int .i64 0, .int .i64 0, .int .i64 c])
  | .ok (k, r) => e = .returned (.tuple #[.int .i64 (k : Nat), .int .i64 ((8 * s.size - r.length : Nat) : Int), .int .i64 0])
theorem rget_bit12 (s : ByteArray) (a : Nat) (b : Bool) (W : World) (hs : s.size ≤ 1099511627776) (h : a < 8 * s.size) (hb : B.bitAt s.data.toList a = b) :
    Calls Try.prog 43 #[.string s, .int .i64 (a : Nat), .int .i64 1] W fun e w' => e = .returned (.tuple #[.int .u64 (b.toNat : Nat), .int .i64 0]) ∧ W = w' := by
  have hl : s.data.toList.length = s.size := by simp
  have := refGet_any s a (1 : Nat) W (by omega)
  rw [getE_ok _ a 1 (by omega) (by omega), getV_ok _ a 1 (by omega) (by omega), num_one, hb] at this
  rw [show (if b then 1 else 0 : Nat) = b.toNat by cases b <;> rfl] at this
  exact this
theorem rget_short12 (s : ByteArray) (a n : Nat) (W : World) (hs : s.size ≤ 1099511627776) (hn : n ≤ 64) (h : 8 * s.size < a + n) :
    Calls Try.prog 43 #[.string s, .int .i64 (a : Nat), .int .i64 (n : Nat)] W fun e w' => e = .returned (.tuple #[.int .u64 0, .int .i64 2]) ∧ W = w' := by
  have hl : s.data.toList.length = s.size := by simp
  have := refGet_any s a (n : Nat) W (by omega)
  unfold getV getE at this
  rw [if_neg (by omega), if_pos (by omega), if_neg (by omega), if_pos (by omega)] at this
  exact this
set_option maxHeartbeats 1600000 in
theorem rplace12_any (w : World) (s : ByteArray) (a0 t : Nat) (hs : s.size ≤ 1099511627776) (ha : a0 ≤ 9223372036854775807) (ht : 1 ≤ t) (ht6 : t ≤ 6) :
    Calls Try.prog 31 #[.string s, .int .i64 (a0 : Nat), .int .i64 (t : Nat)] w fun e w' => placeE s (onesP t 0 (rest s.data.toList a0)) e ∧ w = w' := by
  have hl : s.data.toList.length = s.size := by simp
  have HL := Lib.hid hl
  obtain ⟨R, hR⟩ : ∃ R, onesP t 0 (rest s.data.toList a0) = R := ⟨_, rfl⟩
  rw [hR]
  have HR := Lib.hid hR
  clear hR hl
  go_enter Try.func31, Try.ntmps31
  go_wp2
  go_loop [9, 10] (fun nv iv => ∃ d i : Nat, d < t ∧ nv = .int .i64 d ∧ iv = .int .i64 i ∧ i ≤ 9223372036854775807 ∧ Hid (onesP t d (rest s.data.toList i) = R)) (fun _ iv => 8 * s.size + 1 - (intOf iv).toNat)
  case atStart => exact ⟨0, a0, ht, rfl, rfl, ha, HR⟩
  case round =>
    clear HR
    obtain ⟨d, i, hd, rfl, rfl, hi, HR⟩ := hrel
    by_cases hlt : i < 8 * s.size
    · have hr := HR.out
      rw [rest_cons _ _ (by rw [HL.out]; exact hlt)] at hr
      cases hb : B.bitAt s.data.toList i with
      | false =>
        rw [hb, onesP] at hr
        subst hr
        have hlen : (rest s.data.toList (i + 1)).length = 8 * s.size - (i + 1) := by rw [length_rest, HL.out]
        have HE : Hid (∀ e, e = Ending.returned (.tuple #[.int .i64 (d : Nat), .int .i64 ((i : Int) + 1), .int .i64 0]) → placeE s (.ok (d, rest s.data.toList (i + 1))) e) := fun e he => by
          unfold placeE
          simp only
          rw [hlen, show 8 * s.size - (8 * s.size - (i + 1)) = i + 1 by omega, he]
          rfl
        have C : Hid (∀ W, Calls Try.prog 43 #[.string s, .int .i64 (i : Nat), .int .i64 1] W fun e w' => e = .returned (.tuple #[.int .u64 0, .int .i64 0]) ∧ W = w') := fun W => rget_bit12 s i false W hs hlt hb
        clear hb hlen HR
        go_wp2_with fail
        refine (C.out _).mono ?_
        rintro e w' ⟨rfl, rfl⟩
        go_wp2_with fail
        go_ret3
        exact ⟨HE.out _ rfl, rfl⟩
      | true =>
        rw [hb, onesP] at hr
        have C : Hid (∀ W, Calls Try.prog 43 #[.string s, .int .i64 (i : Nat), .int .i64 1] W fun e w' => e = .returned (.tuple #[.int .u64 1, .int .i64 0]) ∧ W = w') := fun W => rget_bit12 s i true W hs hlt hb
        clear hb HR
        by_cases hdt : d + 1 = t
        · rw [if_pos hdt] at hr
          subst hr
          subst hdt
          go_wp2_with fail
          refine (C.out _).mono ?_
          rintro e w' ⟨rfl, rfl⟩
          go_wp2_with fail
          go_ret3
          exact ⟨rfl, rfl⟩
        · rw [if_neg hdt] at hr
          have HR2 := Lib.hid hr
          have hne : (((d : Int) + 1) == (t : Int)) = false := by rw [beq_eq_false_iff_ne]; omega
          clear hr
          go_wp2_with fail
          refine (C.out _).mono ?_
          rintro e w' ⟨rfl, rfl⟩
          go_wp2_with fail
          go_round
          case rel => exact ⟨d + 1, i + 1, by omega, by go_num, by go_num, by omega, HR2⟩
          case measure => simp [intOf]; omega
    · have hr := HR.out
      rw [rest_nil _ _ (by rw [HL.out]; omega), onesP] at hr
      subst hr
      have C : Hid (∀ W, Calls Try.prog 43 #[.string s, .int .i64 (i : Nat), .int .i64 1] W fun e w' => e = .returned (.tuple #[.int .u64 0, .int .i64 2]) ∧ W = w') := fun W => rget_short12 s i 1 W hs (by omega) (by omega)
      clear HR
      go_wp2_with fail
      refine (C.out _).mono ?_
      rintro e w' ⟨rfl, rfl⟩
      go_wp2_with fail
      go_ret3
      exact ⟨rfl, rfl⟩
end Go.Proofs.Ytpccdohhiojlkaa
