/- Take of the document's answer, layer 12. -/
import Derived.Test.YtpccdohhiojlkaaFrontB
import Derived.Test.YtpccdohhiojlkaaSelTake
namespace Go.Proofs.Ytpccdohhiojlkaa
open Go.RowKit
set_option linter.unusedVariables false

/-- places that stand somewhere -/
def ksP (t : Nat) : Nat → List Bool → Except Int (List Nat × List Bool)
  | 0, b => .ok ([], b)
  | c + 1, b =>
    match onesP t 0 b with
    | .error e => .error e
    | .ok (k, r) => preS [k] (ksP t c r)
def backR (p : List Nat) : Except Int (List Nat × List Bool) → Except Int (List Nat × List Bool)
  | .error e => .error e
  | .ok (ks, r) => .ok (backL p ks, r)
theorem selP_ks (t c : Nat) : ∀ (p : List Nat) (b : List Bool), selP t c p b = backR p (ksP t c b) := by
  induction c with
  | zero => intro p b; rfl
  | succ c ih =>
    intro p b
    rw [selP, ksP]
    cases onesP t 0 b with
    | error e => rfl
    | ok q =>
      obtain ⟨k, r⟩ := q
      simp only
      rw [ih]
      cases ksP t c r with
      | error e => rfl
      | ok q => rfl
theorem ksP_lt (t : Nat) (ht : 0 < t) (c : Nat) : ∀ (b : List Bool) (ks : List Nat) (r : List Bool), ksP t c b = .ok (ks, r) → ks.length = c ∧ (∀ k ∈ ks, k < t) ∧ r.length ≤ b.length := by
  induction c with
  | zero =>
    intro b ks r h
    simp only [ksP, Except.ok.injEq, Prod.mk.injEq] at h
    obtain ⟨rfl, rfl⟩ := h
    exact ⟨rfl, fun k hk => by simp at hk, Nat.le_refl _⟩
  | succ c ih =>
    intro b ks r h
    rw [ksP] at h
    cases ho : onesP t 0 b with
    | error e => rw [ho] at h; cases h
    | ok q =>
      obtain ⟨k, r1⟩ := q
      rw [ho] at h
      simp only at h
      have h1 := (onesP_ok t b 0 k r1 ht ho).2.1
      have h2 := onesP_cut.lt_of t _ _ _ _ ho
      cases hs : ksP t c r1 with
      | error e => rw [hs] at h; cases h
      | ok q =>
        obtain ⟨l, r2⟩ := q
        rw [hs] at h
        simp only [preS, Except.ok.injEq, Prod.mk.injEq] at h
        obtain ⟨rfl, rfl⟩ := h
        obtain ⟨h3, h4, h5⟩ := ih _ _ _ hs
        refine ⟨by simp [h3], fun m hm => ?_, by omega⟩
        rcases List.mem_append.1 hm with hm | hm
        · simp at hm; omega
        · exact h4 m hm
theorem back_take {t : Nat} (ht : t ≤ 6) (ks : List Nat) : ∀ p, Tabs t p → (∀ k ∈ ks, k < t) → backL p ks = backL (p.take t) ks := by
  induction ks with
  | nil => intro p _ _; rfl
  | cons k ks ih =>
    intro p hp hn
    have hkt := hn k (by simp)
    rw [backL, backL, ih _ (mtf_tabs hp ht hkt) (fun m hm => hn m (by simp [hm])), mtf_take hkt (by have := hp.1; omega)]
    congr 1
    rw [List.getD_eq_getElem?_getD, List.getD_eq_getElem?_getD, List.getElem?_take_of_lt hkt]
theorem backL_lt {t : Nat} (ks : List Nat) : ∀ p, Perm t p → (∀ k ∈ ks, k < t) → ∀ n ∈ backL p ks, n < t := by
  induction ks with
  | nil => intro p _ _ n hn; simp [backL] at hn
  | cons k ks ih =>
    intro p hp hk n hn
    have hkt := hk k (by simp)
    rw [backL] at hn
    rcases List.mem_cons.1 hn with rfl | hn
    · refine hp.mem.1 ?_
      rw [List.getD_eq_getElem?_getD, List.getElem?_eq_getElem (by rw [hp.len]; exact hkt)]
      exact List.getElem_mem _
    · exact ih _ (hp.mtf hkt) (fun m hm => hk m (by simp [hm])) n hn
set_option maxRecDepth 100000 in
set_option maxHeartbeats 3200000 in
theorem rtake12_any (w : World) (s : ByteArray) (a0 c t : Nat) (hs : s.size ≤ 1099511627776) (hat : a0 ≤ 9223372036854775807) (hc : c ≤ 1048576) (ht : 2 ≤ t) (ht6 : t ≤ 6) :
    Calls Try.prog 14 #[.string s, .int .i64 (a0 : Nat), .int .i64 (c : Nat), .int .i64 (t : Nat)] w fun e w' => TakeEnds w (selR s.data.toList t a0 c) e w' := by
  have hl : s.data.toList.length = s.size := by simp
  have CP : Hid (∀ (i : Nat), i ≤ 9223372036854775807 → ∀ W, Calls Try.prog 31 #[.string s, .int .i64 (i : Nat), .int .i64 (t : Nat)] W fun e w' => placeE s (onesP t 0 (rest s.data.toList i)) e ∧ W = w') := fun i hi W => rplace12_any W s i t hs hi (by omega) ht6
  have CA : Hid (∀ W, Calls Try.prog 28 #[.int .i64 (t : Nat)] W fun e w' => e = .returned (.string (al (List.range t))) ∧ W = w') := fun W => alphabet_any W t ht6
  have CB : Hid (∀ (ks : List Nat), (∀ k ∈ ks, k < t) → ks.length ≤ 1048576 → ∀ W v, IsInts W W.heap.size v (ints ks) → Calls Try.prog 32 #[.string (al (List.range t)), v] W fun e w' => e = .returned (.tuple #[.string (al (backL (List.range t) ks)), .int .i64 0]) ∧ Below W.heap.size W w') := fun ks hk hl W v h => rback_any W t (List.range t) ks v ht6 (List.Perm.refl _) hk hl h
  obtain ⟨K, hK⟩ : ∃ K, ksP t c (rest s.data.toList a0) = K := ⟨_, rfl⟩
  have hsel : selP t c (List.range 6) (rest s.data.toList a0) = backR (List.range 6) K := by rw [selP_ks, hK]
  have herr : Hid (∀ w' e, K = .error e → Below w.heap.size w w' → TakeEnds w (selR s.data.toList t a0 c) (.returned (.tuple #[.slice none 0 0, .int .i64 0, .int .i64 e])) w') := fun w' e h1 h4 => by
    unfold selR
    rw [hsel, h1]
    exact ⟨rfl, h4⟩
  have hres : Hid (∀ w' ks r v (a : Nat), K = .ok (ks, r) → a = a0 + ((rest s.data.toList a0).length - r.length) → OwnInts w' w.heap.size v (ints (backL (List.range t) ks)) → Below w.heap.size w w' → TakeEnds w (selR s.data.toList t a0 c) (.returned (.tuple #[v, .int .i64 (a : Nat), .int .i64 0])) w') := fun w' ks r v a h1 h2 h3 h4 => by
    unfold selR
    rw [hsel, h1]
    have hk := (ksP_lt t (by omega) c _ ks r (hK.trans h1)).2.1
    have := back_take ht6 ks _ (tabs_start t ht6) hk
    rw [List.take_range, Nat.min_eq_left ht6] at this
    refine ⟨v, by rw [h2], ?_, h4⟩
    rw [this]
    exact h3
  have hkl : Hid (∀ ks r, K = .ok (ks, r) → ks.length = c ∧ (∀ k ∈ ks, k < t) ∧ r.length ≤ (rest s.data.toList a0).length) := fun ks r h1 => ksP_lt t (by omega) c _ ks r (hK.trans h1)
  have HK : Hid (preS [] (ksP t (c - 0) (rest s.data.toList a0)) = K) := by show _ = _; rw [preS_nil, Nat.sub_zero, hK]
  have HL := Lib.hid hl
  have hrl : Hid ((rest s.data.toList a0).length = 8 * s.size - a0) := by show _ = _; rw [length_rest, hl]
  clear hsel hK hl
  go_enter Try.func14, Try.ntmps14
  go_wp2_with fail
  go_loopw [11, 12, 13] (fun lv av iv wr => ∃ (i a : Nat) (D : List Nat), i ≤ c ∧ iv = .int .i64 i ∧ av = .int .i64 a ∧ a ≤ 9223372036854775807 ∧ D.length = i ∧ Hid (preS D (ksP t (c - i) (rest s.data.toList a)) = K) ∧ Hid (a = a0 + ((8 * s.size - a0) - (8 * s.size - a))) ∧ Hid (OwnInts wr w.heap.size lv (ints D)) ∧ Hid (Below w.heap.size w wr)) (fun _ _ iv _ => c + 1 - (intOf iv).toNat)
  case atStart => exact ⟨0, a0, [], Nat.zero_le _, rfl, rfl, hat, rfl, HK, by show _ = _; omega, OwnInts.nil _ _, Below.refl _ _⟩
  case round =>
    clear HK
    obtain ⟨i, a, D, hi, rfl, rfl, ha, hDl, HK, HA, HO, HB⟩ := hrel
    by_cases hlt : i < c
    · have hk := HK.out
      rw [show c - i = (c - (i + 1)) + 1 by omega, ksP] at hk
      have CP2 := CP.out a ha wr
      obtain ⟨o, ho⟩ : ∃ o, onesP t 0 (rest s.data.toList a) = o := ⟨_, rfl⟩
      rw [ho] at hk CP2
      cases o with
      | error e0 =>
        have hk2 : Hid (K = .error e0) := hk.symm
        have he0 : (e0 != 0) = true := by
          have := onesP_err t _ _ _ ho
          rw [bne_iff_ne]
          omega
        have CP3 : Hid (Calls Try.prog 31 #[.string s, .int .i64 (a : Nat), .int .i64 (t : Nat)] wr fun e w' => e = .returned (.tuple #[.int .i64 0, .int .i64 0, .int .i64 e0]) ∧ wr = w') := CP2
        clear hk CP2 ho HK
        go_wp2_with fail
        refine CP3.out.mono ?_
        rintro e w_ ⟨rfl, rfl⟩
        go_wp2_with fail
        go_ret3
        exact herr.out _ _ hk2.out HB.out
      | ok q =>
        obtain ⟨k, r⟩ := q
        have hlen := onesP_cut.lt_of t _ _ _ _ ho
        have hok := onesP_ok t _ _ _ _ (by omega) ho
        have hral : (rest s.data.toList a).length = 8 * s.size - a := by rw [length_rest, HL.out]
        have hre : r = rest s.data.toList (8 * s.size - r.length) := by
          have h1 := hok.2.2
          rw [Nat.sub_zero] at h1
          have h2 := rest_add s.data.toList a (k + 1) (by rw [HL.out]; have := congrArg List.length h1; rw [List.length_append, length_unary] at this; omega)
          have h3 := congrArg (List.drop (k + 1)) (h1.symm.trans h2)
          rw [List.drop_left' (length_unary k), List.drop_left' (B.length_slice _ _ _)] at h3
          have h4 := congrArg List.length h1
          rw [List.length_append, length_unary] at h4
          rw [h3]
          congr 1
          rw [length_rest, HL.out]
          omega
        simp only at hk
        have CP3 : Hid (Calls Try.prog 31 #[.string s, .int .i64 (a : Nat), .int .i64 (t : Nat)] wr fun e w' => e = .returned (.tuple #[.int .i64 (k : Nat), .int .i64 ((8 * s.size - r.length : Nat) : Int), .int .i64 0]) ∧ wr = w') := CP2
        rw [preS_preS] at hk
        obtain ⟨b, hb⟩ : ∃ b, 8 * s.size - r.length = b := ⟨_, rfl⟩
        rw [hb] at CP3 hre
        rw [hre] at hk
        have hb2 : b ≤ 8 * s.size := by omega
        have HK2 := Lib.hid hk
        have HA2 : Hid (b = a0 + ((8 * s.size - a0) - (8 * s.size - b))) := by
          have := HA.out
          show _ = _
          omega
        have hz := HB.out.size
        have hb3 : b ≤ 9223372036854775807 := by omega
        clear hk CP2 ho hre hok hlen HK hral hb
        go_wp2_with fail
        refine CP3.out.mono ?_
        rintro e w_ ⟨rfl, rfl⟩
        go_wp2_with
          (at_builtin
           refine wpList_append_ints rfl _ _ rfl w.heap.size _ (ints D) rfl (HO.out.alloc _) (wr.heap.size + 1) _ [(k : Int)] rfl (IsInts.new wr [(k : Int)] _ _ _ rfl rfl rfl (by simp [maxLen])) (by rw [length_ints]; simp; omega) (by simp; omega) ?_
           intro q' c' w1 hown1 hg1 hat1
           have HO1 : Hid (OwnInts w1 w.heap.size (.slice q' ((ints D).length + [(k : Int)].length) c') (ints (D ++ [k]))) := by
             show OwnInts _ _ _ _
             rw [show ints (D ++ [k]) = ints D ++ [(k : Int)] by simp [ints]]
             exact hown1
           have HB1 := Lib.hid ((HB.out.alloc hz _).grown hg1 (by simp; omega) (fun k hk => own_ge HO.out hk))
           clear hg1 hat1 hown1)
        go_roundw
        case rel => exact ⟨i + 1, b, D ++ [k], by omega, by go_num, rfl, hb3, by rw [List.length_append, hDl]; rfl, HK2, HA2, HO1, HB1⟩
        case measure => simp [intOf]; omega
    · obtain rfl : i = c := by omega
      have hk := HK.out
      rw [Nat.sub_self, ksP, preS, List.append_nil] at hk
      obtain ⟨hk1, hk2, hk3⟩ := hkl.out _ _ hk.symm
      have CB2 := Lib.hid (CB.out D hk2 (by omega))
      have HD2 := Lib.hid (hres.out)
      have HKE := Lib.hid hk.symm
      have hbl2 := length_backL D (List.range t)
      have hbt := backL_lt D (List.range t) (List.Perm.refl _) hk2
      obtain ⟨T, hT⟩ : ∃ T, backL (List.range t) D = T := ⟨_, rfl⟩
      rw [hT] at hbl2 hbt CB2
      have HT := Lib.hid hT
      have hra : Hid ((rest s.data.toList a).length = 8 * s.size - a) := by show _ = _; rw [length_rest, HL.out]
      have hTl : T.length = i := by omega
      have HTL := Lib.hid hTl
      have HGet : Hid (∀ (j n : Nat), T[j]? = some n → ∀ (h : j < (al T).size), ((al T)[j]).toNat = n) := fun j n h hj => by
        rw [al_get T j n h hj, u8_ofNat n (by have := hbt n (List.mem_of_getElem? h); omega)]
      have hsz : (al T).size = i := by rw [al_size, hTl]
      have hDi : D.length = i := hDl
      clear hk HK hk1 hk2 hk3 CB hkl herr hres hT hbl2 hbt hTl CP
      generalize al T = aT at *
      go_wp2_with fail
      refine (CA.out _).mono ?_
      rintro e w_ ⟨rfl, rfl⟩
      go_wp2_with fail
      refine (CB2.out _ _ HO.out.is).mono ?_
      rintro e w2 ⟨rfl, hB2⟩
      have HB2 := Lib.hid (bel_call hB2 HB.out)
      clear hB2 CB2 CA
      go_wp2_with fail
      go_loopw [19, 20] (fun ov jv wx => ∃ j : Nat, j ≤ i ∧ jv = .int .i64 j ∧ Hid (OwnInts wx w.heap.size ov (ints (T.take j))) ∧ Hid (Below w.heap.size w wx)) (fun _ jv _ => i + 1 - (intOf jv).toNat)
      case atStart => exact ⟨0, Nat.zero_le _, rfl, OwnInts.nil _ _, HB2⟩
      case round =>
        clear HB2
        obtain ⟨j, hj, rfl, HO3, HB3⟩ := hrel
        have hz3 := HB3.out.size
        have htl : (ints (T.take j)).length ≤ 1048576 := by rw [length_ints, List.length_take]; omega
        by_cases hjt : j < i
        · obtain ⟨n, hn⟩ : ∃ n, T[j]? = some n := ⟨_, List.getElem?_eq_getElem (by rw [HTL.out]; exact hjt)⟩
          have hjl : j < aT.size := by omega
          have hgt := HGet.out j n hn hjl
          have HS : Hid (ints (T.take j) ++ [(n : Int)] = ints (T.take (j + 1))) := by
            show _ = _
            rw [List.take_add_one, hn]
            simp [ints]
          obtain ⟨x, hx⟩ : ∃ x, aT[j] = x := ⟨_, rfl⟩
          rw [hx] at hgt
          have hxl := x.toNat_lt
          have hwx : IntKind.i64.wrap (x.toNat : Int) = (n : Int) := by rw [IntWalk.i64_in _ (by omega), hgt]
          generalize ints (T.take j) = X at *
          clear hn
          go_wp2_with
            (at_builtin
             refine wpList_append_ints rfl _ _ rfl w.heap.size _ X rfl (HO3.out.alloc _) (wr.heap.size + 1) _ [(n : Int)] rfl (IsInts.new wr [(n : Int)] _ _ _ rfl rfl rfl (by simp [maxLen])) (by simp; omega) (by simp; omega) ?_
             intro q' c' w1 hown1 hg1 hat1
             have HO1 := Lib.hid hown1
             have HB1 := Lib.hid ((HB3.out.alloc hz3 _).grown hg1 (by simp; omega) (fun k hk => own_ge HO3.out hk))
             clear hg1 hat1 hown1)
          go_roundw
          case rel => exact ⟨j + 1, by omega, by go_num, by show OwnInts _ _ _ _; rw [← HS.out]; exact HO1.out, HB1⟩
          case measure => simp [intOf]; omega
        · obtain rfl : j = i := by omega
          have ho := HO3.out
          rw [List.take_of_length_le (by rw [HTL.out]; exact Nat.le_refl _)] at ho
          have Ho := Lib.hid ho
          clear ho HO3
          go_wp2_with fail
          go_ret3
          exact HD2.out _ _ _ _ _ HKE.out (by rw [hrl.out, hra.out]; exact HA.out) (by rw [HT.out]; exact Ho.out) HB3.out
theorem rtake12_arg (w : World) (s : ByteArray) (a c t : Int) (h : ((decide (2 ≤ t) && decide (t ≤ 6)) && !(decide (a < 0)) && !(decide (c < 0)) && !(decide (1048576 < c))) = false) :
    Calls Try.prog 14 #[.string s, .int .i64 a, .int .i64 c, .int .i64 t] w fun e w' => e = .returned (.tuple #[.slice none 0 0, .int .i64 0, .int .i64 1]) ∧ w = w' := by
  have hh : t < 2 ∨ 6 < t ∨ a < 0 ∨ c < 0 ∨ 1048576 < c := by
    simp only [Bool.and_eq_false_iff, Bool.not_eq_false', decide_eq_false_iff_not, decide_eq_true_eq] at h
    omega
  clear h
  go_enter Try.func14, Try.ntmps14
  go_wp2_with fail
  all_goals first
    | (go_ret3; exact ⟨rfl, rfl⟩)
    | (exfalso; omega)
end Go.Proofs.Ytpccdohhiojlkaa
