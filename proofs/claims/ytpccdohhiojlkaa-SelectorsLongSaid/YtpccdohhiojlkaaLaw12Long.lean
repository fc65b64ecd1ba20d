/- SelectorsLong: the walk. -/
import Derived.Test.YtpccdohhiojlkaaAwake12
import Derived.Test.YtpccdohhiojlkaaBitsSame
namespace Go.Proofs.Ytpccdohhiojlkaa
open Go.RowKit
set_option linter.unusedVariables false

/-- how many are as the one ahead -/
def alikeS : Nat → List Nat → Nat
  | _, [] => 0
  | h, n :: ns => (if n = h then 1 else 0) + alikeS n ns
theorem alikeS_le (l : List Nat) : ∀ h, alikeS h l ≤ l.length := by
  induction l with
  | nil => intro h; exact Nat.le_refl _
  | cons n l ih =>
    intro h
    have := ih n
    simp only [alikeS, List.length_cons]
    split <;> omega
def lastS : Nat → List Nat → Nat
  | h, [] => h
  | _, n :: ns => lastS n ns
theorem lastS_snoc (l : List Nat) (x : Nat) : ∀ h, lastS h (l ++ [x]) = x := by
  induction l with
  | nil => intro h; rfl
  | cons n l ih => intro h; exact ih n
theorem alikeS_snoc (l : List Nat) (n : Nat) : ∀ h, alikeS h (l ++ [n]) = alikeS h l + (if n = lastS h l then 1 else 0) := by
  induction l with
  | nil => intro h; show (if n = h then 1 else 0) + 0 = 0 + (if n = h then 1 else 0); omega
  | cons m l ih =>
    intro h
    simp only [List.cons_append, alikeS, lastS]
    rw [ih m, Nat.add_assoc]
    rfl
theorem alikeS_take (l : List Nat) (i : Nat) (hi : i < l.length) : alikeS 0 (l.take (i + 1)) = alikeS 0 (l.take i) + (if l[i]?.getD 0 = (if i = 0 then 0 else l[i - 1]?.getD 0) then 1 else 0) := by
  rw [List.take_succ_eq_append_getElem hi, alikeS_snoc]
  rw [List.getElem?_eq_getElem hi, Option.getD_some]
  congr 3
  cases i with
  | zero => rfl
  | succ j =>
    rw [if_neg (by omega), List.take_succ_eq_append_getElem (by omega), lastS_snoc, Nat.add_sub_cancel, List.getElem?_eq_getElem (show j < l.length by omega)]
    rfl
/-- from two bits to as many as there are tables, or one -/
theorem alike_bounds (t : Nat) (ht2 : 2 ≤ t) (ht6 : t ≤ 6) (l : List Nat) : ∀ (p : List Nat), Tabs t p → (∀ n ∈ l, n < t) →
    alikeS (p.getD 0 0) l + 2 * (l.length - alikeS (p.getD 0 0) l) ≤ (selL p l).length ∧ (selL p l).length ≤ alikeS (p.getD 0 0) l + t * (l.length - alikeS (p.getD 0 0) l) := by
  induction l with
  | nil => intro p _ _; simp [alikeS, selL]
  | cons n l ih =>
    intro p hp hm
    obtain ⟨h1, h2⟩ := tabs_idx hp ht6 (hm n (by simp))
    obtain ⟨k1, k2⟩ := ih _ (mtf_tabs hp ht6 h1) fun x hx => hm x (by simp [hx])
    have hmt : (mtf p (p.idxOf n)).getD 0 0 = n := h2
    rw [hmt] at k1 k2
    have hal := alikeS_le l n
    simp only [selL, alikeS, List.length_append, length_unary, List.length_cons]
    by_cases hn : n = p.getD 0 0
    · have h0 : p.idxOf n = 0 := by
        have := (tabs_at hp ht6 (show 0 < t by omega)).2
        rw [← hn] at this
        exact this
      rw [h0] at k1 k2
      rw [if_pos hn, h0]
      rw [show l.length + 1 - (1 + alikeS n l) = l.length - alikeS n l by omega]
      omega
    · have h0 : p.idxOf n ≠ 0 := fun h => hn (by rw [h] at h2; exact h2.symm)
      rw [if_neg hn]
      rw [show l.length + 1 - (0 + alikeS n l) = (l.length - alikeS n l) + 1 by omega, Nat.mul_add, Nat.mul_add]
      omega
theorem selR_err (s : List UInt8) (t a c : Nat) (e : Int) (h : selR s t a c = .error e) : e = 2 ∨ e = 3 := by
  unfold selR at h
  cases hs : selP t c (List.range 6) (rest s a) with
  | error e' =>
    rw [hs] at h
    simp only [Except.error.injEq] at h
    subst h
    exact selP_err t c _ _ _ hs
  | ok z => rw [hs] at h; cases h
theorem selR_ok (s : List UInt8) (t c : Nat) (ht2 : 2 ≤ t) (ht6 : t ≤ 6) (l : List Nat) (x : Nat) (h : selR s t 0 c = .ok (l, x)) :
    l.length = c ∧ (∀ n ∈ l, n < t) ∧ (selL (List.range 6) l).length = x ∧ x ≤ 8 * s.length ∧ B.slice s 0 x = selL (List.range 6) l ∧ alikeS 0 l + 2 * (c - alikeS 0 l) ≤ x ∧ x ≤ alikeS 0 l + t * (c - alikeS 0 l) := by
  unfold selR at h
  cases hs : selP t c (List.range 6) (rest s 0) with
  | error e' => rw [hs] at h; cases h
  | ok z =>
    obtain ⟨m, r⟩ := z
    rw [hs] at h
    simp only [Except.ok.injEq, Prod.mk.injEq] at h
    obtain ⟨rfl, hx⟩ := h
    obtain ⟨h1, h2, h3⟩ := selP_ok t ht6 (by omega) c _ _ _ _ (tabs_start t ht6) hs
    obtain ⟨b1, b2⟩ := alike_bounds t ht2 ht6 m _ (tabs_start t ht6) h2
    rw [show (List.range 6).getD 0 0 = 0 from rfl, h1] at b1 b2
    have hrl := length_rest s 0
    have hl := congrArg List.length h3
    rw [List.length_append] at hl
    have hxe : x = (selL (List.range 6) m).length := by omega
    refine ⟨h1, h2, hxe.symm, by omega, ?_, by omega, by omega⟩
    have hadd := rest_add s 0 x (by omega)
    rw [h3] at hadd
    have := List.append_inj_left hadd (by rw [B.length_slice]; exact hxe.symm)
    exact this.symm

set_option maxRecDepth 100000 in
set_option maxHeartbeats 6400000 in
theorem slong_walk (w : World) (s : ByteArray) (tables n : Int) (hs : s.size ≤ 9223372036854775807) (ht : -9223372036854775808 ≤ tables) (ht' : tables ≤ 9223372036854775807) (hn : -9223372036854775808 ≤ n) (hn' : n ≤ 9223372036854775807) :
    Calls Try.prog 7 #[.string s, .int .i64 tables, .int .i64 n] w fun e w' => e = .returned (.bool true) ∧ Below w.heap.size w w' := by
  obtain ⟨L, hL⟩ : ∃ L : Nat, L = min s.size 40 := ⟨_, rfl⟩
  have hL1 : (if (40 : Int) < s.size then 40 else (s.size : Int)) = L := by rw [hL]; split <;> omega
  have hL2 : L ≤ s.size := by omega
  have hL3 : L ≤ 40 := by omega
  have hfr := front_size s L hL2
  unfold front at hfr
  have hp5 := pickF_lt tables 5 (by omega)
  obtain ⟨a, ha⟩ : ∃ k : Nat, pickF tables 5 = (k : Int) := ⟨(pickF tables 5).toNat, by omega⟩
  obtain ⟨t, hta⟩ : ∃ t, t = 2 + a := ⟨_, rfl⟩
  have hta2 : (2 : Int) + (a : Int) = (t : Int) := by omega
  have ht2 : 2 ≤ t := by omega
  have ht6 : t ≤ 6 := by omega
  have hpn := pickF_lt n 60 (by omega)
  obtain ⟨c, hc⟩ : ∃ k : Nat, pickF n 60 = (k : Int) := ⟨(pickF n 60).toNat, by omega⟩
  have hc60 : c < 60 := by omega
  have HA := Lib.hid ha
  have HC := Lib.hid hc
  obtain ⟨y, hy⟩ : ∃ y, s.extract 0 L = y := ⟨_, rfl⟩
  rw [hy] at hfr
  have hys : y.size ≤ 40 := by omega
  have Hy := Lib.hid hy
  have hperr := selR_err y.data.toList t 0 c
  have hpok := fun l x => selR_ok y.data.toList t c ht2 ht6 l x
  have TO := Lib.hid (fun (W : World) l x h => take_ok W y 0 c t l x (by omega) (by omega) (by omega) ⟨ht2, ht6⟩ h)
  have TE := Lib.hid (fun (W : World) e h => take_er W y 0 c t e (by omega) (by omega) (by omega) ⟨ht2, ht6⟩ h)
  clear hL hy hfr ha hp5 hta hpn hc
  go_enter Try.func7, Try.ntmps7
  have E0 := Lib.hid (Env.nil w)
  go_wp2_with fail
  refine (awake12_any _).mono ?_
  rintro e w1 ⟨rfl, hB⟩
  have E1 := Lib.hid (E0.out.step hB)
  clear E0 hB  
  go_wp2_with fail
  refine (pick12_any tables 5 _ ht ht' (by omega) (by omega)).mono ?_
  rintro e w_ ⟨rfl, rfl⟩
  rw [HA.out]
  go_wp2_with fail
  rw [Hy.out]
  refine (pick12_any n 60 _ hn hn' (by omega) (by omega)).mono ?_
  rintro e w_ ⟨rfl, rfl⟩
  rw [HC.out]
  clear hL1 hL2 hL3
  go_wp2_with fail
  cases hr : selR y.data.toList t 0 c with
  | error e =>
    have he := hperr e hr
    have C1 := Lib.hid (TE.out w1 e hr)
    refine C1.out.mono ?_
    rintro ee w2 ⟨rfl, hB⟩
    have E2 := Lib.hid (E1.out.step hB)
    clear hB E1 C1 hperr hpok hr TO TE
    rcases he with rfl | rfl
    all_goals
      go_wp2
      go_ret
      exact ⟨rfl, E2.out.bel⟩
  | ok z =>
    obtain ⟨l, x⟩ := z
    obtain ⟨hll, hlm, hxl, hle, hsl, hb1, hb2⟩ := hpok l x hr
    have C1 := Lib.hid (TO.out w1 l x hr)
    have CP : Hid (∀ W (u : Value), IsInts W W.heap.size u (ints l) → Calls Try.prog 11 #[u, .int .i64 (t : Nat)] W fun e w' => e = .returned (.tuple #[.agg #[.string (txt (selL (List.range 6) l)), .int .i64 ((selL (List.range 6) l).length : Nat)], .int .i64 0]) ∧ Below W.heap.size W w') := fun W u h => selPut_any W u l t h (by omega) ht2 ht6 hlm
    obtain ⟨D, hD⟩ : ∃ D, selL (List.range 6) l = D := ⟨_, rfl⟩
    rw [hD] at CP hsl hxl
    rw [hxl] at CP
    have hyl : y.data.toList.length = y.size := by simp
    have CX : Hid (∀ W, Calls Try.prog 19 #[.string y, .int .i64 0, .agg #[.string (txt D), .int .i64 (x : Nat)]] W fun e w' => e = .returned (.bool true) ∧ Below W.heap.size W w') := fun W => by
      have h := same_any W y (txt D) 0 (x : Nat) (by omega) (by rw [txt_size]; omega) (by omega) (by omega)
      rw [txt_list] at h
      have h2 : sameB y.data.toList 0 (B.pack D) (D.length : Nat) = true := sameB_pack y.data.toList 0 D (by omega) (by rw [hxl]; exact hsl)
      rw [hxl] at h2
      rw [h2] at h
      exact h
    have HL := Lib.hid hll
    have Hat : Hid (∀ i, i < c → (ints l)[i]? = some ((l[i]?.getD 0 : Nat) : Int)) := fun i hi => by simp [ints, List.getElem?_eq_getElem (show i < l.length by omega)]
    have Hst : Hid (∀ i, i < c → alikeS 0 (l.take (i + 1)) = alikeS 0 (l.take i) + (if l[i]?.getD 0 = (if i = 0 then 0 else l[i - 1]?.getD 0) then 1 else 0)) := fun i hi => alikeS_take l i (by omega)
    have Hal : Hid (∀ i, alikeS 0 (l.take i) ≤ i) := fun i => Nat.le_trans (alikeS_le _ _) (by rw [List.length_take]; omega)
    have Hfull : Hid (alikeS 0 (l.take c) = alikeS 0 l) := by show _ = _; rw [List.take_of_length_le (by omega)]
    have hz0 : alikeS 0 (l.take 0) = 0 := rfl
    have Hz := Lib.hid hz0
    have hx240 : x ≤ 320 := by omega
    have Hlt : Hid (∀ i, i < c → l[i]?.getD 0 < 6) := fun i hi => by
      rw [List.getElem?_eq_getElem (show i < l.length by omega)]
      exact Nat.lt_of_lt_of_le (hlm _ (List.getElem_mem _)) ht6
    have HB1 := Lib.hid hb1
    have HB2 := Lib.hid hb2
    rw [hll] at C1
    clear hr hll hlm hxl hle hsl hD hyl hperr hpok TO TE hz0 hb1 hb2
    refine C1.out.mono ?_
    rintro ee w2 ⟨q2, c2, rfl, hv, hB⟩
    have E2 := Lib.hid ((E1.out.step hB).add hv)
    clear hB E1 C1 hv
    go_wp2_with fail
    refine (CP.out _ _ (E2.out.get 0 rfl)).mono ?_
    rintro e w3 ⟨rfl, hB⟩
    have E3 := Lib.hid (E2.out.step hB)
    clear E2 hB  
    have E4 := Lib.hid (E3.out.box #[.string (txt D), .int .i64 (x : Nat)] 28 (w3.heap.size) (by simp))
    clear E3 
    have k_b0 := E4.out.cellv 0 rfl 0 _ rfl
    have k_b1 := E4.out.cellv 0 rfl 1 _ rfl
    go_wp2_with fail
    refine (pick12_any n 60 _ hn hn' (by omega) (by omega)).mono ?_
    rintro e w_ ⟨rfl, rfl⟩
    rw [HC.out]
    go_wp2_with fail
    refine (CX.out _).mono ?_
    rintro e w4 ⟨rfl, hB⟩
    have E5 := Lib.hid (E4.out.step hB)
    clear E4 hB  
    clear CP CX
    go_wp2_with fail
    go_loopw [15, 16] (fun av iv wr => ∃ i : Nat, i ≤ c ∧ iv = .int .i64 i ∧ av = .int .i64 (alikeS 0 (l.take i) : Nat) ∧ Env w wr [(.slice q2 c c2, ints l)] [(w3.heap.size, #[.string (txt D), .int .i64 (x : Nat)], 28)]) (fun _ iv _ => c + 1 - (intOf iv).toNat)
    case atStart => exact ⟨0, Nat.zero_le _, rfl, by rw [Hz.out]; rfl, E5.out⟩
    case round =>
      obtain ⟨i, hi, rfl, rfl, hE⟩ := hrel
      have HE := Lib.hid hE
      clear hE E5
      obtain ⟨al, hal⟩ : ∃ x, alikeS 0 (l.take i) = x := ⟨_, rfl⟩
      have hali := Hal.out i
      rw [hal] at hali ⊢
      have HAL := Lib.hid hal
      clear hal
      by_cases hlt : i < c
      · obtain ⟨g, o, rfl, hg, hx⟩ := (HE.out.get 0 rfl).at i (by rw [length_ints, HL.out]; exact hlt)
        rw [Hat.out i hlt] at hx
        have hst := Hst.out i hlt
        rw [HAL.out] at hst
        obtain ⟨u, hu⟩ : ∃ u, l[i]?.getD 0 = u := ⟨_, rfl⟩
        have hu6 := Hlt.out i hlt
        rw [hu] at hx hst hu6
        clear hu
        rcases Nat.eq_zero_or_pos i with hi0 | hi0
        · subst hi0
          rw [if_pos rfl] at hst
          rw [Nat.add_zero] at hx
          by_cases hq : u = 0
          · rw [if_pos hq] at hst
            have HST := Lib.hid hst
            subst hq
            clear hst
            go_wp2_with fail
            go_roundw
            case rel => exact ⟨1, by omega, by go_num, by rw [HST.out]; go_num, HE.out⟩
            case measure => simp [intOf]
          · rw [if_neg hq] at hst
            have HST := Lib.hid hst
            clear hst
            go_wp2_with fail
            go_roundw
            case rel => exact ⟨1, by omega, by go_num, by rw [HST.out]; go_num, HE.out⟩
            case measure => simp [intOf]
        · obtain ⟨g', o', he, hg', hy⟩ := (HE.out.get 0 rfl).at (i - 1) (by rw [length_ints, HL.out]; omega)
          obtain ⟨rfl, rfl⟩ : g = g' ∧ o = o' := by
            injection he with he
            injection he with h1 h2
            exact ⟨h1, h2⟩
          rw [Hat.out (i - 1) (by omega)] at hy
          obtain ⟨v, hv⟩ : ∃ v, l[i - 1]?.getD 0 = v := ⟨_, rfl⟩
          rw [if_neg (show ¬ i = 0 by omega), hv] at hst
          rw [hv] at hy
          have hv6 := Hlt.out (i - 1) (by omega)
          rw [hv] at hv6
          obtain ⟨j, rfl⟩ : ∃ j, i = j + 1 := ⟨i - 1, by omega⟩
          rw [Nat.add_sub_cancel] at hy
          have hj : ((j + 1 : Nat) : Int) - 1 = (j : Int) := by omega
          have hj0 : ¬ ((j + 1 : Nat) : Int) ≤ 0 := by omega
          clear he hg' hv
          by_cases hq : u = v
          · rw [if_pos hq] at hst
            have HST := Lib.hid hst
            subst hq
            clear hst
            go_wp2_with fail
            go_roundw
            case rel => exact ⟨j + 1 + 1, by omega, by go_num, by rw [HST.out]; go_num, HE.out⟩
            case measure => simp [intOf]; omega
          · rw [if_neg hq] at hst
            have HST := Lib.hid hst
            clear hst
            go_wp2_with fail
            go_roundw
            case rel => exact ⟨j + 1 + 1, by omega, by go_num, by rw [HST.out]; go_num, HE.out⟩
            case measure => simp [intOf]; omega
      · obtain rfl : i = c := by omega
        have hb1 := HB1.out
        have hb2 := HB2.out
        rw [← Hfull.out, HAL.out] at hb1 hb2
        obtain ⟨df, hdf⟩ : ∃ d, i - al = d := ⟨_, rfl⟩
        rw [hdf] at hb1 hb2
        have hd1 : (i : Int) - (al : Int) = (df : Int) := by omega
        have hdf2 : df ≤ 60 := by omega
        have hal2 : al ≤ 60 := by omega
        obtain ⟨M, hM⟩ : ∃ M, t * df = M := ⟨_, rfl⟩
        rw [hM] at hb2
        have hM1 : (t : Int) * (df : Int) = (M : Int) := by rw [← hM]; simp
        have hM2 : M ≤ 360 := by rw [← hM]; exact Nat.le_trans (Nat.mul_le_mul ht6 hdf2) (by omega)
        have k_b1 := HE.out.cellv 0 rfl 1 _ rfl
        have hle1 : decide ((al : Int) + 2 * (df : Int) ≤ (x : Int)) = true := by rw [decide_eq_true_eq]; omega
        have hle2 : decide ((x : Int) ≤ (al : Int) + (M : Int)) = true := by rw [decide_eq_true_eq]; omega
        clear hM hdf HB1 HB2 Hfull HAL Hz Hat Hst
        go_wp2
        go_ret
        exact ⟨rfl, HE.out.bel⟩
end Go.Proofs.Ytpccdohhiojlkaa
