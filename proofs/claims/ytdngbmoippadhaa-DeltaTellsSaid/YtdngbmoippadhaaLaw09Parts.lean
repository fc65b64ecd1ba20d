/- DeltaParts: the walk. -/
import Derived.Test.YtdngbmoippadhaaLaw09Long
namespace Go.Proofs.Ytdngbmoippadhaa
open Go.RowKit
set_option linter.unusedVariables false

theorem lens_rng (l : List Nat) (i : Nat) (hm : ∀ n ∈ l, 1 ≤ n ∧ n ≤ 20) (hi : i < l.length) : 1 ≤ l[i]?.getD 0 ∧ l[i]?.getD 0 ≤ 20 := by
  rw [List.getElem?_eq_getElem hi]
  exact hm _ (List.getElem_mem hi)
theorem takeR_le (s : List UInt8) (a c : Nat) (l : List Nat) (x : Nat) (h : takeR s a c = .ok (l, x)) : x ≤ 8 * s.length := by
  rcases Nat.lt_or_ge (8 * s.length) a with ha | ha
  · rw [takeR_past s a c ha] at h
    cases h
  · rw [takeR_deltaP s a c ha] at h
    cases hd : deltaP c (rest s a) with
    | error e => rw [hd] at h; cases h
    | ok z =>
      rw [hd] at h
      simp only [placed, Except.ok.injEq, Prod.mk.injEq] at h
      omega
theorem parts_err (s : List UInt8) (m f : Nat) (hf : f ≤ m) (e : Int) (h : takeR s 0 m = .error e) : (e = 2 ∨ e = 3) ∧ (takeR s 0 f = .error e ∨ ∃ p y, takeR s 0 f = .ok (p, y)) := by
  rw [takeR_deltaP s 0 m (Nat.zero_le _)] at h
  rw [takeR_deltaP s 0 f (Nat.zero_le _)]
  have ha := deltaP_add f (m - f) (rest s 0)
  rw [show f + (m - f) = m by omega] at ha
  cases hd : deltaP m (rest s 0) with
  | ok z => rw [hd] at h; cases h
  | error e' =>
    rw [hd] at h
    simp only [placed, Except.error.injEq] at h
    subst h
    refine ⟨deltaP_err _ _ _ hd, ?_⟩
    cases hd2 : deltaP f (rest s 0) with
    | ok z => exact .inr ⟨_, _, rfl⟩
    | error e2 =>
      have := ha.1 e2 hd2
      rw [hd] at this
      injection this with this
      rw [this]
      exact .inl rfl
theorem parts_ok (s : List UInt8) (m f : Nat) (hm : 0 < m) (hf : f ≤ m) (l : List Nat) (x : Nat) (h : takeR s 0 m = .ok (l, x)) : ∃ p y, takeR s 0 f = .ok (p, y) ∧ p = l.take f ∧ l.length = m ∧ (∀ n ∈ l, 1 ≤ n ∧ n ≤ 20) ∧ y ≤ x ∧ (deltaL l).length ≤ x ∧ (f = m → y = x) := by
  have h0 := h
  rw [takeR_deltaP s 0 m (Nat.zero_le _)] at h
  rw [takeR_deltaP s 0 f (Nat.zero_le _)]
  have ha := deltaP_add f (m - f) (rest s 0)
  rw [show f + (m - f) = m by omega] at ha
  cases hd : deltaP m (rest s 0) with
  | error e => rw [hd] at h; cases h
  | ok z =>
    obtain ⟨l', r⟩ := z
    rw [hd] at h
    simp only [placed, Except.ok.injEq, Prod.mk.injEq] at h
    obtain ⟨rfl, rfl⟩ := h
    obtain ⟨g1, g2, c, hc, g3, _⟩ := deltaP_short m _ _ _ hm hd
    have hcl := congrArg List.length hc
    rw [length_rest, List.length_append] at hcl
    cases hd2 : deltaP f (rest s 0) with
    | error e2 =>
      have := ha.1 e2 hd2
      rw [hd] at this
      cases this
    | ok z =>
      obtain ⟨p, r2⟩ := z
      obtain ⟨k, hk⟩ := ha.2 p r2 hd2
      rw [hd] at hk
      cases ht : takeP (m - f) k r2 with
      | error e => rw [ht] at hk; cases hk
      | ok z =>
        obtain ⟨l2, r3⟩ := z
        rw [ht] at hk
        simp only [preE, Except.ok.injEq, Prod.mk.injEq] at hk
        obtain ⟨rfl, rfl⟩ := hk
        obtain ⟨t1, _, c2, hc2, _, _⟩ := takeP_split _ _ _ _ _ ht
        have hc2l := congrArg List.length hc2
        rw [List.length_append] at hc2l
        rw [List.length_append] at g1
        refine ⟨p, _, rfl, ?_, by rw [List.length_append]; exact g1, g2, ?_, ?_, fun e => ?_⟩
        · rw [List.take_append_of_le_length (by omega), List.take_of_length_le (by omega)]
        · omega
        · omega
        · subst e
          rw [Nat.sub_self] at ht
          simp only [takeP, Except.ok.injEq, Prod.mk.injEq] at ht
          rw [ht.2]

set_option maxRecDepth 100000 in
set_option maxHeartbeats 6400000 in
theorem dparts_walk (w : World) (s : ByteArray) (n k : Int) (hs : s.size ≤ 9223372036854775807) (hn : -9223372036854775808 ≤ n) (hn' : n ≤ 9223372036854775807) (hk : -9223372036854775808 ≤ k) (hk' : k ≤ 9223372036854775807) :
    Calls Try.prog 5 #[.string s, .int .i64 n, .int .i64 k] w fun e w' => e = .returned (.bool true) ∧ Below w.heap.size w w' := by
  obtain ⟨L, hL⟩ : ∃ L : Nat, L = min s.size 60 := ⟨_, rfl⟩
  have hL1 : (if (60 : Int) < s.size then 60 else (s.size : Int)) = L := by rw [hL]; split <;> omega
  have hL2 : L ≤ s.size := by omega
  have hL3 : L ≤ 60 := by omega
  have hfr := front_size s L hL2
  unfold front at hfr
  have hp := pickF_lt n 20 (by omega)
  obtain ⟨a, ha⟩ : ∃ k : Nat, pickF n 20 = (k : Int) := ⟨(pickF n 20).toNat, by omega⟩
  obtain ⟨m, hm⟩ : ∃ m, m = 3 + a := ⟨_, rfl⟩
  have hma : (3 : Int) + (a : Int) = (m : Int) := by omega
  have hm22 : m ≤ 22 := by omega
  have hm3 : 3 ≤ m := by omega
  have hq := pickF_lt k ((m : Int) - 1) (by omega)
  obtain ⟨b, hb⟩ : ∃ j : Nat, pickF k ((m : Int) - 1) = (j : Int) := ⟨(pickF k ((m : Int) - 1)).toNat, by omega⟩
  obtain ⟨f, hf⟩ : ∃ f, f = 2 + b := ⟨_, rfl⟩
  have hfb : (2 : Int) + (b : Int) = (f : Int) := by omega
  have hfm : f ≤ m := by omega
  have hf2 : 2 ≤ f := by omega
  have HA := Lib.hid ha
  have HB := Lib.hid hb
  obtain ⟨t, ht⟩ : ∃ t, s.extract 0 L = t := ⟨_, rfl⟩
  rw [ht] at hfr
  have hts : t.size ≤ 60 := by omega
  have Ht := Lib.hid ht
  have hperr := parts_err t.data.toList m f hfm
  have hpok := parts_ok t.data.toList m f (by omega) hfm
  have hle := fun l x (h : takeR t.data.toList m f = .ok (l, x)) => trivial
  have TO := Lib.hid (fun (W : World) (c : Nat) (hc : 2 ≤ c ∧ c ≤ 22) l x h => take_ok W t 0 c l x (by omega) (by omega) (by omega) h)
  have TE := Lib.hid (fun (W : World) (c : Nat) (hc : 2 ≤ c ∧ c ≤ 22) e h => take_er W t 0 c e (by omega) (by omega) (by omega) h)
  clear hL ht hfr ha hb hp hq hm hf hle
  go_enter Try.func5, Try.ntmps5
  have E0 := Lib.hid (Env.nil w)
  go_wp2_with fail
  refine (awake9_any _).mono ?_
  rintro e w1 ⟨rfl, hB⟩
  have E1 := Lib.hid (E0.out.step hB)
  clear E0 hB  
  go_wp2_with fail
  rw [Ht.out]
  refine (pick09_any n 20 _ hn hn' (by omega) (by omega)).mono ?_
  rintro e w_ ⟨rfl, rfl⟩
  rw [HA.out]
  go_wp2_with fail
  refine (pick09_any k _ _ hk hk' (by omega) (by omega)).mono ?_
  rintro e w_ ⟨rfl, rfl⟩
  rw [HB.out]
  clear hL1 hL2 hL3
  go_wp2_with fail
  cases hr : takeR t.data.toList 0 m with
  | error e =>
    obtain ⟨he, hf⟩ := hperr e hr
    have C1 := Lib.hid (TE.out w1 m (by omega) e hr)
    refine C1.out.mono ?_
    rintro ee w2 ⟨rfl, hB⟩
    have E2 := Lib.hid (E1.out.step hB)
    clear hB E1 C1 hperr hpok hr
    have hne : (e == (0 : Int)) = false := by rw [beq_eq_false_iff_ne]; omega
    rcases hf with hf | ⟨p, y, hf⟩
    · have C2 := Lib.hid (TE.out w2 f (by omega) e hf)
      clear hf
      rcases he with rfl | rfl
      all_goals
        go_wp2_with fail
        refine C2.out.mono ?_
        rintro ee w3 ⟨rfl, hB⟩
        have E3 := Lib.hid (E2.out.step hB)
        clear hB E2 C2
        go_wp2
        go_ret
        exact ⟨rfl, E3.out.bel⟩
    · have C2 := Lib.hid (TO.out w2 f (by omega) p y hf)
      clear hf
      rcases he with rfl | rfl
      all_goals
        go_wp2_with fail
        refine C2.out.mono ?_
        rintro ee w3 ⟨q3, c3, rfl, hv, hB⟩
        have E3 := Lib.hid (E2.out.step hB)
        clear hB E2 C2 hv
        go_wp2
        go_ret
        exact ⟨rfl, E3.out.bel⟩
  | ok z =>
    obtain ⟨l, x⟩ := z
    obtain ⟨p, y, hf, hpl, hll, hlm, hyx, hdx, hfy⟩ := hpok l x hr
    have C1 := Lib.hid (TO.out w1 m (by omega) l x hr)
    have C2 := Lib.hid (fun W => TO.out W f (by omega) p y hf)
    have hlx : x ≤ 8 * t.size := by have := takeR_le _ _ _ _ _ hr; simpa using this
    have CP : Hid (∀ W (u : Value), IsInts W W.heap.size u (ints l) → Calls Try.prog 11 #[u] W fun e w' => e = .returned (.tuple #[.agg #[.string (txt (deltaL l)), .int .i64 ((deltaL l).length : Nat)], .int .i64 0]) ∧ Below W.heap.size W w') := fun W u h => delta_put_ok W u l h (by omega) (by omega) hlm
    have hpf : p.length = f := by rw [hpl, List.length_take]; omega
    have HL := Lib.hid hll
    have HP := Lib.hid hpf
    have Hat := Lib.hid (fun i (hi : i < l.length) => lensAt l i hi)
    have Hpat := Lib.hid (fun i (hi : i < p.length) => lensAt p i hi)
    have Hlm := Lib.hid (fun i (hi : i < l.length) => lens_rng l i hlm hi)
    have Hpl : Hid (∀ i, i < f → p[i]?.getD 0 = l[i]?.getD 0) := fun i hi => by rw [hpl, List.getElem?_take, if_pos hi]
    have Hfy := Lib.hid hfy
    rw [hll] at C1
    rw [hpf] at C2
    generalize deltaL l = D at *
    obtain ⟨d, hd⟩ : ∃ d, D.length = d := ⟨_, rfl⟩
    rw [hd] at CP hdx
    clear hr hf hpl hll hlm hfy hpf hperr hpok TO TE hd
    refine C1.out.mono ?_
    rintro ee w2 ⟨q2, c2, rfl, hv, hB⟩
    have E2 := Lib.hid ((E1.out.step hB).add hv)
    clear hB E1 C1 hv
    go_wp2_with fail
    refine (C2.out _).mono ?_
    rintro e w3 ⟨q3, c3, rfl, hv, hB⟩
    have E3 := Lib.hid ((E2.out.step hB).add hv)
    clear E2 hB hv 
    go_wp2_with fail
    refine (CP.out _ _ (E3.out.get 1 rfl)).mono ?_
    rintro e w4 ⟨rfl, hB⟩
    have E4 := Lib.hid (E3.out.step hB)
    clear E3 hB  
    have E5 := Lib.hid (E4.out.box #[.string (txt D), .int .i64 (d : Nat)] 27 (w4.heap.size) (by simp))
    clear E4 
    have k_b0 := E5.out.cellv 0 rfl 0 _ rfl
    have k_b1 := E5.out.cellv 0 rfl 1 _ rfl
    clear C2 CP
    go_wp2_with fail
    go_loopw [19] (fun iv wr => ∃ i : Nat, i ≤ m ∧ iv = .int .i64 i ∧ Env w wr [(.slice q3 f c3, ints p), (.slice q2 m c2, ints l)] [(w4.heap.size, #[.string (txt D), .int .i64 (d : Nat)], 27)]) (fun iv _ => m + 1 - (intOf iv).toNat)
    case atStart => exact ⟨0, by omega, rfl, E5.out⟩
    case round =>
      obtain ⟨i, hi, rfl, hE⟩ := hrel
      have HE := Lib.hid hE
      clear hE E5 k_b0 k_b1
      by_cases hlt : i < m
      · obtain ⟨ga, oa, rfl, hga, hx⟩ := (HE.out.get 1 rfl).at i (by rw [length_ints, HL.out]; exact hlt)
        rw [Hat.out i (by rw [HL.out]; exact hlt)] at hx
        obtain ⟨r1, r2⟩ := Hlm.out i (by rw [HL.out]; exact hlt)
        have hpi := Hpl.out i
        obtain ⟨v, hv⟩ : ∃ v, l[i]?.getD 0 = v := ⟨_, rfl⟩
        rw [hv] at hx r1 r2 hpi
        clear hv
        by_cases hif : i < f
        · obtain ⟨gb, ob, rfl, hgb, hy⟩ := (HE.out.get 0 rfl).at i (by rw [length_ints, HP.out]; exact hif)
          rw [Hpat.out i (by rw [HP.out]; exact hif), hpi hif] at hy
          have g1 : decide ((v : Int) < 1) = false := by simp; omega
          have g2 : decide ((20 : Int) < (v : Int)) = false := by simp; omega
          have g3 : decide (i < f) = true := by simp; omega
          clear hpi
          go_wp2_with fail
          go_quiet (fail)
          go_wp2_with fail
          go_roundw
          case rel => exact ⟨i + 1, by omega, by go_num, HE.out.drewN _⟩
          case measure => simp [intOf]; omega
        · have g1 : decide ((v : Int) < 1) = false := by simp; omega
          have g2 : decide ((20 : Int) < (v : Int)) = false := by simp; omega
          have g3 : decide (i < f) = false := by simp; omega
          clear hpi
          go_wp2_with fail
          go_quiet (fail)
          go_wp2_with fail
          go_roundw
          case rel => exact ⟨i + 1, by omega, by go_num, HE.out.drewN _⟩
          case measure => simp [intOf]; omega
      · obtain rfl : i = m := by omega
        rcases Nat.lt_or_ge f i with hfi | hfi
        · have g3 : decide (f < i) = true := by simp; omega
          go_wp2
          go_ret
          exact ⟨rfl, HE.out.bel⟩
        · have g3 : decide (f < i) = false := by simp; omega
          obtain rfl : y = x := Hfy.out (by omega)
          go_wp2
          go_ret
          exact ⟨rfl, HE.out.bel⟩
end Go.Proofs.Ytdngbmoippadhaa
