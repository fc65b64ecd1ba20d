/- DeltaLong: the walk. -/
import Derived.Test.YtdngbmoippadhaaLens09
namespace Go.Proofs.Ytdngbmoippadhaa
open Go.RowKit
set_option linter.unusedVariables false

/-- how far lengths are from one to the next -/
def distR : Nat → List Nat → Nat
  | _, [] => 0
  | now, n :: ns => (n - now) + (now - n) + distR n ns
theorem distR_snoc (l : List Nat) (m : Nat) : ∀ now, distR now (l ++ [m]) = distR now l + ((m - l.getLastD now) + (l.getLastD now - m)) := by
  induction l with
  | nil => intro now; simp [distR]
  | cons n l ih =>
    intro now
    rw [List.cons_append, distR, distR, ih n, List.getLastD_cons]
    omega
theorem length_rowsB_dist (l : List Nat) : ∀ now, (rowsB now l).length = l.length + 2 * distR now l := by
  induction l with
  | nil => intro now; rfl
  | cons n l ih =>
    intro now
    rw [rowsB, List.length_append, length_stepB, ih, distR, List.length_cons]
    omega
theorem length_deltaL_dist (l : List Nat) : (deltaL l).length = 5 + l.length + 2 * distR (l.headD 0) l := by
  unfold deltaL
  rw [List.length_append, B.length_low, length_rowsB_dist]
  omega
theorem distR_alike (n h : Nat) : distR h (List.replicate n h) = 0 := by
  induction n with
  | zero => rfl
  | succ n ih => rw [List.replicate_succ, distR, ih]; omega
theorem length_deltaL_alike (n h : Nat) (hn : 0 < n) : (deltaL (List.replicate n h)).length = 5 + n := by
  obtain ⟨m, rfl⟩ : ∃ m, n = m + 1 := ⟨n - 1, by omega⟩
  rw [length_deltaL_dist, List.length_replicate, List.replicate_succ, List.headD_cons, ← List.replicate_succ, distR_alike]
  omega
theorem distR_zero (l : List Nat) : ∀ h, distR h l = 0 → l = List.replicate l.length h := by
  induction l with
  | nil => intro h _; rfl
  | cons n l ih =>
    intro h hd
    rw [distR] at hd
    obtain rfl : n = h := by omega
    rw [List.length_cons, List.replicate_succ, ← ih n (by omega)]
theorem distR_le (l : List Nat) : ∀ h, h ≤ 20 → (∀ m ∈ l, m ≤ 20) → distR h l ≤ 20 * l.length := by
  induction l with
  | nil => intro h _ _; simp [distR]
  | cons n l ih =>
    intro h hh hm
    have h1 := hm n (by simp)
    have := ih n h1 fun m hm' => hm m (by simp [hm'])
    rw [distR, List.length_cons]
    omega
theorem headD_mem (l : List Nat) (h0 : l ≠ []) (hm : ∀ m ∈ l, 1 ≤ m ∧ m ≤ 20) : 1 ≤ l.headD 0 ∧ l.headD 0 ≤ 20 := by
  cases l with
  | nil => simp at h0
  | cons a l => exact hm a (by simp)
theorem headD_le (l : List Nat) (hm : ∀ m ∈ l, 1 ≤ m ∧ m ≤ 20) : l.headD 0 ≤ 20 := by
  cases l with
  | nil => simp
  | cons a l => exact (hm a (by simp)).2
theorem head_getD (l : List Nat) : l[0]?.getD 0 = l.headD 0 := by cases l <;> rfl
theorem distR_one (l : List Nat) : distR (l.headD 0) (l.take 1) = 0 := by
  cases l with
  | nil => rfl
  | cons a l => simp [distR]
theorem lensAt (l : List Nat) (i : Nat) (h : i < l.length) : (ints l)[i]?.getD 0 = ((l[i]?.getD 0 : Nat) : Int) := by
  simp [ints, List.getElem?_eq_getElem h]
theorem getD_le20 (l : List Nat) (i : Nat) (hm : ∀ m ∈ l, 1 ≤ m ∧ m ≤ 20) : l[i]?.getD 0 ≤ 20 := by
  rcases Nat.lt_or_ge i l.length with h | h
  · rw [List.getElem?_eq_getElem h]
    exact (hm _ (List.getElem_mem h)).2
  · rw [List.getElem?_eq_none h]
    exact Nat.zero_le _
theorem distR_take (l : List Nat) (h i : Nat) (h0 : 0 < i) (hi : i < l.length) : distR h (l.take (i + 1)) = distR h (l.take i) + ((l[i]?.getD 0 - l[i - 1]?.getD 0) + (l[i - 1]?.getD 0 - l[i]?.getD 0)) := by
  rw [List.take_succ_eq_append_getElem hi, distR_snoc]
  have e : (l.take i).getLastD h = l[i - 1]?.getD 0 := by
    rw [List.getLastD_eq_getLast?, List.getLast?_take, if_neg (by omega), List.getElem?_eq_getElem (by omega)]
    rfl
  rw [e, List.getElem?_eq_getElem hi]
  rfl
theorem distR_take_le (l : List Nat) (h n i : Nat) (hn : l.length = n) (hh : h ≤ 20) (hm : ∀ m ∈ l, 1 ≤ m ∧ m ≤ 20) : distR h (l.take i) ≤ 20 * n := by
  have := distR_le (l.take i) h hh fun m hm' => (hm m (List.mem_of_mem_take hm')).2
  rw [List.length_take] at this
  omega
theorem ints_inj {l m : List Nat} (h : ints l = ints m) : l = m := by
  have : (ints l).map Int.toNat = (ints m).map Int.toNat := by rw [h]
  simpa [ints, Function.comp_def] using this
/-- the first ones all alike -/
def alikeI (l : List Nat) (h i : Nat) : List Nat := List.replicate i h ++ l.drop i
theorem alikeI_zero (l : List Nat) (h : Nat) : alikeI l h 0 = l := rfl
theorem alikeI_all (l : List Nat) (h : Nat) : alikeI l h l.length = List.replicate l.length h := by simp [alikeI]
theorem length_alikeI (l : List Nat) (n h i : Nat) (hn : l.length = n) (hi : i ≤ n) : (alikeI l h i).length = n := by
  simp [alikeI]; omega
theorem alike_set (l : List Nat) (n h i : Nat) (hn : l.length = n) (hi : i < n) : (alikeI l h i).set i h = alikeI l h (i + 1) := by
  unfold alikeI
  rw [List.set_append_right _ _ (by simp), List.length_replicate, Nat.sub_self, List.drop_eq_getElem_cons (by omega), List.set_cons_zero, List.replicate_succ', List.append_assoc]
  rfl
theorem lensF_len (raw : List Int) : 2 ≤ (lensF raw).length ∧ (lensF raw).length ≤ 60 := by
  unfold lensF
  rw [lensI_len _ _ (Nat.min_le_left _ _)]
  omega
theorem lensF_mem (raw : List Int) : ∀ n ∈ lensF raw, 1 ≤ n ∧ n ≤ 20 := lensI_mem _ _
theorem lens09_is (W : World) (v : Value) (raw : List Int) (h : IsInts W W.heap.size v raw) (hr : I64s raw) : Calls Try.prog 10 #[v] W fun e w' => ∃ q c, e = .returned (.slice q (lensF raw).length c) ∧ IsInts w' w'.heap.size (.slice q (lensF raw).length c) (ints (lensF raw)) ∧ Below W.heap.size W w' := by
  refine (lens09_any W v raw h hr).mono ?_
  rintro e w' ⟨u, rfl, ho, hB⟩
  obtain ⟨q, c, rfl⟩ := ho.shape
  rw [length_ints] at ho ⊢
  exact ⟨q, c, rfl, ho.is, hB⟩

set_option maxRecDepth 100000 in
set_option maxHeartbeats 3200000 in
theorem dlong_walk (w : World) (v : Value) (raw : List Int) (hv : IsInts w w.heap.size v raw) (hr : I64s raw) :
    Calls Try.prog 4 #[v] w fun e w' => e = .returned (.bool true) ∧ Below w.heap.size w w' := by
  have HRW := Lib.hid hv
  have Hr := Lib.hid hr
  have hml := lensF_mem raw
  obtain ⟨hl2, hl60⟩ := lensF_len raw
  have CL : Hid (∀ W, IsInts W W.heap.size v raw → Calls Try.prog 10 #[v] W fun e w' => ∃ q c, e = .returned (.slice q (lensF raw).length c) ∧ IsInts w' w'.heap.size (.slice q (lensF raw).length c) (ints (lensF raw)) ∧ Below W.heap.size W w') := fun W h => lens09_is W v raw h hr
  generalize lensF raw = l at *
  obtain ⟨n, hn⟩ : ∃ n, l.length = n := ⟨_, rfl⟩
  obtain ⟨h, hh⟩ : ∃ h, l.headD 0 = h := ⟨_, rfl⟩
  have hdl : (deltaL l).length = 5 + n + 2 * distR h l := by rw [← hn, ← hh]; exact length_deltaL_dist l
  have hal : (deltaL (List.replicate n h)).length = 5 + n := length_deltaL_alike n h (by omega)
  have hdz : distR h l = 0 → l = List.replicate n h := by rw [← hn]; exact distR_zero l h
  have hdb : distR h l ≤ 20 * n := by rw [← hn]; exact distR_le l h (by rw [← hh]; exact headD_le l hml) (fun m hm => (hml m hm).2)
  have CP : Hid (∀ W (u : Value), IsInts W W.heap.size u (ints l) → Calls Try.prog 11 #[u] W fun e w' => e = .returned (.tuple #[.agg #[.string (txt (deltaL l)), .int .i64 ((deltaL l).length : Nat)], .int .i64 0]) ∧ Below W.heap.size W w') := fun W u h => delta_put_ok W u l h (by omega) (by omega) hml
  have CA : Hid (∀ W (u : Value), IsInts W W.heap.size u (ints (List.replicate n h)) → Calls Try.prog 11 #[u] W fun e w' => e = .returned (.tuple #[.agg #[.string (txt (deltaL (List.replicate n h))), .int .i64 ((deltaL (List.replicate n h)).length : Nat)], .int .i64 0]) ∧ Below W.heap.size W w') := fun W u h => delta_put_ok W u _ h (by simp; omega) (by simp; omega) (fun m hm => by rw [List.eq_of_mem_replicate hm, ← hh]; exact headD_mem l (by intro e; rw [e] at hl2; simp at hl2) hml)
  have CI : Hid (∀ W (u1 u2 : Value) (k : Nat), IsInts W W.heap.size u1 (ints l) → IsInts W W.heap.size u2 (ints (List.replicate n h)) → Calls Try.prog 16 #[u1, u2] (W.drewN k) fun e w' => e = .returned (.bool (decide (distR h l = 0))) ∧ ∃ m, w' = W.drewN m) := fun W u1 u2 k h1 h2 => by
    have := refInts_still (n := k) h1 h2 (by rw [length_ints]; omega) (by rw [length_ints]; simp; omega)
    rw [decide_eq_decide.2 (show ints l = ints (List.replicate n h) ↔ distR h l = 0 from ⟨fun e => by rw [ints_inj e]; exact distR_alike n h, fun e => congrArg ints (hdz e)⟩)] at this
    exact this
  have Hdz : Hid (distR h l = 0 → deltaL l = deltaL (List.replicate n h)) := fun e => congrArg deltaL (hdz e)
  have Hat := Lib.hid (fun i (hi : i < n) => lensAt l i (by rw [hn]; exact hi))
  have Hstep := Lib.hid (fun i (h0 : 0 < i) (hi : i < n) => distR_take l h i h0 (by rw [hn]; exact hi))
  have Hone : Hid (distR h (l.take 1) = 0) := by show _ = _; rw [← hh]; exact distR_one l
  have Hmem : Hid (∀ i, l[i]?.getD 0 ≤ 20) := fun i => getD_le20 l i hml
  have Hfull : Hid (l.take n = l) := by show _ = _; rw [← hn]; exact List.take_length
  have Hset := Lib.hid (fun i (hi : i < n) => alike_set l n h i hn hi)
  have Hal0 : Hid (alikeI l h 0 = l) := by show _ = _; exact alikeI_zero l h
  have Haln : Hid (alikeI l h n = List.replicate n h) := by show _ = _; rw [← hn]; exact alikeI_all l h
  have Hall : Hid (∀ i, i ≤ n → (alikeI l h i).length = n) := fun i hi => length_alikeI l n h i hn hi
  have Hdist : Hid (∀ i, distR h (l.take i) ≤ 20 * n) := fun i => distR_take_le l h n i hn (by rw [← hh]; exact headD_le l hml) hml
  have Hh : Hid (l[0]?.getD 0 = h) := by show _ = _; rw [← hh]; exact head_getD l
  generalize hB1 : deltaL l = B1 at *
  generalize hB2 : deltaL (List.replicate n h) = B2 at *
  have HB1 := Lib.hid hB1
  have HB2 := Lib.hid hB2
  obtain ⟨b1, hb1⟩ : ∃ b, B1.length = b := ⟨_, rfl⟩
  obtain ⟨b2, hb2⟩ : ∃ b, B2.length = b := ⟨_, rfl⟩
  obtain ⟨d, hd⟩ : ∃ d, distR h l = d := ⟨_, rfl⟩
  rw [hd] at hdl hdb CI Hdz
  rw [hb1] at hdl CP
  rw [hb2] at hal CA
  rw [hn] at CL
  have Hn := Lib.hid hn
  have Hd := Lib.hid hd
  have Hb1 := Lib.hid hb1
  have Hdl := Lib.hid hdl
  have Hal := Lib.hid hal
  have hb1' : b1 ≤ 5000 := by omega
  have hb2' : b2 ≤ 5000 := by omega
  rw [hn] at hl2 hl60
  clear hv hr hn hh hB1 hB2 hb1 hb2 hd hdz hml hdl hal hdb
  go_enter Try.func4, Try.ntmps4
  have E0 := Lib.hid (Env.nil w)
  go_wp2_with fail
  refine (awake9_any _).mono ?_
  rintro e w1 ⟨rfl, hB⟩
  have E1 := Lib.hid (E0.out.step hB)
  clear E0 hB  
  go_wp2_with fail
  refine (CL.out _ (E1.out.old HRW.out)).mono ?_
  rintro e w2 ⟨q1, c1, rfl, hv, hB⟩
  have E2 := Lib.hid ((E1.out.step hB).add hv)
  clear E1 hB hv 
  go_wp2_with fail
  refine (CP.out _ _ (E2.out.get 0 rfl)).mono ?_
  rintro e w3 ⟨rfl, hB⟩
  have E3 := Lib.hid (E2.out.step hB)
  clear E2 hB  
  have E4 := Lib.hid (E3.out.box #[.string (txt B1), .int .i64 (b1 : Nat)] 27 (w3.heap.size) (by simp))
  clear E3 
  clear CL CP
  go_wp2_with fail
  go_loopw [7, 8] (fun wv iv wr => ∃ i : Nat, 1 ≤ i ∧ i ≤ n ∧ iv = .int .i64 i ∧ wv = .int .i64 ((5 + n + 2 * distR h (l.take i) : Nat)) ∧ Env w wr [(.slice q1 n c1, ints l)] [(w3.heap.size, #[.string (txt B1), .int .i64 (b1 : Nat)], 27)]) (fun _ iv _ => n + 1 - (intOf iv).toNat)
  case atStart => exact ⟨1, by omega, by omega, rfl, by rw [Hone.out]; go_num, E4.out⟩
  case round =>
    obtain ⟨i, h1, hi, rfl, rfl, hE⟩ := hrel
    have HE := Lib.hid hE
    have hdi := Hdist.out i
    obtain ⟨di, hdi2⟩ : ∃ x, distR h (l.take i) = x := ⟨_, rfl⟩
    rw [hdi2] at hdi ⊢
    have Hdi := Lib.hid hdi2
    clear hE hdi2 E4
    by_cases hlt : i < n
    · obtain ⟨g, o, rfl, hg, hx⟩ := (HE.out.get 0 rfl).at i (by rw [length_ints, Hn.out]; exact hlt)
      obtain ⟨g', o', he, hg', hy⟩ := (HE.out.get 0 rfl).at (i - 1) (by rw [length_ints, Hn.out]; omega)
      obtain ⟨rfl, rfl⟩ : g = g' ∧ o = o' := by
        injection he with he
        injection he with h1 h2
        exact ⟨h1, h2⟩
      rw [Hat.out i hlt] at hx
      rw [Hat.out (i - 1) (by omega)] at hy
      have hst := Hstep.out i h1 hlt
      have hm1 := Hmem.out i
      have hm2 := Hmem.out (i - 1)
      obtain ⟨x, hxe⟩ : ∃ x, l[i]?.getD 0 = x := ⟨_, rfl⟩
      obtain ⟨y, hye⟩ : ∃ y, l[i - 1]?.getD 0 = y := ⟨_, rfl⟩
      rw [hxe] at hx hst hm1
      rw [hye] at hy hst hm2
      rw [Hdi.out] at hst
      have Hst := Lib.hid hst
      obtain ⟨j, rfl⟩ : ∃ j, i = j + 1 := ⟨i - 1, by omega⟩
      rw [Nat.add_sub_cancel] at hy
      have hj : ((j + 1 : Nat) : Int) - 1 = (j : Int) := by omega
      clear hst he hg' hxe hye
      by_cases hxy : x < y
      · have ht : (x : Int) - (y : Int) < (y : Int) - (x : Int) := by omega
        go_wp2_with fail
        go_quiet (fail)
        go_wp2_with fail
        go_roundw
        case rel => exact ⟨j + 1 + 1, by omega, by omega, by go_num, by rw [Hst.out]; go_num, HE.out.drewN _⟩
        case measure => simp [intOf]; omega
      · have ht : ¬ (x : Int) - (y : Int) < (y : Int) - (x : Int) := by omega
        go_wp2_with fail
        go_quiet (fail)
        go_wp2_with fail
        go_roundw
        case rel => exact ⟨j + 1 + 1, by omega, by omega, by go_num, by rw [Hst.out]; go_num, HE.out.drewN _⟩
        case measure => simp [intOf]; omega
    · obtain rfl : i = n := by omega
      have hwant : 5 + i + 2 * di = b1 := by have := Hdl.out; have h2 := Hdi.out; rw [Hfull.out, Hd.out] at h2; omega
      rw [hwant]
      clear hlt
      go_wp2_with
        (at_builtin
         refine wpList_append_ints rfl _ _ rfl wr.heap.size (.slice none 0 0) [] rfl (OwnInts.nil _ _) _ _ (ints l) rfl (HE.out.get 0 rfl) (by rw [length_ints, Hn.out]; simp; omega) (Nat.le_refl _) ?_
         intro qa ca wa hown1 hg1 hat1
         have hB1 : Below wr.heap.size wr wa := (Below.refl _ _).grown hg1 (Nat.le_refl _) (fun k hk => by simp [Value.ownBlock] at hk)
         simp only [List.length_nil, Nat.zero_add, List.nil_append] at hown1
         rw [← Hal0.out] at hown1
         have Hown1 := Lib.hid hown1
         have HB1w := Lib.hid hB1
         clear hg1 hat1 hown1 hB1)
      obtain ⟨wb, rfl⟩ : ∃ wb : World, wb = wr := ⟨_, rfl⟩
      go_loopw [10] (fun iv wr => ∃ k : Nat, k ≤ i ∧ iv = .int .i64 k ∧ Below wb.heap.size wb wr ∧ OwnInts wr wb.heap.size (.slice qa (ints l).length ca) (ints (alikeI l h k))) (fun iv _ => i + 1 - (intOf iv).toNat)
      case atStart => exact ⟨0, Nat.zero_le _, rfl, HB1w.out, Hown1.out⟩
      case round =>
        obtain ⟨k, hk, rfl, hB, hown⟩ := hrel
        have HB := Lib.hid hB
        have Hown := Lib.hid hown
        have E5 := Lib.hid (HE.out.step hB)
        clear hB hown Hown1 HB1w
        by_cases hlt : k < i
        · obtain ⟨g, o, rfl, hg, hx⟩ := (E5.out.get 0 rfl).at 0 (by rw [length_ints, Hn.out]; omega)
          rw [Hat.out 0 (by omega), Hh.out, Nat.add_zero] at hx
          obtain ⟨b, cap, he, hb1, hb2, hb3, hb4, hb5⟩ := Hown.out.place (by rw [length_ints, Hall.out k hk]; omega)
          have hcc := hb3 k (by rw [length_ints, Hall.out k hk]; exact hlt)
          have hff := hb4 k
          have h5 := hb5 k (h : Int)
          rw [ints_set, Hset.out k hlt] at h5
          rw [← he] at h5
          injection he with he1 he2 he3
          subst he1
          have H5 := Lib.hid h5.1
          have hln : (ints l).length = i := by rw [length_ints, Hn.out]
          clear hb3 hb4 hb5 h5 he2 he3
          go_wp2_with fail
          go_roundw
          case rel => exact ⟨k + 1, by omega, by go_num, OwnInts.set_below HB.out hb1 _ _, H5.out⟩
          case measure => simp [intOf]; omega
        · obtain rfl : k = i := by omega
          have hown := Hown.out
          rw [Haln.out] at hown
          have E6 := Lib.hid (E5.out.add hown.is)
          clear hown Hown E5 HE
          go_wp2_with fail
          refine (CA.out _ _ (E6.out.get 0 rfl)).mono ?_
          rintro e w5 ⟨rfl, hB5⟩
          have E7 := Lib.hid (E6.out.step hB5)
          clear hB5 E6
          go_wp2_with fail
          have hq1 : ((b2 : Int) == 5 + (k : Int)) = true := by rw [beq_iff_eq, Hal.out]; omega
          by_cases hd0 : d = 0
          · subst hd0
            obtain rfl : B1 = B2 := Hdz.out rfl
            obtain rfl : b1 = b2 := by have h1 := Hdl.out; have h2 := Hal.out; omega
            have hdd : decide ((0 : Nat) = 0) = true := rfl
            rw [hdd] at CI
            have E8 := Lib.hid (E7.out.box #[.string (txt B1), .int .i64 (b1 : Nat)] 27 w5.heap.size rfl)
            have k00 := E8.out.cellv 0 rfl 0 _ rfl
            have k01 := E8.out.cellv 0 rfl 1 _ rfl
            have k10 := E8.out.cellv 1 rfl 0 _ rfl
            have k11 := E8.out.cellv 1 rfl 1 _ rfl
            go_wp2_with fail
            go_quiet ((go_at_call 16; exact CI.out _ _ _ _ (E8.out.get 1 rfl) (E8.out.get 0 rfl)))
            go_wp2
            go_ret
            exact ⟨rfl, (E8.out.drewN _).bel⟩
          · have hdd : decide (d = 0) = false := by simp [hd0]
            rw [hdd] at CI
            have hbb : ((b1 : Int) == (b2 : Int)) = false := by rw [beq_eq_false_iff_ne, Hal.out, Hdl.out]; omega
            have E8 := Lib.hid (E7.out.box #[.string (txt B2), .int .i64 (b2 : Nat)] 27 w5.heap.size rfl)
            have k00 := E8.out.cellv 0 rfl 0 _ rfl
            have k01 := E8.out.cellv 0 rfl 1 _ rfl
            have k10 := E8.out.cellv 1 rfl 0 _ rfl
            have k11 := E8.out.cellv 1 rfl 1 _ rfl
            clear hdd
            go_wp2_with fail
            go_quiet ((go_at_call 16; exact CI.out _ _ _ _ (E8.out.get 1 rfl) (E8.out.get 0 rfl)))
            go_wp2
            go_ret
            exact ⟨rfl, (E8.out.drewN _).bel⟩
end Go.Proofs.Ytdngbmoippadhaa
