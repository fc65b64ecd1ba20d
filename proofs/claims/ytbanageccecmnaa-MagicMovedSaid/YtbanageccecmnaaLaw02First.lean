/- MagicFirst: the least place, and a shorter pattern: the walk. -/
import Derived.Test.YtbanageccecmnaaLaw02Places
namespace Go.Proofs.Ytbanageccecmnaa
open Go.RowKit
set_option linter.unusedVariables false

theorem plc_mem {h : Nat → Bool} {c f a : Nat} : a ∈ plc h c f ↔ f ≤ a ∧ a < c ∧ h a = true := by
  unfold plc
  rw [List.mem_filter, List.mem_range'_1]
  constructor
  · rintro ⟨⟨h1, h2⟩, h3⟩; exact ⟨h1, by omega, h3⟩
  · rintro ⟨h1, h2, h3⟩; exact ⟨⟨h1, by omega⟩, h3⟩
theorem plc_filter {h : Nat → Bool} {c f : Nat} : ∀ {k g : Nat}, f - g = k → (plc h c g).filter (fun a => decide (f ≤ a)) = plc h c (max f g) := by
  intro k
  induction k with
  | zero =>
    intro g hk
    rw [show max f g = g by omega]
    refine List.filter_eq_self.2 fun a ha => ?_
    have := (plc_mem.1 ha).1
    simp; omega
  | succ k ih =>
    intro g hk
    rw [show max f g = max f (g + 1) by omega, ← ih (g := g + 1) (by omega)]
    cases hy : (decide (g < c) && h g) with
    | true =>
      simp only [Bool.and_eq_true, decide_eq_true_eq] at hy
      rw [plc_yes hy.1 hy.2, List.filter_cons, if_neg (by simp; omega)]
    | false => rw [plc_no fun hgc => by simpa [hgc] using hy]
/-- the first number of a list, or -1 -/
def headZ : List Int → Int
  | [] => -1
  | a :: _ => a
/-- the first one that is not less -/
def wantV (f : Int) (l : List Int) : Int := headZ (l.filter fun x => decide (f ≤ x))
theorem wantV_yes {f x : Int} {l : List Int} (h : f ≤ x) : wantV f (x :: l) = x := by simp [wantV, headZ, h]
theorem wantV_no {f x : Int} {l : List Int} (h : ¬ f ≤ x) : wantV f (x :: l) = wantV f l := by simp [wantV, h]
theorem wantV_ints {h : Nat → Bool} {c : Nat} (f : Int) : wantV f (ints (plc h c 0)) = headI (plc h c f.toNat) := by
  have e := plc_filter (h := h) (c := c) (f := f.toNat) (g := 0) rfl
  rw [show max f.toNat 0 = f.toNat by omega] at e
  rw [← e]
  unfold wantV
  generalize plc h c 0 = l
  induction l with
  | nil => rfl
  | cons a l ih =>
    simp only [ints, List.map_cons, List.filter_cons] at ih ⊢
    by_cases hf : f ≤ (a : Int)
    · rw [if_pos (by simpa using hf), if_pos (by simp; omega)]; rfl
    · rw [if_neg (by simpa using hf), if_neg (by simp; omega)]; exact ih
theorem winsOf_toNat (s : List UInt8) (f n : Int) : winsOf s f n = winsOf s (f.toNat : Nat) n := by unfold winsOf; rw [Int.toNat_natCast]
theorem at_half {s : List UInt8} {m n a : Nat} (h : at_ s m (n + 1) a = true) : at_ s (m / 2) n a = true := by
  unfold at_ at h ⊢
  rw [beq_iff_eq] at h ⊢
  have e := B.slice_append s a n 1
  have e2 := B.num_append (B.slice s a n) (B.slice s (a + n) 1)
  rw [← e, B.length_slice, h] at e2
  have e3 := B.num_lt (B.slice s (a + n) 1)
  rw [B.length_slice] at e3
  have e4 := Nat.mod_mul_right_div_self m 2 (2 ^ n)
  rw [show 2 * 2 ^ n = 2 ^ (n + 1) by rw [Nat.pow_succ]; omega] at e4
  rw [← e4, e2]
  omega
theorem sub_half {s : List UInt8} {m n L : Nat} : ∀ a ∈ plc (at_ s m (n + 1)) (cntOf L (n + 1)) 0, a ∈ plc (at_ s (m / 2) n) (cntOf L n) 0 := by
  intro a ha
  obtain ⟨h1, h2, h3⟩ := plc_mem.1 ha
  exact plc_mem.2 ⟨h1, by unfold cntOf at h2 ⊢; omega, at_half h3⟩
theorem mem_take_succ {M : List Nat} {a i : Nat} (h : i < M.length) : decide (a ∈ M.take (i + 1)) = (decide (a ∈ M.take i) || ((M[i] : Int) == (a : Int))) := by
  rw [List.take_add_one, List.getElem?_eq_getElem h, beq_cast, Bool.eq_iff_iff, Bool.or_eq_true, decide_eq_true_eq, decide_eq_true_eq, List.mem_append, beq_iff_eq, Option.toList_some, List.mem_singleton]
  exact ⟨fun hq => hq.imp id Eq.symm, fun hq => hq.imp id Eq.symm⟩

set_option maxRecDepth 100000 in
set_option maxHeartbeats 3200000 in
theorem first_walk (w : World) (s : ByteArray) (m : Nat) (n from_ : Int) (hm : m < 18446744073709551616) (hn : -9223372036854775808 ≤ n) (hn' : n ≤ 9223372036854775807) (hfr0 : -9223372036854775808 ≤ from_) (hfr1 : from_ ≤ 9223372036854775807) (hs : s.size ≤ 9223372036854775807) :
    Calls Try.prog 4 #[.string s, .int .u64 m, .int .i64 n, .int .i64 from_] w fun e w' => e = .returned (.bool true) ∧ Below w.heap.size w w' := by
  have hp := pickF_lt n 12 (by omega)
  obtain ⟨p, hpp⟩ : ∃ k : Nat, pickF n 12 = (k : Int) := ⟨(pickF n 12).toNat, by omega⟩
  have p1 : p < 12 := by omega
  have hx := pickF_lt from_ 330 (by omega)
  obtain ⟨x, hxx⟩ : ∃ k : Nat, pickF from_ 330 = (k : Int) := ⟨(pickF from_ 330).toNat, by omega⟩
  have x1 : x < 330 := by omega
  obtain ⟨L, hL⟩ : ∃ L : Nat, L = min s.size 40 := ⟨_, rfl⟩
  have hL1 : (if (40 : Int) < s.size then 40 else (s.size : Int)) = L := by rw [hL]; split <;> omega
  have hL2 : L ≤ s.size := by omega
  have hL3 : L ≤ 40 := by omega
  have hfr := front_size s L hL2
  have Hpp := Lib.hid hpp
  have Hxx := Lib.hid hxx
  have Hfr := Lib.hid hfr
  have Ha := Lib.hid awake2_any
  clear hp hpp hx hxx hL hfr
  go_enter Try.func4, Try.ntmps4
  go_wp2_with fail
  refine (Ha.out _).mono ?_
  rintro e w1 ⟨rfl, hB1⟩
  go_wp2_with fail
  have hts : (s.extract 0 L).size = L := Hfr.out
  generalize s.extract 0 L = t at *
  have hsz : t.size ≤ 40 := by omega
  have Hts := Lib.hid hts
  clear hts Hfr hL1 hL2 hL3
  refine (pick2_any n 12 _ hn hn' (by omega) (by omega)).mono ?_
  rintro e w2 ⟨rfl, rfl⟩
  rw [Hpp.out]
  have hK : (1 + (p : Int)) = ((p + 1 : Nat) : Int) := by omega
  have htl : t.data.toList.length = t.size := by simp
  obtain ⟨M, hmore, hsub, hMl⟩ : ∃ M : List Nat, Hid (∀ W, Calls Try.prog 9 #[.string t, .int .u64 ((m : Int) / 2), .int .i64 (1 + (p : Int) - 1)] W fun e W' => ∃ v, e = .returned v ∧ IsInts W' W'.heap.size v (ints M) ∧ Below W.heap.size W W') ∧ (1 ≤ p → ∀ a ∈ plc (at_ t.data.toList m (p + 1)) (cntOf t.size (p + 1)) 0, a ∈ M) ∧ M.length ≤ 400 := by
    rw [show (1 + (p : Int) - 1) = (p : Int) by omega, show ((m : Int) / 2) = ((m / 2 : Nat) : Int) by omega]
    by_cases hp0 : p = 0
    · subst hp0
      refine ⟨[], fun W => ?_, fun h => by omega, by simp⟩
      refine (all_any t (m / 2) (0 : Nat) W (by omega) (by omega) (by omega) (by omega)).mono ?_
      rintro e W' ⟨v, rfl, hr, hB⟩
      rw [show allL t.data.toList (m / 2) ((0 : Nat) : Int) = [] by simp [allL, winsOf, winCnt, wins, sel]] at hr
      exact ⟨v, rfl, Rd.own hr, hB⟩
    · refine ⟨plc (at_ t.data.toList (m / 2) p) (cntOf t.size p) 0, fun W => ?_, fun _ => sub_half, ?_⟩
      · refine (all_any t (m / 2) (p : Nat) W (by omega) (by omega) (by omega) (by omega)).mono ?_
        rintro e W' ⟨v, rfl, hr, hB⟩
        rw [allL_nat _ _ _ (by omega) (by omega), htl] at hr
        exact ⟨v, rfl, Rd.own hr, hB⟩
      · have := plc_len (h := at_ t.data.toList (m / 2) p) (c := cntOf t.size p) (f := 0)
        unfold cntOf at this ⊢
        omega
  obtain ⟨h, hh⟩ : ∃ h, at_ t.data.toList m (p + 1) = h := ⟨_, rfl⟩
  obtain ⟨c, hc⟩ : ∃ c, cntOf t.size (p + 1) = c := ⟨_, rfl⟩
  have hc1 : c ≤ 8 * t.size := by rw [← hc]; unfold cntOf; omega
  rw [hh, hc] at hsub
  have hall : Hid (∀ W, Calls Try.prog 9 #[.string t, .int .u64 m, .int .i64 (1 + p)] W fun e W' => ∃ v, e = .returned v ∧ IsInts W' W'.heap.size v (ints (plc h c 0)) ∧ Below W.heap.size W W') := fun W => by
    rw [hK]
    refine (all_any t m (p + 1 : Nat) W (by omega) hm (by omega) (by omega)).mono ?_
    rintro e W' ⟨v, rfl, hr, hB⟩
    rw [allL_nat _ _ _ (by omega) (by omega), hh, htl, hc] at hr
    exact ⟨v, rfl, Rd.own hr, hB⟩
  have hfind : Hid (∀ (f : Int) W, -9223372036854775808 ≤ f → f ≤ 9223372036854775807 → Calls Try.prog 10 #[.string t, .int .i64 f, .int .u64 m, .int .i64 (1 + p)] W fun e W' => e = .returned (.int .i64 (wantV f (ints (plc h c 0)))) ∧ Below W.heap.size W W') := fun f W hf hf' => by
    rw [hK]
    refine (find_any t f m (p + 1 : Nat) W (by omega) hm hf hf' (by omega) (by omega)).mono ?_
    rintro e W' ⟨rfl, hB⟩
    rw [winsOf_toNat, findV_nat _ _ _ _ (by omega) (by omega), hh, htl, hc, wantV_ints]
    exact ⟨rfl, hB⟩
  obtain ⟨P, hP⟩ : ∃ P, plc h c 0 = P := ⟨_, rfl⟩
  obtain ⟨NP, hNP⟩ : ∃ k, (ints P).length = k := ⟨_, rfl⟩
  have hNP2 : P.length = NP := by rw [← hNP, length_ints]
  have hplen : NP ≤ 320 := by have := plc_len (h := h) (c := c) (f := 0); rw [hP] at this; omega
  have HNP := Lib.hid hNP
  have HNP2 := Lib.hid hNP2
  rw [hP] at hall hfind hsub
  have Hsub := Lib.hid hsub
  have Hw1 := hB1.size
  clear hK hh hc htl Ha Hpp hP hNP hNP2 hsub
  go_wp2_with fail
  refine (hall.out _).mono ?_
  rintro e w2 ⟨v, rfl, hv, hB2⟩
  obtain ⟨A, cap, rfl, hv1, hv2⟩ := hv.shape
  rw [HNP.out] at hv hv1 ⊢
  have Hv := Lib.hid hv
  clear hv hall
  have hBw2 : Below w.heap.size w w2 := hB1.trans (hB2.mono Hw1)
  clear hB1 hB2
  go_wp2_with fail
  refine (pick2_any from_ 330 _ hfr0 hfr1 (by omega) (by omega)).mono ?_
  rintro e w3 ⟨rfl, rfl⟩
  rw [Hxx.out]
  go_wp2_with fail
  obtain ⟨wl, hwl⟩ : ∃ wl, w2.alloc (.cells #[.int .i64 from_, .int .i64 ((x : Int) - 2)] 3) = wl := ⟨_, rfl⟩
  have hfl : wl.heap[w2.heap.size]? = some (.cells #[.int .i64 from_, .int .i64 ((x : Int) - 2)] 3 (0, 0)) := by rw [← hwl]; exact heap_alloc_new w2 _
  have q0 : wl.cell? ⟨w2.heap.size, 0, none⟩ = some (.int .i64 from_) := cell_of_heap hfl 0
  have q1 : wl.cell? ⟨w2.heap.size, 1, none⟩ = some (.int .i64 ((x : Int) - 2)) := cell_of_heap hfl 1
  have hzl : wl.heap.size = w2.heap.size + 1 := by rw [← hwl]; simp
  have hBl : Below w.heap.size w wl := by rw [← hwl]; exact hBw2.alloc hBw2.size _
  have Hvl : Hid (IsInts wl wl.heap.size (.slice A NP cap) (ints P)) := by rw [← hwl]; exact (Hv.out.below ((Below.refl w2.heap.size w2).alloc (Nat.le_refl _) _) (Nat.le_refl _)).mono (by simp)
  have Hq0 := Lib.hid q0
  have Hq1 := Lib.hid q1
  have Hzl := Lib.hid hzl
  rw [hwl]
  clear hwl hfl q0 q1 Hv hBw2 hzl
  obtain ⟨bl, hbl⟩ : ∃ b, w2.heap.size = b := ⟨_, rfl⟩
  rw [hbl] at Hq0 Hq1 Hzl ⊢
  clear hbl
  go_loopw [40] (fun i wr => ∃ j : Nat, j ≤ 2 ∧ i = .int .i64 j ∧ Below wl.heap.size wl wr) (fun i _ => 3 - (intOf i).toNat)
  case atStart => exact ⟨0, by omega, rfl, Below.refl _ _⟩
  case round =>
    obtain ⟨j, hj, rfl, hBr⟩ := hrel
    obtain ⟨wq, rfl⟩ : ∃ x, x = wr := ⟨_, rfl⟩
    have Hvq : Hid (IsInts wq wl.heap.size (.slice A NP cap) (ints P)) := Hvl.out.below hBr (Nat.le_refl _)
    by_cases hlt : j < 2
    · obtain ⟨f, hf0, hf1, hcell⟩ : ∃ f : Int, -9223372036854775808 ≤ f ∧ f ≤ 9223372036854775807 ∧ wq.cell? ⟨bl, j, none⟩ = some (.int .i64 f) := by
        rcases (show j = 0 ∨ j = 1 by omega) with rfl | rfl
        · exact ⟨from_, hfr0, hfr1, (hBr.cell (p := ⟨bl, 0, none⟩) (by have := Hzl.out; simp; omega)).trans Hq0.out⟩
        · exact ⟨(x : Int) - 2, by omega, by omega, (hBr.cell (p := ⟨bl, 1, none⟩) (by have := Hzl.out; simp; omega)).trans Hq1.out⟩
      obtain ⟨X, hX⟩ : ∃ X, wantV f (ints P) = X := ⟨_, rfl⟩
      have hfd : Hid (∀ W, Calls Try.prog 10 #[.string t, .int .i64 f, .int .u64 m, .int .i64 (1 + p)] W fun e W' => e = .returned (.int .i64 X) ∧ Below W.heap.size W W') := fun W => by
        have := hfind.out f W hf0 hf1
        rw [hX] at this; exact this
      have HX := Lib.hid hX
      clear hX hfind hmore Hsub
      go_wp2_with fail
      go_loopw [15, 16] (fun v a wr => ∃ i : Nat, i ≤ NP ∧ a = .int .i64 ((i : Int) - 1) ∧ v = .int .i64 (wantV f ((ints P).drop i)) ∧ wq = wr) (fun _ a _ => (intOf a + 1).toNat)
      case atStart => exact ⟨NP, Nat.le_refl _, rfl, by rw [List.drop_eq_nil_of_le (by rw [HNP.out]; exact Nat.le_refl _)]; rfl, rfl⟩
      case round =>
        obtain ⟨i, hi, rfl, rfl, rfl⟩ := hrel
        cases i with
        | zero =>
          rw [List.drop_zero, HX.out]
          go_wp2_with (go_at_call 10; refine (hfd.out _).mono ?_; rintro e x2 ⟨rfl, hBx⟩)
          go_roundw
          case rel => exact ⟨j + 1, by omega, by go_num, hBr.trans (hBx.mono hBr.size)⟩
          case measure => simp [intOf]; omega
        | succ i =>
          obtain ⟨ga, o, rfl, hga, hcl⟩ := Hvq.out.at i (by rw [HNP.out]; omega)
          obtain ⟨y, hy⟩ : ∃ y, (ints P)[i]?.getD 0 = y := ⟨_, rfl⟩
          rw [hy] at hcl
          have hdrop : (ints P).drop i = y :: (ints P).drop (i + 1) := by
            have hil : i < (ints P).length := by rw [HNP.out]; omega
            rw [List.drop_eq_getElem_cons hil]
            rw [List.getElem?_eq_getElem hil] at hy
            simp only [Option.getD_some] at hy
            rw [hy]
          have Hdrop := Lib.hid hdrop
          rw [show ((i + 1 : Nat) : Int) - 1 = (i : Int) by omega]
          obtain ⟨Y, hY⟩ : ∃ Y, wantV f ((ints P).drop (i + 1)) = Y := ⟨_, rfl⟩
          have HY := Lib.hid hY
          rw [hY]
          clear hdrop hy hY
          by_cases hfy : f ≤ y
          · have hw : Hid (wantV f ((ints P).drop i) = y) := by show _ = _; rw [Hdrop.out]; exact wantV_yes hfy
            go_wp2
            go_roundw
            case rel => exact ⟨i, by omega, by go_num, by rw [hw.out], by trivial⟩
            case measure => simp [intOf] <;> omega
          · have hw : Hid (wantV f ((ints P).drop i) = Y) := by show _ = _; rw [Hdrop.out, wantV_no hfy]; exact HY.out
            go_wp2
            go_roundw
            case rel => exact ⟨i, by omega, by go_num, by rw [hw.out], by trivial⟩
            case measure => simp [intOf] <;> omega
    · obtain rfl : j = 2 := by omega
      clear hfind
      have hBw : Below w.heap.size w wq := hBl.trans (hBr.mono hBl.size)
      have hzq := hBr.size
      clear hBl hBr Hq0 Hq1 Hzl
      go_wp2_with fail
      refine (hmore.out _).mono ?_
      rintro e w4 ⟨v2, rfl, hv4, hB4⟩
      obtain ⟨A2, cap2, rfl, hv5, hv6⟩ := hv4.shape
      rw [length_ints] at hv4 hv5 ⊢
      have Hv4 := Lib.hid hv4
      have Hv : Hid (IsInts w4 w4.heap.size (.slice A NP cap) (ints P)) := (Hvq.out.below hB4 hzq).mono (by have := hB4.size; omega)
      have hBw4 : Below w.heap.size w w4 := hBw.trans (hB4.mono hBw.size)
      clear hv4 hmore Hvq Hvl hBw hzq hB4
      go_wp2_with fail
      go_loopw [18] (fun i wr => ∃ j : Nat, j ≤ NP ∧ i = .int .i64 j ∧ Below w4.heap.size w4 wr) (fun i _ => NP + 1 - (intOf i).toNat)
      case atStart => exact ⟨0, by omega, rfl, Below.refl _ _⟩
      case round =>
        obtain ⟨j, hj, rfl, hBr⟩ := hrel
        obtain ⟨wk, rfl⟩ : ∃ x, x = wr := ⟨_, rfl⟩
        by_cases hlt : j < NP
        · by_cases hp1 : 1 ≤ p
          · obtain ⟨ga, o, rfl, hga, hcl⟩ := Hv.out.at j (by rw [HNP.out]; exact hlt)
            obtain ⟨a, haP, haj⟩ : ∃ a : Nat, a ∈ P ∧ (ints P)[j]?.getD 0 = (a : Int) := by
              have hjl : j < P.length := by rw [HNP2.out]; exact hlt
              exact ⟨P[j], List.getElem_mem hjl, by simp [ints, List.getElem?_eq_getElem hjl]⟩
            rw [haj] at hcl
            have haM : Hid (a ∈ M) := Hsub.out hp1 a haP
            clear haj
            go_wp2
            go_loopw [19, 20] (fun hv jv wr => ∃ i : Nat, i ≤ M.length ∧ jv = .int .i64 i ∧ hv = .bool (decide (a ∈ M.take i)) ∧ Below wk.heap.size wk wr) (fun _ jv _ => M.length + 1 - (intOf jv).toNat)
            case atStart => exact ⟨0, by omega, rfl, by simp, Below.refl _ _⟩
            case round =>
              obtain ⟨i, hi, rfl, rfl, hBi⟩ := hrel
              by_cases hil : i < M.length
              · obtain ⟨g2, o2, rfl, hg2, hcb⟩ := Hv4.out.at i (by rw [length_ints]; exact hil)
                rw [show (ints M)[i]?.getD 0 = (M[i] : Int) by simp [ints, List.getElem?_eq_getElem hil]] at hcb
                have hnext : decide (a ∈ M.take (i + 1)) = (decide (a ∈ M.take i) || ((M[i] : Int) == (a : Int))) := mem_take_succ hil
                have hca : wr.cell? ⟨ga, o + j, none⟩ = some (.int .i64 (a : Int)) := (hBi.cell (p := ⟨ga, o + j, none⟩) (by have := hBr.size; simp; omega)).trans ((hBr.cell (p := ⟨ga, o + j, none⟩) hga).trans hcl)
                have hcb' : wr.cell? ⟨g2, o2 + i, none⟩ = some (.int .i64 (M[i] : Int)) := (hBi.cell (p := ⟨g2, o2 + i, none⟩) (by have := hBr.size; simp; omega)).trans ((hBr.cell (p := ⟨g2, o2 + i, none⟩) hg2).trans hcb)
                obtain ⟨ml, hml⟩ : ∃ k, M.length = k := ⟨_, rfl⟩
                obtain ⟨bb, hbb⟩ : ∃ b : Nat, M[i] = b := ⟨_, rfl⟩
                obtain ⟨hb, hhb⟩ : ∃ hb, decide (a ∈ M.take i) = hb := ⟨_, rfl⟩
                rw [hbb, hhb] at hnext
                rw [hbb] at hcb'
                rw [hml] at hil hMl hv5 ⊢
                rw [hhb]
                have Hnext := Lib.hid hnext
                have Hml := Lib.hid hml
                clear hcb hcl hbb hhb hnext hml hi Hv4 Hv Hsub haP
                cases hb with
                | false =>
                  go_wp2
                  go_quiet (fail)
                  go_wp2
                  go_roundw
                  case rel => exact ⟨i + 1, by omega, by go_num, by rw [Hnext.out]; rfl, below_drewN hBi _⟩
                  case measure => simp [intOf]; omega
                | true =>
                  go_wp2
                  go_quiet (fail)
                  go_wp2
                  go_roundw
                  case rel => exact ⟨i + 1, by omega, by go_num, by rw [Hnext.out]; rfl, below_drewN hBi _⟩
                  case measure => simp [intOf]; omega
              · obtain rfl : i = M.length := by omega
                rw [List.take_length, decide_eq_true haM.out]
                clear Hv4 Hv Hsub haP hcl
                go_wp2
                go_roundw
                case rel => exact ⟨j + 1, by omega, by go_num, hBr.trans (hBi.mono hBr.size)⟩
                case measure => simp [intOf]; omega
          · go_wp2
            go_ret
            exact ⟨rfl, hBw4.trans (hBr.mono hBw4.size)⟩
        · obtain rfl : j = NP := by omega
          go_wp2
          go_ret
          exact ⟨rfl, hBw4.trans (hBr.mono hBw4.size)⟩
end Go.Proofs.Ytbanageccecmnaa
