/- least and without of the document's answer: the walks. -/
import Derived.Test.YtegjkhhgihcdcaaTrRow
namespace Go.Proofs.Ytegjkhhgihcdcaa
open Go.RowKit
set_option linter.unusedVariables false

theorem IsLeast.one (ws : List Nat) (h : 1 ≤ ws.length) : IsLeast (ws.take 1) 0 := by
  refine ⟨by rw [List.length_take]; omega, fun j x y hx hy => ?_, fun j x y hj => by omega⟩
  have hj := (List.getElem?_eq_some_iff.1 hy).1
  rw [List.length_take] at hj
  obtain rfl : j = 0 := by omega
  rw [hx] at hy
  injection hy with hy
  omega
theorem IsLeast.next {ws : List Nat} {i a x y : Nat} (h : IsLeast (ws.take i) a) (hi : ws[i]? = some x) (ha : ws[a]? = some y) : (x < y → IsLeast (ws.take (i + 1)) i) ∧ (¬ x < y → IsLeast (ws.take (i + 1)) a) := by
  have hil := (List.getElem?_eq_some_iff.1 hi).1
  have hal := h.lt
  rw [List.length_take] at hal
  have ht : ∀ j : Nat, j < i → (ws.take i)[j]? = ws[j]? := fun j hj => by rw [List.getElem?_take, if_pos hj]
  have ht2 : ∀ j : Nat, j < i + 1 → (ws.take (i + 1))[j]? = ws[j]? := fun j hj => by rw [List.getElem?_take, if_pos hj]
  have hya : (ws.take i)[a]? = some y := by rw [ht a (by omega)]; exact ha
  constructor
  · intro hxy
    refine ⟨by rw [List.length_take]; omega, fun j u v hu hv => ?_, fun j u v hj hu hv => ?_⟩
    · rw [ht2 i (by omega), hi] at hu
      injection hu with hu
      have hj := (List.getElem?_eq_some_iff.1 hv).1
      rw [List.length_take] at hj
      rw [ht2 j (by omega)] at hv
      by_cases e : j = i
      · subst e
        rw [hi] at hv
        injection hv with hv
        omega
      · have := h.le j y v hya (by rw [ht j (by omega)]; exact hv)
        omega
    · rw [ht2 i (by omega), hi] at hu
      injection hu with hu
      rw [ht2 j (by omega)] at hv
      have := h.le j y v hya (by rw [ht j (by omega)]; exact hv)
      omega
  · intro hxy
    refine ⟨by rw [List.length_take]; omega, fun j u v hu hv => ?_, fun j u v hj hu hv => ?_⟩
    · rw [ht2 a (by omega), ha] at hu
      injection hu with hu
      have hj := (List.getElem?_eq_some_iff.1 hv).1
      rw [List.length_take] at hj
      rw [ht2 j (by omega)] at hv
      by_cases e : j = i
      · subst e
        rw [hi] at hv
        injection hv with hv
        omega
      · have := h.le j y v hya (by rw [ht j (by omega)]; exact hv)
        omega
    · rw [ht2 a (by omega), ha] at hu
      injection hu with hu
      rw [ht2 j (by omega)] at hv
      have := h.first j y v hj hya (by rw [ht j (by omega)]; exact hv)
      omega
set_option maxRecDepth 100000 in
set_option maxHeartbeats 1600000 in
theorem least_any (w : World) (base d n c : Nat) (q : Option Addr) (M : List TV) (h : TrOwn w base d (.slice q n c) M) (hn : M.length = n) (h1 : 1 ≤ n) (hl : n ≤ 1000) :
    Calls Try.prog 35 #[.slice q n c] w fun e w' => ∃ i : Nat, e = .returned (.int .i64 (i : Nat)) ∧ IsLeast (M.map (·.1.1.1)) i ∧ Below w.heap.size w w' := by
  obtain ⟨ws, hws⟩ : ∃ ws, M.map (·.1.1.1) = ws := ⟨_, rfl⟩
  have hwl : ws.length = n := by rw [← hws, List.length_map, hn]
  have HA : Hid (∀ j, j < n → ∃ g x, q = some ⟨g, 0, none⟩ ∧ g < w.heap.size ∧ w.cell? ⟨g, j * 2, none⟩ = some (.int .i64 (x : Nat)) ∧ ws[j]? = some x) := fun j hj => by
    have hm : M[j]? = some M[j] := List.getElem?_eq_getElem (by omega)
    obtain ⟨g, hg1, hg2, hg3, _⟩ := h.at j _ hm
    have hmm : (M.map (·.1.1.1))[j]? = some M[j].1.1.1 := by rw [List.getElem?_map, hm]; rfl
    rw [hws] at hmm
    exact ⟨g, _, hg1, hg2, hg3, hmm⟩
  rw [hws]
  have HW := Lib.hid hwl
  clear hws h hn hwl
  go_enter Try.func35, Try.ntmps35
  go_wp2_with fail
  go_loopw [3, 4] (fun av iv wr => ∃ a i : Nat, 1 ≤ i ∧ i ≤ n ∧ a < i ∧ av = .int .i64 a ∧ iv = .int .i64 i ∧ Hid (IsLeast (ws.take i) a) ∧ Hid (Below w.heap.size w wr)) (fun _ iv _ => n + 1 - (intOf iv).toNat)
  case atStart => exact ⟨0, 1, Nat.le_refl _, h1, by omega, rfl, rfl, IsLeast.one ws (by rw [HW.out]; exact h1), Below.refl _ _⟩
  case round =>
    obtain ⟨a, i, hi1, hi, hai, rfl, rfl, HI, HB⟩ := hrel
    by_cases hlt : i < n
    · obtain ⟨g, x, hq, hg, hx, hwx⟩ := HA.out i hlt
      obtain ⟨g', y, hq', hg', hy, hwy⟩ := HA.out a (by omega)
      subst hq
      injection hq' with hq'
      injection hq' with hq'
      subst hq'
      have hnx := HI.out.next hwx hwy
      have hx := (HB.out.cell (p := ⟨g, i * 2, none⟩) hg).trans hx
      have hy := (HB.out.cell (p := ⟨g, a * 2, none⟩) hg).trans hy
      clear hwx hwy
      by_cases hxy : x < y
      · have d1 : decide (x < y) = true := decide_eq_true hxy
        have HN := Lib.hid (hnx.1 hxy)
        clear hnx
        go_wp2_with fail
        go_quiet (fail)
        go_wp2_with fail
        go_roundw
        case rel => exact ⟨i, i + 1, by omega, by omega, by omega, rfl, by go_num, HN, below_drewN HB.out _⟩
        case measure => simp [intOf]; omega
      · have d1 : decide (x < y) = false := decide_eq_false hxy
        have HN := Lib.hid (hnx.2 hxy)
        clear hnx
        go_wp2_with fail
        go_quiet (fail)
        go_wp2_with fail
        go_roundw
        case rel => exact ⟨a, i + 1, by omega, by omega, by omega, rfl, by go_num, HN, below_drewN HB.out _⟩
        case measure => simp [intOf]; omega
    · obtain rfl : i = n := by omega
      have HE : Hid (IsLeast ws a) := by
        have := HI.out
        rw [List.take_of_length_le (by rw [HW.out]; exact Nat.le_refl _)] at this
        exact this
      go_wp2_with fail
      go_ret
      exact ⟨a, rfl, HE.out, HB.out⟩
theorem elem_trs : Try.prog.elem 53 = 55 := by kernel_rfl
theorem sizeOf_tr (w : World) : (sizeOf 55).run Try.prog w = .ok 2 w := by
  obtain ⟨i0, hi, _, hz1, _⟩ := info_parts tr_info
  simp [sizeOf, typeInfo, hi, hz1]
theorem under_trs : Try.prog.underlying 53 = some (.slice (Try.prog.elem 53)) := by rw [elem_trs]; exact Try.underlying53
/-- a part of trees -/
theorem tr_cut {w : World} {B n cap : Nat} {A : Option Addr} {M : List TV} (hv : Rd w B 2 (.slice A n cap) n (trCells M)) (l h : Nat) (h1 : l ≤ h) (h2 : h ≤ n) :
    ∃ v, Rd w B 2 v (h - l) (trCells ((M.take h).drop l)) ∧ (∃ q c, v = .slice q (h - l) c) ∧
      (h = n → ∀ W, (Instr.slice 53 (.slice A n cap) (some (.int .i64 (l : Int))) none none).run Try.prog W = .ok v W) ∧ (l = 0 → ∀ W, (Instr.slice 53 (.slice A n cap) none (some (.int .i64 (h : Int))) none).run Try.prog W = .ok v W) := by
  have hv2 := hv
  obtain ⟨e0, q, c, e, hc1, hc2, _⟩ := hv2
  injection e with e1 e2 e3
  subst e1 e3
  refine ⟨sliced A l h cap 2, ?_, ⟨_, _, rfl⟩, fun e W => ?_, fun e W => ?_⟩
  · have hr := Rd.cut (l := l) (h := h) hv h1 h2
    rw [trCells_take, trCells_drop] at hr
    exact hr
  · subst e
    rw [run_slice_l W _ _ _ _ under_trs _ _ (by omega) (by omega), elem_trs, sizeOf_tr]; rfl
  · subst e
    rw [run_slice_h W _ _ _ _ under_trs _ _ (by omega) (by omega), elem_trs, sizeOf_tr]; rfl
set_option maxRecDepth 100000 in
set_option maxHeartbeats 1600000 in
theorem without_any (w : World) (base d n c i : Nat) (q : Option Addr) (M : List TV) (h : TrOwn w base d (.slice q n c) M) (hn : M.length = n) (hi : i < n) (hl : n ≤ 1000) (hbase : base ≤ w.heap.size) :
    Calls Try.prog 36 #[.slice q n c, .int .i64 (i : Nat)] w fun e w' => ∃ q' c', e = .returned (.slice q' (n - 1) c') ∧ TrOwn w' base d (.slice q' (n - 1) c') (M.eraseIdx i) ∧ Below w.heap.size w w' := by
  have hrd := Rd.own h.own
  rw [hn] at hrd
  obtain ⟨v1, r1, ⟨q1, c1, e1⟩, -, s1⟩ := tr_cut hrd 0 i (Nat.zero_le _) (by omega)
  obtain ⟨v2, r2, ⟨q2, c2, e2⟩, s2, -⟩ := tr_cut hrd (i + 1) n (by omega) (Nat.le_refl _)
  subst e1 e2
  have s1 := s1 rfl
  have s2 := s2 rfl
  rw [show ((i + 1 : Nat) : Int) = (i : Int) + 1 by omega] at s2
  rw [List.drop_zero] at r1
  rw [List.take_of_length_le (by omega)] at r2
  have hk1 : ∀ t ∈ M.take i, OwnInts w base t.2 (ints t.1.2) ∧ t.2.ownBlock ≠ some d := fun t ht => h.has t (List.mem_of_mem_take ht)
  have hk2 : ∀ t ∈ M.drop (i + 1), OwnInts w base t.2 (ints t.1.2) ∧ t.2.ownBlock ≠ some d := fun t ht => h.has t (List.mem_of_mem_drop ht)
  have hl1 : (M.take i).length = i - 0 := by rw [List.length_take]; omega
  have hl2 : (M.drop (i + 1)).length = n - (i + 1) := by rw [List.length_drop]; omega
  have her : M.eraseIdx i = M.take i ++ M.drop (i + 1) := List.eraseIdx_eq_take_drop_succ M i
  rw [her]
  generalize M.take i = K1 at *
  generalize M.drop (i + 1) = K2 at *
  have R1 : Hid (Rd w w.heap.size 2 (.slice q1 (i - 0) c1) K1.length (trCells K1)) := by rw [hl1]; exact r1
  have R2 : Hid (Rd w w.heap.size 2 (.slice q2 (n - (i + 1)) c2) K2.length (trCells K2)) := by rw [hl2]; exact r2
  have HK1 := Lib.hid hk1
  have HK2 := Lib.hid hk2
  have HL1 := Lib.hid hl1
  have HL2 := Lib.hid hl2
  have hbw : Below w.heap.size w w := Below.refl _ _
  have hw1 : IntKind.i64.wrap ((i : Int) + 1) = (i : Int) + 1 := IntWalk.i64_in _ (by omega)
  clear hrd r1 r2 hk1 hk2 hl1 hl2 her h hn
  go_enter Try.func36, Try.ntmps36
  go_wp2_with fail
  go_region_held3 (fun w' => Below w.heap.size w w')
    ((first | assumption | exact bel_drew (by assumption)))
    ((first
      | (refine step_append_tr (by rfl) _ _ (by rfl) base d (.slice none 0 0) [] (by rfl) (TrOwn.nil _ _ _) w.heap.size _ K1 (by rfl) (R1.out.below (by assumption) (Nat.le_refl _)) (fun t ht => ⟨(HK1.out t ht).1.below (by assumption), (HK1.out t ht).2⟩) (by rw [HL1.out]; simp; omega) (Nat.le_trans hbase (bel_size (by assumption))) ?_
         intro qa ca2 wa hown1 hg1 hat1
         have hWa : Below w.heap.size w wa := bel_grown hg1 (by assumption) (fun k hk => by simp [Value.ownBlock] at hk)
         rw [show ([] : List TV).length + K1.length = i by rw [HL1.out]; simp] at hown1 hat1 ⊢
         rw [List.nil_append] at hown1
         have Hown1 := Lib.hid hown1
         have Hat1 : Hid (∀ k, (Value.slice qa i ca2).ownBlock = some k → w.heap.size ≤ k) := fun k hk => by
           rcases hat1 with e | e
           · rw [e] at hk; simp [Value.ownBlock] at hk
           · rw [e] at hk; injection hk with hk; rw [← hk]; exact bel_size (by assumption)
         clear hown1 hg1 hat1)
      | (refine step_append_tr (by rfl) _ _ (by rfl) base d _ K1 (by rfl) Hown1.out w.heap.size _ K2 (by rfl) (R2.out.below (by assumption) (Nat.le_refl _)) (fun t ht => ⟨(HK2.out t ht).1.below (by assumption), (HK2.out t ht).2⟩) (by rw [HL1.out, HL2.out]; omega) (Nat.le_trans hbase (bel_size (by assumption))) ?_
         intro qd cd wd hown2 hg2 hat2
         have hWd : Below w.heap.size w wd := bel_grown hg2 (by assumption) Hat1.out
         rw [show K1.length + K2.length = n - 1 by rw [HL1.out, HL2.out]; omega] at hown2 ⊢
         have Hown2 := Lib.hid hown2
         clear hown2 hg2 hat2)
      | fail))
  go_wp2_with fail
  go_ret
  exact ⟨qd, cd, rfl, Hown2.out, hWd⟩
end Go.Proofs.Ytegjkhhgihcdcaa
