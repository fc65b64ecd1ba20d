/- The queue: ahead and push, walked. -/
import Derived.Test.YtodniacnjdnffaaTreeRow
import Derived.Deep.RegionHeld3
import Derived.Deep.RegionLaw
import Derived.BigRegion
import Derived.Deep.CutRange
import Derived.Deep.DeepCutAuto
namespace Go.Proofs.Ytodniacnjdnffaa
open Go.RowKit
set_option linter.unusedVariables false

set_option maxHeartbeats 800000 in
theorem ahead_any (w : World) (a b : NP) :
    Calls Try.prog 36 #[.agg #[.int .i64 (a.1 : Int), .int .i64 (a.2 : Int)], .agg #[.int .i64 (b.1 : Int), .int .i64 (b.2 : Int)]] w fun e w' => e = .returned (.bool (ltP a b)) ∧ Below w.heap.size w w' := by
  obtain ⟨a1, a2⟩ := a
  obtain ⟨b1, b2⟩ := b
  have hBl : Below w.heap.size w ((w.alloc (.cells #[.int .i64 (a1 : Int), .int .i64 (a2 : Int)] 66)).alloc (.cells #[.int .i64 (b1 : Int), .int .i64 (b2 : Int)] 66)) := ((Below.refl _ _).alloc (Nat.le_refl _) _).alloc (by simp) _
  have HBl := Lib.hid hBl
  clear hBl
  by_cases h1 : a1 < b1
  · have hr : Hid (ltP (a1, a2) (b1, b2) = true) := by show _ = _; rw [ltP_iff]; exact .inl h1
    go_enter Try.func36, Try.ntmps36
    go_wp2
    go_ret
    exact ⟨by rw [hr.out]; simp, HBl.out⟩
  · by_cases h2 : a1 = b1
    · subst h2
      by_cases h3 : a2 < b2
      · have hr : Hid (ltP (a1, a2) (a1, b2) = true) := by show _ = _; rw [ltP_iff]; exact .inr ⟨rfl, h3⟩
        go_enter Try.func36, Try.ntmps36
        go_wp2
        go_ret
        exact ⟨by rw [hr.out]; simp, HBl.out⟩
      · have hr : Hid (ltP (a1, a2) (a1, b2) = false) := by show _ = _; rw [ltP_no]; simp; omega
        go_enter Try.func36, Try.ntmps36
        go_wp2
        go_ret
        exact ⟨by rw [hr.out]; simp, HBl.out⟩
    · have hr : Hid (ltP (a1, a2) (b1, b2) = false) := by show _ = _; rw [ltP_no]; simp; omega
      have hne : ((a1 : Int) == (b1 : Int)) = false := by rw [beq_eq_false_iff_ne]; omega
      have hlt : b1 < a1 := by omega
      go_enter Try.func36, Try.ntmps36
      go_wp2
      go_ret
      exact ⟨by rw [hr.out]; simp, HBl.out⟩
theorem Que.row {w : World} {qb : Nat} {h : List NP} (hq : Que w qb h) (hn : 0 < h.length) : ∃ g cap, w.heap[qb]? = some (.cells #[.slice (some ⟨g, 0, none⟩) h.length cap, .func (.func 36) #[] #[]] 70 (0, 0)) ∧ TreeOwn w (qb + 1) (.slice (some ⟨g, 0, none⟩) h.length cap) h := by
  obtain ⟨v, h1, h2⟩ := hq.ex
  obtain ⟨g, cap, rfl, _⟩ := h2.place hn
  exact ⟨g, cap, h1, h2⟩
theorem Que.up {w w' : World} {qb : Nat} {h : List NP} (hq : Que w qb h) (hB : Below w.heap.size w w') : Que w' qb h := by
  obtain ⟨v, h1, h2⟩ := hq.ex
  exact ⟨v, (hB.block _ (lt_of_heap h1)).trans h1, h2.below hB⟩
theorem bel_call {W c c' : World} (h2 : Below c.heap.size c c') (h : Below W.heap.size W c) : Below W.heap.size W c' := h.trans (h2.mono h.size)
theorem que_set {w : World} {qb : Nat} {v v' : Value} {h : List NP} (hq : w.heap[qb]? = some (.cells #[v, .func (.func 36) #[] #[]] 70 (0, 0))) (ho : TreeOwn w (qb + 1) v' h) : Que (w.setCell ⟨qb, 0, none⟩ v') qb h :=
  ⟨v', by have := heap_set_ hq 0 v'; simpa using this, World.ownsRow.kept ho (grownBy_setCell' w qb v') (by
    cases hb : v'.ownBlock with
    | none => exact .inl rfl
    | some k =>
      refine .inr fun e => ?_
      have := own_tree_ge ho hb
      injection e with e
      omega)⟩
theorem TreeOwn.put {w : World} {base g n cap : Nat} {h : List NP} (ho : TreeOwn w base (.slice (some ⟨g, 0, none⟩) n cap) h) (j : Nat) (x : NP) (hj : j < h.length) :
    TreeOwn ((w.setCell ⟨g, j * 2, none⟩ (.int .i64 (x.1 : Int))).setCell ⟨g, j * 2 + 1, none⟩ (.int .i64 (x.2 : Int))) base (.slice (some ⟨g, 0, none⟩) n cap) (h.set j x) := by
  obtain ⟨g', cap', he, _, _, _, _, _, _, _, h2, _⟩ := ho.place (by omega)
  injection he with he1 he2 he3
  injection he1 with he1
  injection he1 with he1
  subst he1
  exact h2 j x hj
theorem tree_block {w : World} {g : Nat} (h : ∃ cur, w.heap[g]? = some (.cells cur 66 (0, 0))) (i : Nat) (u : Value) : ∃ cur, (w.setCell ⟨g, i, none⟩ u).heap[g]? = some (.cells cur 66 (0, 0)) := by
  obtain ⟨cur, hc⟩ := h
  exact ⟨_, heap_set_ hc i u⟩
/-- behind an exchange -/
theorem que_swap {w : World} {qb g n cap i k : Nat} {h : List NP} {a b : NP} (hq : w.heap[qb]? = some (.cells #[.slice (some ⟨g, 0, none⟩) n cap, .func (.func 36) #[] #[]] 70 (0, 0)))
    (ho : TreeOwn w (qb + 1) (.slice (some ⟨g, 0, none⟩) n cap) h) (hi : i < h.length) (hk : k < h.length) (ha : gP h i = a) (hb : gP h k = b) (hg : qb < g) (hh : ∃ cur, w.heap[g]? = some (.cells cur 66 (0, 0))) :
    Que (((((w.setCell ⟨g, i * 2, none⟩ (.int .i64 (b.1 : Int))).setCell ⟨g, i * 2 + 1, none⟩ (.int .i64 (b.2 : Int))).setCell ⟨g, k * 2, none⟩ (.int .i64 (a.1 : Int))).setCell ⟨g, k * 2 + 1, none⟩ (.int .i64 (a.2 : Int))).drew) qb (swapP h i k) ∧
    Kept qb w (((((w.setCell ⟨g, i * 2, none⟩ (.int .i64 (b.1 : Int))).setCell ⟨g, i * 2 + 1, none⟩ (.int .i64 (b.2 : Int))).setCell ⟨g, k * 2, none⟩ (.int .i64 (a.1 : Int))).setCell ⟨g, k * 2 + 1, none⟩ (.int .i64 (a.2 : Int))).drew) := by
  subst ha hb
  have h1 := ho.put i (gP h k) hi
  have h2 := h1.put k (gP h i) (by rw [List.length_set]; exact hk)
  have hne : qb ≠ g := by omega
  refine ⟨⟨_, ?_, h2⟩, ?_⟩
  · have e : ∀ (W : World) (j : Nat) (u : Value), (W.setCell ⟨g, j, none⟩ u).heap[qb]? = W.heap[qb]? := fun W j u => Below.heap_setCell _ _ _ _ hne
    show (((((w.setCell _ _).setCell _ _).setCell _ _).setCell _ _)).heap[qb]? = _
    rw [e, e, e, e]
    exact hq
  · have t1 := tree_block hh (i * 2) (.int .i64 ((gP h k).1 : Int))
    have t2 := tree_block t1 (i * 2 + 1) (.int .i64 ((gP h k).2 : Int))
    have t3 := tree_block t2 (k * 2) (.int .i64 ((gP h i).1 : Int))
    have k4 := (((Kept.set hg hh (i * 2) (.int .i64 ((gP h k).1 : Int))).trans (Kept.set hg t1 (i * 2 + 1) (.int .i64 ((gP h k).2 : Int)))).trans (Kept.set hg t2 (k * 2) (.int .i64 ((gP h i).1 : Int)))).trans (Kept.set hg t3 (k * 2 + 1) (.int .i64 ((gP h i).2 : Int)))
    exact ⟨k4.bel.drew, k4.size, k4.other⟩
set_option maxRecDepth 100000 in
set_option maxHeartbeats 4000000 in
theorem push_any (w : World) (qb : Nat) (h : List NP) (x : NP) (hq : Que w qb h) (hh : HeapP h) (hl : h.length ≤ 1000) :
    Calls Try.prog 37 #[.pointer (some ⟨qb, 0, none⟩), .agg #[.int .i64 (x.1 : Int), .int .i64 (x.2 : Int)]] w fun e w' => e = .returned (.tuple #[]) ∧ ∃ h', HeapP h' ∧ h'.Perm (x :: h) ∧ Que w' qb h' ∧ Kept qb w w' := by
  obtain ⟨v, hqb, hrow⟩ := hq.ex
  obtain ⟨q0, c0, rfl⟩ := hrow.shape
  obtain ⟨x1, x2⟩ := x
  have HQB := Lib.hid hqb
  have HRW := Lib.hid hrow
  have hql := lt_of_heap hqb
  have HH := Lib.hid hh
  clear hqb hrow hh hq
  go_enter Try.func37, Try.ntmps37
  go_wp2_with fail
  obtain ⟨bx, hbx⟩ : ∃ b, w.heap.size = b := ⟨_, rfl⟩
  have hX0 : (w.alloc (.cells #[.int .i64 (x1 : Int), .int .i64 (x2 : Int)] 66)).heap[bx]? = some (.cells #[.int .i64 (x1 : Int), .int .i64 (x2 : Int)] 66 (0, 0)) := heap_new _ _ _ hbx.symm
  have HQ1 := Lib.hid (heap_up (.cells #[.int .i64 (x1 : Int), .int .i64 (x2 : Int)] 66) HQB.out)
  have HR1 := Lib.hid (HRW.out.alloc (.cells #[.int .i64 (x1 : Int), .int .i64 (x2 : Int)] 66))
  have HB1 : Hid (Below w.heap.size w (w.alloc (.cells #[.int .i64 (x1 : Int), .int .i64 (x2 : Int)] 66))) := (Below.refl _ _).alloc (Nat.le_refl _) _
  have hz1 : (w.alloc (.cells #[.int .i64 (x1 : Int), .int .i64 (x2 : Int)] 66)).heap.size = bx + 1 := by simp [hbx]
  generalize w.alloc (.cells #[.int .i64 (x1 : Int), .int .i64 (x2 : Int)] 66) = W1 at *
  have HX0 := Lib.hid hX0
  have kx0 := (cell_of_heap hX0 0).trans rfl
  have kx1 := (cell_of_heap hX0 1).trans rfl
  have kq0 := (cell_of_heap HQ1.out 0).trans rfl
  rw [hbx] at hql ⊢
  clear hX0
  go_cut [6] (fun s6 wx => s6 = .pointer (some ⟨qb, 0, none⟩) ∧ Que wx qb (h ++ [(x1, x2)]) ∧ Kept qb w wx)
  case first =>
    go_region_law
      (refine step_append_tree (by rfl) _ _ (by rfl) (qb + 1) _ h (by rfl) (HR1.out.alloc _) (bx + 1) (x1, x2) (by rfl) (heap_new _ _ _ hz1.symm) (by omega) (by simp; omega) ?_
       intro g c w2 hown2 hg2 hat2
       have hq2 := (hg2.block qb (by simp; omega) (fun e => by have := own_tree_ge HR1.out e.symm; omega)).trans (heap_up _ HQ1.out)
       have kq2 := (cell_of_heap hq2 0).trans rfl
       have fq2 := frozen_of_heap hq2 0
       have Hq2 := Lib.hid hq2
       have Hown2 := Lib.hid hown2
       have Hg2 := Lib.hid hg2
       clear hq2 hown2 hg2 hat2)
    all_goals
      go_wp2_with fail
      go_meet
      have hkb : Kept qb w W1 := Kept.below (by omega) HB1.out
      have hk2 : Kept qb W1 w2 := (Kept.below (by omega) ((Below.refl _ W1).alloc (Nat.le_refl _) _).drew).trans (Kept.grown ((HR1.out.alloc _).below (Below.refl _ _).drew) (Nat.lt_succ_self _) (by simp; omega) Hg2.out)
      exact ⟨rfl, que_set Hq2.out (by have := Hown2.out; exact this), (hkb.trans hk2).trans (Kept.setq 0 _)⟩
  case rest =>
    obtain ⟨rfl, hQ, hK⟩ := hcut
    have HQc := Lib.hid hQ
    have HKc := Lib.hid hK
    clear hQ hK HQ1 HR1 HB1 HX0 kx0 kx1 kq0 hz1
    have hl1 : (h ++ [(x1, x2)]).length = h.length + 1 := by simp
    have hU := UpP.start HH.out (x1, x2)
    have hP : (h ++ [(x1, x2)]).Perm ((x1, x2) :: h) := List.perm_append_comm
    obtain ⟨N, hN⟩ : ∃ N, h.length = N := ⟨_, rfl⟩
    rw [hN] at hl1 hU hl
    have HU := Lib.hid hU
    have HP := Lib.hid hP
    generalize h ++ [(x1, x2)] = h1 at *
    obtain ⟨g, cap, hq1, ho1⟩ := HQc.out.row (by omega)
    rw [hl1] at hq1
    have kq0 := (cell_of_heap hq1 0).trans rfl
    have hw1 : IntKind.i64.wrap ((N : Int) + 1 - 1) = (N : Int) := by rw [IntWalk.i64_in _ (by omega)]; omega
    clear hU hP hq1 ho1 hN
    go_wp2_with fail
    go_loopw [4] (fun iv wr => ∃ (i : Nat) (h' : List NP), iv = .int .i64 i ∧ i < N + 1 ∧ h'.length = N + 1 ∧ Hid (UpP h' i) ∧ Hid (h'.Perm ((x1, x2) :: h)) ∧ Hid (Que wr qb h') ∧ Hid (Kept qb w wr)) (fun iv _ => (intOf iv).toNat)
    case atStart => exact ⟨N, h1, by go_num, by omega, hl1, HU, HP, HQc, HKc⟩
    case round =>
      clear HU HP HQc HKc kq0 hl1 hw1
      obtain ⟨i, h', rfl, hi, hl', HU, HP, HQ, HK⟩ := hrel
      by_cases h0 : 0 < i
      · obtain ⟨k, hk⟩ : ∃ k, (i - 1) / 2 = k := ⟨_, rfl⟩
        have hki : k < i := by omega
        have hi0 : (0 : Int) ≤ (i : Int) := by omega
        have hi1 : (i : Int) < (N : Int) + 1 := by omega
        have hk0 : (0 : Int) ≤ (k : Int) := by omega
        have hk1 : (k : Int) < (N : Int) + 1 := by omega
        have hdv : ((i : Int) - 1).tdiv 2 = (k : Int) := by rw [Int.tdiv_eq_ediv_of_nonneg (by omega)]; omega
        have hwi : IntKind.i64.wrap ((i : Int) - 1) = (i : Int) - 1 := IntWalk.i64_in _ (by omega)
        have hwk : IntKind.i64.wrap (k : Int) = (k : Int) := IntWalk.i64_in _ (by omega)
        obtain ⟨g, cap, hq1, ho1⟩ := HQ.out.row (by omega)
        have hpl := ho1.place (by omega)
        obtain ⟨g', cap', he, hcap1, hcap2, hg1, hg2, hg3, hg4, hg5, hg6, _⟩ := hpl
        rw [hl'] at he hq1 ho1
        injection he with he1 he2 he3
        injection he1 with he1
        injection he1 with he1
        subst he1
        subst he3
        rw [hl'] at hcap1
        unfold maxLen at hcap2
        obtain ⟨ci0, ci1⟩ := hg4 i (by omega)
        obtain ⟨ck0, ck1⟩ := hg4 k (by omega)
        have fi0 := hg5 (i * 2)
        have fi1 := hg5 (i * 2 + 1)
        have fk0 := hg5 (k * 2)
        have fk1 := hg5 (k * 2 + 1)
        have kq0 := (cell_of_heap hq1 0).trans rfl
        have kq1 := (cell_of_heap hq1 1).trans rfl
        have hqr := lt_of_heap hq1
        have CA : Hid (∀ W, Calls Try.prog 36 #[.agg #[.int .i64 ((gP h' i).1 : Int), .int .i64 ((gP h' i).2 : Int)], .agg #[.int .i64 ((gP h' k).1 : Int), .int .i64 ((gP h' k).2 : Int)]] W fun e w' => e = .returned (.bool (ltP (gP h' i) (gP h' k))) ∧ Below W.heap.size W w') := fun W => ahead_any W _ _
        have HQ1 := Lib.hid hq1
        have HO1 := Lib.hid ho1
        have HG3 := Lib.hid hg3
        have HG6 := Lib.hid hg6
        have HST : Hid (∀ {W' : World}, Below wr.heap.size wr W' → W'.cell? ⟨qb, 0, none⟩ = some (.slice (some ⟨g, 0, none⟩) (N + 1) cap) ∧ W'.cell? ⟨qb, 1, none⟩ = some (.func (.func 36) #[] #[]) ∧ W'.cell? ⟨g, i * 2, none⟩ = some (.int .i64 ((gP h' i).1 : Int)) ∧ W'.cell? ⟨g, i * 2 + 1, none⟩ = some (.int .i64 ((gP h' i).2 : Int)) ∧ W'.cell? ⟨g, k * 2, none⟩ = some (.int .i64 ((gP h' k).1 : Int)) ∧ W'.cell? ⟨g, k * 2 + 1, none⟩ = some (.int .i64 ((gP h' k).2 : Int))) := fun h =>
          ⟨(h.cell (p := ⟨qb, 0, none⟩) hqr).trans kq0, (h.cell (p := ⟨qb, 1, none⟩) hqr).trans kq1, (h.cell (p := ⟨g, i * 2, none⟩) hg2).trans ci0, (h.cell (p := ⟨g, i * 2 + 1, none⟩) hg2).trans ci1, (h.cell (p := ⟨g, k * 2, none⟩) hg2).trans ck0, (h.cell (p := ⟨g, k * 2 + 1, none⟩) hg2).trans ck1⟩
        have hr0 : Below wr.heap.size wr wr := Below.refl _ _
        obtain ⟨a, ha⟩ : ∃ a, gP h' i = a := ⟨_, rfl⟩
        obtain ⟨b, hb⟩ : ∃ b, gP h' k = b := ⟨_, rfl⟩
        rw [ha] at ci0 ci1 CA HST
        rw [hb] at ck0 ck1 CA HST
        have HA := Lib.hid ha
        have HB := Lib.hid hb
        have HKK := Lib.hid hk
        obtain ⟨r, hr⟩ : ∃ r, ltP a b = r := ⟨_, rfl⟩
        rw [hr] at CA
        have HR := Lib.hid hr
        clear hq1 ho1 hg3 hg4 hg5 hg6 ha hb hk hr
        go_wp2_with fail
        go_region_held3 (fun W' => W'.cell? ⟨qb, 0, none⟩ = some (.slice (some ⟨g, 0, none⟩) (N + 1) cap) ∧ W'.cell? ⟨qb, 1, none⟩ = some (.func (.func 36) #[] #[]) ∧ W'.cell? ⟨g, i * 2, none⟩ = some (.int .i64 (a.1 : Int)) ∧ W'.cell? ⟨g, i * 2 + 1, none⟩ = some (.int .i64 (a.2 : Int)) ∧ W'.cell? ⟨g, k * 2, none⟩ = some (.int .i64 (b.1 : Int)) ∧ W'.cell? ⟨g, k * 2 + 1, none⟩ = some (.int .i64 (b.2 : Int)))
          ((first | exact HST.out hr0.drew | exact HST.out HB8.out | fail))
          ((first
            | (go_at_call 36
               refine (CA.out _).mono ?_
               rintro e w8 ⟨rfl, hB8⟩
               have HB8 := Lib.hid (bel_call hB8 hr0.drew)
               clear hB8)
            | fail))
        all_goals
          have HK8 := Lib.hid (HK.out.trans (Kept.below (Nat.le_of_lt hqr) HB8.out))
          cases r with
          | false =>
            have Hh : Hid (HeapP h') := HU.out.done (.inr (by rw [HKK.out, HA.out, HB.out]; exact HR.out))
            have HQ8 := Lib.hid (HQ.out.up HB8.out)
            clear ci0 ci1 ck0 ck1 kq0 kq1 fi0 fi1 fk0 fk1
            go_wp2_with fail
            refine bodyPost_ret (v := .tuple #[]) (results_none rfl _ _ _) rfl ?_
            exact ⟨rfl, h', Hh.out, HP.out, HQ8.out, HK8.out⟩
          | true =>
            have HU2 : Hid (UpP (swapP h' i k) k) := by
              have := HU.out.step h0 (by rw [HKK.out, HA.out, HB.out]; exact HR.out)
              rw [HKK.out] at this
              exact this
            have HP2 : Hid ((swapP h' i k).Perm ((x1, x2) :: h)) := (swapP_perm h' i k (by omega) (by omega) (by omega)).trans HP.out
            have hls : (swapP h' i k).length = N + 1 := by rw [length_swapP, hl']
            have ho8 := HO1.out.below HB8.out
            have hq8 := (HB8.out.block qb hqr).trans HQ1.out
            obtain ⟨g', cap', he, _, _, _, hg28, hg38, hg48, hg58, hg68, _⟩ := ho8.place (by omega)
            rw [hl'] at he
            injection he with he1 he2 he3
            injection he1 with he1
            injection he1 with he1
            subst he1
            subst he3
            have di0 := hg58 (i * 2)
            have di1 := hg58 (i * 2 + 1)
            have dk0 := hg58 (k * 2)
            have dk1 := hg58 (k * 2 + 1)
            obtain ⟨ei0, ei1⟩ := hg48 i (by omega)
            obtain ⟨ek0, ek1⟩ := hg48 k (by omega)
            rw [HA.out] at ei0 ei1
            rw [HB.out] at ek0 ek1
            have eq0 := (cell_of_heap hq8 0).trans rfl
            have n1 : ¬ i * 2 = k * 2 := by omega
            have n2 : ¬ i * 2 + 1 = k * 2 := by omega
            have n3 : ¬ i * 2 = k * 2 + 1 := by omega
            have n4 : ¬ i * 2 + 1 = k * 2 + 1 := by omega
            have n5 : ¬ k * 2 = i * 2 := by omega
            have n6 : ¬ k * 2 + 1 = i * 2 := by omega
            have n7 : ¬ k * 2 = i * 2 + 1 := by omega
            have n8 : ¬ k * 2 + 1 = i * 2 + 1 := by omega
            have n9 : ¬ g = qb := by omega
            have n10 : ¬ qb = g := by omega
            have HQ8 := Lib.hid hq8
            have HO8 := Lib.hid ho8
            have HG38 := Lib.hid hg38
            clear ci0 ci1 ck0 ck1 kq0 kq1 fi0 fi1 fk0 fk1 hg48 hg58 hg68 hq8 ho8 hg38 CA HST
            go_wp2_with fail
            go_region
            go_wp2_with fail
            obtain ⟨hQs, hKs⟩ := que_swap HQ8.out HO8.out (show i < h'.length by omega) (show k < h'.length by omega) HA.out HB.out (by omega) HG38.out
            go_roundw
            case rel => exact ⟨k, swapP h' i k, by go_num, by omega, hls, HU2, HP2, hQs, HK8.out.trans hKs⟩
            case measure => simp [intOf]; omega
      · obtain rfl : i = 0 := by omega
        have hh := HU.out.done (.inl rfl)
        have Hh := Lib.hid hh
        clear hh
        go_wp2_with fail
        go_end0
        exact ⟨rfl, h', Hh.out, HP.out, HQ.out, HK.out⟩
end Go.Proofs.Ytodniacnjdnffaa
