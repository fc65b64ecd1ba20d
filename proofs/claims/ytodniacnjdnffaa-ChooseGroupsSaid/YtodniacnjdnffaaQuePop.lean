/- The queue: pop, walked. -/
import Derived.Test.YtodniacnjdnffaaQuePush
namespace Go.Proofs.Ytodniacnjdnffaa
open Go.RowKit
set_option linter.unusedVariables false

theorem TreeOwn.same {w w' : World} {base g n cap : Nat} {h : List NP} (ho : TreeOwn w base (.slice (some ⟨g, 0, none⟩) n cap) h) (hh : w'.heap[g]? = w.heap[g]?) : TreeOwn w' base (.slice (some ⟨g, 0, none⟩) n cap) h := by
  refine ⟨ho.1, ?_⟩
  rcases ho.2 with ⟨e, _⟩ | ⟨g', cap', cur, e, hb, hg, rest⟩
  · cases e
  · injection e with e1 e2 e3
    injection e1 with e1
    injection e1 with e1
    subst e1
    exact .inr ⟨g, cap', cur, by rw [e2, e3], hb, hh.trans hg, rest⟩
theorem loadVar_tree (k : Nat) (w : World) (a b : Value) (h : w.heap[k]? = some (.cells #[a, b] 66 (0, 0))) : (loadVar 66 ⟨k, 0, none⟩).run Try.prog w = .ok (.agg #[a, b]) w := by
  have c0 := (cell_of_heap h 0).trans rfl
  have c1 := (cell_of_heap h 1).trans rfl
  go_simp
theorem heap_put2 {W : World} {k : Nat} {a b : Value} {t : TypeId} (h : W.heap[k]? = some (.cells #[a, b] t (0, 0))) (a' b' : Value) : ((W.setCell ⟨k, 0, none⟩ a').setCell ⟨k, 1, none⟩ b').heap[k]? = some (.cells #[a', b'] t (0, 0)) := by
  have h1 := heap_set_ (heap_set_ h 0 a') 1 b'
  simpa using h1
theorem que_swapx {w : World} {qb g n cap i k : Nat} {h : List NP} {a b : NP} 
    (ho : TreeOwn w (qb + 1) (.slice (some ⟨g, 0, none⟩) n cap) h) (hi : i < h.length) (hk : k < h.length) (ha : gP h i = a) (hb : gP h k = b) (hg : qb < g) (hh : ∃ cur, w.heap[g]? = some (.cells cur 66 (0, 0))) (W : World)
    (hW : W = (((((w.setCell ⟨g, i * 2, none⟩ (.int .i64 (b.1 : Int))).setCell ⟨g, i * 2 + 1, none⟩ (.int .i64 (b.2 : Int))).setCell ⟨g, k * 2, none⟩ (.int .i64 (a.1 : Int))).setCell ⟨g, k * 2 + 1, none⟩ (.int .i64 (a.2 : Int))).drew)) :
    TreeOwn W (qb + 1) (.slice (some ⟨g, 0, none⟩) n cap) (swapP h i k) ∧ Kept qb w W ∧ ∀ j, j ≠ g → W.heap[j]? = w.heap[j]? := by
  subst hW ha hb
  have h1 := ho.put i (gP h k) hi
  have h2 := h1.put k (gP h i) (by rw [List.length_set]; exact hk)
  refine ⟨h2, ?_, fun j hj => ?_⟩
  · have t1 := tree_block hh (i * 2) (.int .i64 ((gP h k).1 : Int))
    have t2 := tree_block t1 (i * 2 + 1) (.int .i64 ((gP h k).2 : Int))
    have t3 := tree_block t2 (k * 2) (.int .i64 ((gP h i).1 : Int))
    have k4 := (((Kept.set hg hh (i * 2) (.int .i64 ((gP h k).1 : Int))).trans (Kept.set hg t1 (i * 2 + 1) (.int .i64 ((gP h k).2 : Int)))).trans (Kept.set hg t2 (k * 2) (.int .i64 ((gP h i).1 : Int)))).trans (Kept.set hg t3 (k * 2 + 1) (.int .i64 ((gP h i).2 : Int)))
    exact ⟨k4.bel.drew, k4.size, k4.other⟩
  · show (((((w.setCell _ _).setCell _ _).setCell _ _).setCell _ _)).heap[j]? = _
    rw [Below.heap_setCell _ _ _ _ hj, Below.heap_setCell _ _ _ _ hj, Below.heap_setCell _ _ _ _ hj, Below.heap_setCell _ _ _ _ hj]
set_option maxRecDepth 100000 in
set_option maxHeartbeats 12800000 in
theorem pop_any (w : World) (qb : Nat) (h : List NP) (hq : Que w qb h) (hh : HeapP h) (hl : h.length ≤ 1000) (hn : 0 < h.length) :
    Calls Try.prog 38 #[.pointer (some ⟨qb, 0, none⟩)] w fun e w' => e = .returned (.agg #[.int .i64 ((gP h 0).1 : Int), .int .i64 ((gP h 0).2 : Int)]) ∧ ∃ h', HeapP h' ∧ (gP h 0 :: h').Perm h ∧ Que w' qb h' ∧ Kept qb w w' := by
  obtain ⟨W1, hW1⟩ : ∃ W1, w.alloc (.cells #[.int .i64 0, .int .i64 0] 66) = W1 := ⟨_, rfl⟩
  obtain ⟨rb, hrb⟩ : ∃ rb, w.heap.size = rb := ⟨_, rfl⟩
  have hB1 : Below w.heap.size w W1 := by rw [← hW1]; exact (Below.refl _ _).alloc (Nat.le_refl _) _
  have hRB : W1.heap[rb]? = some (.cells #[.int .i64 0, .int .i64 0] 66 (0, 0)) := by rw [← hW1]; exact heap_new _ _ _ hrb.symm
  have hz1 : W1.heap.size = rb + 1 := by rw [← hW1, ← hrb]; simp
  have hqs : qb < rb := by
    obtain ⟨v, hv, _⟩ := hq.ex
    have := lt_of_heap hv
    omega
  have HK1 : Hid (Kept qb w W1) := Kept.below (by omega) hB1
  obtain ⟨g, cap, hqw, hroww⟩ := hq.row hn
  have hgr : g < rb := by
    have := hroww.place hn
    obtain ⟨g', cap', he, -, -, -, hlt, -⟩ := this
    injection he with he1 he2 he3
    injection he1 with he1
    injection he1 with he1
    omega
  have hqb := (hB1.block qb (by omega)).trans hqw
  have hrow := hroww.below hB1
  obtain ⟨N, hN⟩ : ∃ N, h.length = N + 1 := ⟨h.length - 1, by omega⟩
  rw [hN] at hqb hrow hl
  have hpl := hrow.place (by omega)
  obtain ⟨g', cap', he, hcap1, hcap2, hg1, hg2, hg3, hg4, hg5, -, -⟩ := hpl
  rw [hN] at he hcap1
  injection he with he1 he2 he3
  injection he1 with he1
  injection he1 with he1
  subst he1
  subst he3
  unfold maxLen at hcap2
  have HP0 := Lib.hid (lastP_perm h hn)
  have HD0 := Lib.hid (DownP.start hh hn)
  have hll : (lastP h).length = N := by rw [length_lastP]; omega
  obtain ⟨a, ha⟩ : ∃ a, gP h 0 = a := ⟨_, rfl⟩
  obtain ⟨z, hz⟩ : ∃ z, gP h N = z := ⟨_, rfl⟩
  obtain ⟨ca0, ca1⟩ := hg4 0 (by omega)
  obtain ⟨cz0, cz1⟩ := hg4 N (by omega)
  rw [ha] at ca0 ca1 HP0 ⊢
  rw [hz] at cz0 cz1
  have hlast : lastP h = (h.set 0 z).take N := by unfold lastP; rw [hN, Nat.add_sub_cancel, hz]
  have HLS := Lib.hid hlast
  have fa0 := hg5 (0 * 2)
  have fa1 := hg5 (0 * 2 + 1)
  have kq0 := (cell_of_heap hqb 0).trans rfl
  have kq1 := (cell_of_heap hqb 1).trans rfl
  have fq0 := frozen_of_heap hqb 0
  have HQB := Lib.hid hqb
  have HRW := Lib.hid hrow
  have HG3 := Lib.hid hg3
  have HRB := Lib.hid hRB
  have hgq : qb < g := by omega
  have hw1 : IntKind.i64.wrap ((N : Int) + 1 - 1) = (N : Int) := by rw [IntWalk.i64_in _ (by omega)]; omega
  have hw2 : IntKind.i64.wrap (N : Int) = (N : Int) := IntWalk.i64_in _ (by omega)
  have hn0 : (0 : Int) ≤ (N : Int) := by omega
  have hn1 : (N : Int) < (N : Int) + 1 := by omega
  have hn2 : (0 : Int) < (N : Int) + 1 := by omega
  rw [Nat.zero_mul] at ca0 fa0
  rw [Nat.zero_mul, Nat.zero_add] at ca1 fa1
  have HNlen := Lib.hid hN
  have HZ := Lib.hid hz
  clear hqb hrow hq hg4 hg5 hh hlast hn hg3 ha hz hN hqw hroww hB1 hRB
  go_enter Try.func38, Try.ntmps38
  go_wp2_with fail
  have HWW := Lib.hid hrb
  clear hW1 hrb
  go_cut [3, 4] (fun s3 s4 wx => s3 = .pointer (some ⟨rb + 1, 0, none⟩) ∧ s4 = .int .i64 (N : Int) ∧ wx.heap[rb + 1]? = some (.cells #[.int .i64 (a.1 : Int), .int .i64 (a.2 : Int)] 66 (0, 0)) ∧ Below W1.heap.size W1 wx)
  case first =>
    go_region
    all_goals
      go_wp2_with fail
      go_meet
      exact ⟨rfl, rfl, heap_new _ _ _ hz1.symm, ((Below.refl _ W1).alloc (Nat.le_refl _) _).drew⟩
  case rest =>
    obtain ⟨rfl, rfl, hX, hB⟩ := hcut
    have hqc := (hB.block qb (by omega)).trans HQB.out
    have hoc := HRW.out.below hB
    have hrc := (hB.block rb (by omega)).trans HRB.out
    obtain ⟨g', cap', he, -, -, -, hg2c, hg3c, hg4c, hg5c, -, -⟩ := hoc.place (by have := HNlen.out; omega)
    rw [HNlen.out] at he
    injection he with he1 he2 he3
    injection he1 with he1
    injection he1 with he1
    subst he1
    subst he3
    obtain ⟨da0, da1⟩ := hg4c 0 (by have := HNlen.out; omega)
    obtain ⟨dz0, dz1⟩ := hg4c N (by have := HNlen.out; omega)
    have ga0 := hg5c (0 * 2)
    have ga1 := hg5c (0 * 2 + 1)
    have lq0 := (cell_of_heap hqc 0).trans rfl
    have lq1 := (cell_of_heap hqc 1).trans rfl
    rw [HZ.out] at dz0 dz1
    rw [Nat.zero_mul] at da0 ga0
    rw [Nat.zero_mul, Nat.zero_add] at da1 ga1
    have n9 : ¬ g = qb := by omega
    have n10 : ¬ qb = g := by omega
    have HX := Lib.hid hX
    have HBc := Lib.hid hB
    have HQC := Lib.hid hqc
    have HOC := Lib.hid hoc
    have HRC := Lib.hid hrc
    have HG3C := Lib.hid hg3c
    clear hX hB hqc hoc hrc hg3c hg4c hg5c ca0 ca1 cz0 cz1 fa0 fa1 kq0 kq1 fq0 hg2
    go_wp2_with fail
    go_region
    have hO2 : TreeOwn (((wc.setCell ⟨g, 0, none⟩ (.int .i64 (z.1 : Int))).setCell ⟨g, 1, none⟩ (.int .i64 (z.2 : Int))).drew) (qb + 1) (.slice (some ⟨g, 0, none⟩) (N + 1) cap) (h.set 0 z) := by
      have := HOC.out.put 0 z (by have := HNlen.out; omega)
      rw [Nat.zero_mul, Nat.zero_add] at this
      exact this
    have hK2 : Kept qb wc (((wc.setCell ⟨g, 0, none⟩ (.int .i64 (z.1 : Int))).setCell ⟨g, 1, none⟩ (.int .i64 (z.2 : Int))).drew) := by
      have t1 := tree_block HG3C.out 0 (.int .i64 (z.1 : Int))
      have k4 := (Kept.set hgq HG3C.out 0 (.int .i64 (z.1 : Int))).trans (Kept.set hgq t1 1 (.int .i64 (z.2 : Int)))
      exact ⟨k4.bel.drew, k4.size, k4.other⟩
    have hS2 : ∀ k, k ≠ g → (((wc.setCell ⟨g, 0, none⟩ (.int .i64 (z.1 : Int))).setCell ⟨g, 1, none⟩ (.int .i64 (z.2 : Int))).drew).heap[k]? = wc.heap[k]? := fun k hk => by
      show ((wc.setCell _ _).setCell _ _).heap[k]? = _
      rw [Below.heap_setCell _ _ _ _ hk, Below.heap_setCell _ _ _ _ hk]
    generalize (((wc.setCell ⟨g, 0, none⟩ (.int .i64 (z.1 : Int))).setCell ⟨g, 1, none⟩ (.int .i64 (z.2 : Int))).drew) = W2 at *
    have hq2 := (hS2 qb n10).trans HQC.out
    have hr2 := (hS2 rb (by omega)).trans HRC.out
    have hx2 := (hS2 (rb + 1) (by omega)).trans HX.out
    have mq0 := (cell_of_heap hq2 0).trans rfl
    have mf0 := frozen_of_heap hq2 0
    obtain ⟨g', cap', he, -, -, -, -, -, -, -, -, h7⟩ := hO2.place (by rw [List.length_set]; have := HNlen.out; omega)
    rw [List.length_set, HNlen.out] at he
    injection he with he1 he2 he3
    injection he1 with he1
    injection he1 with he1
    subst he1
    subst he3
    have hO3 := h7 N (by rw [List.length_set]; have := HNlen.out; omega)
    rw [← HLS.out] at hO3
    have hQ3 : Hid ((W2.setCell ⟨qb, 0, none⟩ (.slice (some ⟨g, 0, none⟩) N cap)).heap[qb]? = some (.cells #[.slice (some ⟨g, 0, none⟩) N cap, .func (.func 36) #[] #[]] 70 (0, 0))) := by
      show _ = _
      have := heap_set_ hq2 0 (.slice (some ⟨g, 0, none⟩) N cap)
      simpa using this
    have hO4 : Hid (TreeOwn (W2.setCell ⟨qb, 0, none⟩ (.slice (some ⟨g, 0, none⟩) N cap)) (qb + 1) (.slice (some ⟨g, 0, none⟩) N cap) (lastP h)) :=
      World.ownsRow.kept hO3 (grownBy_setCell' W2 qb (.slice (some ⟨g, 0, none⟩) N cap)) (.inr (by simp [Value.ownBlock]; omega))
    have hR4 : Hid ((W2.setCell ⟨qb, 0, none⟩ (.slice (some ⟨g, 0, none⟩) N cap)).heap[rb]? = some (.cells #[.int .i64 0, .int .i64 0] 66 (0, 0))) := (Below.heap_setCell _ _ _ _ (show rb ≠ qb by omega)).trans hr2
    have hX4 : Hid ((W2.setCell ⟨qb, 0, none⟩ (.slice (some ⟨g, 0, none⟩) N cap)).heap[rb + 1]? = some (.cells #[.int .i64 (a.1 : Int), .int .i64 (a.2 : Int)] 66 (0, 0))) := (Below.heap_setCell _ _ _ _ (show rb + 1 ≠ qb by omega)).trans hx2
    have hK4 : Hid (Kept qb w (W2.setCell ⟨qb, 0, none⟩ (.slice (some ⟨g, 0, none⟩) N cap))) := ((HK1.out.trans (Kept.below (by omega) HBc.out)).trans hK2).trans (Kept.setq 0 _)
    clear hS2 hO2 hK2 hq2 hr2 hx2 h7 hO3 da0 da1 dz0 dz1 ga0 ga1 lq0 lq1 HQC HOC HRC HX HG3C HBc HK1 HRB HG3 HRW HQB HLS
    go_wp2_with fail
    generalize W2.setCell ⟨qb, 0, none⟩ (.slice (some ⟨g, 0, none⟩) N cap) = W3 at *
    have h1 := lastP h
    have hlp := hll
    obtain ⟨h0, hh0⟩ : ∃ h0, lastP h = h0 := ⟨_, rfl⟩
    rw [hh0] at hO4 HP0 HD0 hlp
    clear hh0 hll mq0 mf0 h1
    go_loopw [5] (fun iv wr => ∃ (i : Nat) (h' : List NP), iv = .int .i64 i ∧ i ≤ N ∧ h'.length = N ∧ Hid (DownP h' i) ∧ Hid ((a :: h').Perm h) ∧ Hid (wr.heap[qb]? = some (.cells #[.slice (some ⟨g, 0, none⟩) N cap, .func (.func 36) #[] #[]] 70 (0, 0))) ∧ Hid (TreeOwn wr (qb + 1) (.slice (some ⟨g, 0, none⟩) N cap) h') ∧ Hid (wr.heap[rb]? = some (.cells #[.int .i64 0, .int .i64 0] 66 (0, 0))) ∧ Hid (wr.heap[rb + 1]? = some (.cells #[.int .i64 (a.1 : Int), .int .i64 (a.2 : Int)] 66 (0, 0))) ∧ Hid (Kept qb w wr)) (fun iv _ => N + 1 - (intOf iv).toNat)
    case atStart => exact ⟨0, h0, rfl, Nat.zero_le _, hlp, HD0, HP0, hQ3, hO4, hR4, hX4, hK4⟩
    case round =>
      clear hQ3 hO4 hR4 hX4 hK4 HD0 HP0 hlp
      obtain ⟨i, h', rfl, hi, hl', HD, HP, HQ, HO, HR, HX, HK⟩ := hrel
      have hw5 : IntKind.i64.wrap (2 * (i : Int)) = 2 * (i : Int) := IntWalk.i64_in _ (by omega)
      have hw6 : IntKind.i64.wrap (2 * (i : Int) + 1) = 2 * (i : Int) + 1 := IntWalk.i64_in _ (by omega)
      have hw7 : IntKind.i64.wrap (2 * (i : Int) + 2) = 2 * (i : Int) + 2 := IntWalk.i64_in _ (by omega)
      go_wp2_with fail
      go_loopw [6, 7] (fun fv kv wr => ∃ (f k : Nat), fv = .int .i64 f ∧ kv = .int .i64 k ∧ 2 * i + 1 ≤ k ∧ k ≤ 2 * i + 3 ∧ (f = i ∨ 2 * i + 1 ≤ f ∧ f < k ∧ f < N ∧ ltP (gP h' f) (gP h' i) = true) ∧ Hid (∀ j, 2 * i + 1 ≤ j → j < k → j < N → ltP (gP h' j) (gP h' f) = false) ∧ Hid (wr.heap[qb]? = some (.cells #[.slice (some ⟨g, 0, none⟩) N cap, .func (.func 36) #[] #[]] 70 (0, 0))) ∧ Hid (TreeOwn wr (qb + 1) (.slice (some ⟨g, 0, none⟩) N cap) h') ∧ Hid (wr.heap[rb]? = some (.cells #[.int .i64 0, .int .i64 0] 66 (0, 0))) ∧ Hid (wr.heap[rb + 1]? = some (.cells #[.int .i64 (a.1 : Int), .int .i64 (a.2 : Int)] 66 (0, 0))) ∧ Hid (Kept qb w wr)) (fun _ kv _ => 2 * i + 4 - (intOf kv).toNat)
      case atStart => exact ⟨i, 2 * i + 1, rfl, by go_num, by omega, by omega, .inl rfl, fun j h1 h2 => by omega, HQ, HO, HR, HX, HK⟩
      case round =>
        clear HQ HO HR HX HK
        obtain ⟨f, k, rfl, rfl, hk1, hk3, hf, HM, HQ, HO, HR, HX, HK⟩ := hrel
        by_cases hin : k ≤ 2 * i + 2 ∧ k < N
        · as_aux_lemma =>
          obtain ⟨hin1, hin2⟩ := hin
          have hfN : f < N := by omega
          have hN0 : 0 < N := by omega
          obtain ⟨g', cap', he, -, -, -, hg2, hg3, hg4, hg5, -, -⟩ := HO.out.place (by omega)
          rw [hl'] at he
          injection he with he1 he2 he3
          injection he1 with he1
          injection he1 with he1
          subst he1
          subst he3
          obtain ⟨ck0, ck1⟩ := hg4 k (by omega)
          obtain ⟨cf0, cf1⟩ := hg4 f (by omega)
          have kq0 := (cell_of_heap HQ.out 0).trans rfl
          have kq1 := (cell_of_heap HQ.out 1).trans rfl
          have hqr := lt_of_heap HQ.out
          have hk0i : (0 : Int) ≤ (k : Int) := by omega
          have hk1i : (k : Int) < (N : Int) := by omega
          have hf0i : (0 : Int) ≤ (f : Int) := by omega
          have hf1i : (f : Int) < (N : Int) := by omega
          have hki : (k : Int) ≤ 2 * (i : Int) + 2 := by omega
          have hwk : IntKind.i64.wrap ((k : Int) + 1) = (k : Int) + 1 := IntWalk.i64_in _ (by omega)
          have CA : Hid (∀ W, Calls Try.prog 36 #[.agg #[.int .i64 ((gP h' k).1 : Int), .int .i64 ((gP h' k).2 : Int)], .agg #[.int .i64 ((gP h' f).1 : Int), .int .i64 ((gP h' f).2 : Int)]] W fun e w' => e = .returned (.bool (ltP (gP h' k) (gP h' f))) ∧ Below W.heap.size W w') := fun W => ahead_any W _ _
          have HST : Hid (∀ {W' : World}, Below wr.heap.size wr W' → W'.cell? ⟨qb, 0, none⟩ = some (.slice (some ⟨g, 0, none⟩) N cap) ∧ W'.cell? ⟨qb, 1, none⟩ = some (.func (.func 36) #[] #[]) ∧ W'.cell? ⟨g, k * 2, none⟩ = some (.int .i64 ((gP h' k).1 : Int)) ∧ W'.cell? ⟨g, k * 2 + 1, none⟩ = some (.int .i64 ((gP h' k).2 : Int)) ∧ W'.cell? ⟨g, f * 2, none⟩ = some (.int .i64 ((gP h' f).1 : Int)) ∧ W'.cell? ⟨g, f * 2 + 1, none⟩ = some (.int .i64 ((gP h' f).2 : Int))) := fun h =>
            ⟨(h.cell (p := ⟨qb, 0, none⟩) hqr).trans kq0, (h.cell (p := ⟨qb, 1, none⟩) hqr).trans kq1, (h.cell (p := ⟨g, k * 2, none⟩) hg2).trans ck0, (h.cell (p := ⟨g, k * 2 + 1, none⟩) hg2).trans ck1, (h.cell (p := ⟨g, f * 2, none⟩) hg2).trans cf0, (h.cell (p := ⟨g, f * 2 + 1, none⟩) hg2).trans cf1⟩
          have hr0 : Below wr.heap.size wr wr := Below.refl _ _
          obtain ⟨u, hu⟩ : ∃ u, gP h' k = u := ⟨_, rfl⟩
          obtain ⟨v, hv⟩ : ∃ v, gP h' f = v := ⟨_, rfl⟩
          rw [hu] at ck0 ck1 CA HST
          rw [hv] at cf0 cf1 CA HST HM hf
          obtain ⟨r, hr⟩ : ∃ r, ltP u v = r := ⟨_, rfl⟩
          rw [hr] at CA
          have HU := Lib.hid hu
          have HV := Lib.hid hv
          have HRr := Lib.hid hr
          have HF := Lib.hid hf
          clear hg3 hg4 hg5 hu hv hr hf
          go_wp2_with fail
          go_region_held3 (fun W' => W'.cell? ⟨qb, 0, none⟩ = some (.slice (some ⟨g, 0, none⟩) N cap) ∧ W'.cell? ⟨qb, 1, none⟩ = some (.func (.func 36) #[] #[]) ∧ W'.cell? ⟨g, k * 2, none⟩ = some (.int .i64 (u.1 : Int)) ∧ W'.cell? ⟨g, k * 2 + 1, none⟩ = some (.int .i64 (u.2 : Int)) ∧ W'.cell? ⟨g, f * 2, none⟩ = some (.int .i64 (v.1 : Int)) ∧ W'.cell? ⟨g, f * 2 + 1, none⟩ = some (.int .i64 (v.2 : Int)))
            ((first | exact HST.out hr0.drew | exact HST.out HB8.out | fail))
            ((first
              | (go_at_call 36
                 refine (CA.out _).mono ?_
                 rintro e w8 ⟨rfl, hB8⟩
                 have HB8 := Lib.hid (bel_call hB8 hr0.drew)
                 clear hB8)
              | fail))
          all_goals
            have HK8 := Lib.hid (HK.out.trans (Kept.below (Nat.le_of_lt hqr) HB8.out))
            have HQ8 := Lib.hid ((HB8.out.block qb hqr).trans HQ.out)
            have HO8 := Lib.hid (HO.out.below HB8.out)
            have HR8 := Lib.hid ((HB8.out.block rb (lt_of_heap HR.out)).trans HR.out)
            have HX8 := Lib.hid ((HB8.out.block (rb + 1) (lt_of_heap HX.out)).trans HX.out)
            cases r with
            | true =>
              have hnf : k = i ∨ 2 * i + 1 ≤ k ∧ k < k + 1 ∧ k < N ∧ ltP (gP h' k) (gP h' i) = true := by
                refine .inr ⟨hk1, by omega, hin2, ?_⟩
                rw [HU.out]
                rcases HF.out with e | ⟨_, _, _, e⟩
                · rw [← e, HV.out]; exact HRr.out
                · exact ltP_trans HRr.out e
              have HNM : Hid (∀ j, 2 * i + 1 ≤ j → j < k + 1 → j < N → ltP (gP h' j) (gP h' k) = false) := fun j h1 h2 h3 => by
                by_cases e : j = k
                · subst e; rw [ltP_no]; omega
                · rw [HU.out]
                  exact leP_trans (ltP_anti HRr.out) (HM.out j h1 (by omega) h3)
              clear ck0 ck1 cf0 cf1 kq0 kq1
              go_wp2_with fail
              go_roundw
              case rel => exact ⟨k, k + 1, rfl, by go_num, by omega, by omega, hnf, HNM, HQ8, HO8, HR8, HX8, HK8⟩
              case measure => simp [intOf]; omega
            | false =>
              have hnf : f = i ∨ 2 * i + 1 ≤ f ∧ f < k + 1 ∧ f < N ∧ ltP (gP h' f) (gP h' i) = true := by
                rcases HF.out with e | ⟨h1, h2, h3, h4⟩
                · exact .inl e
                · exact .inr ⟨h1, by omega, h3, by rw [HV.out]; exact h4⟩
              have HNM : Hid (∀ j, 2 * i + 1 ≤ j → j < k + 1 → j < N → ltP (gP h' j) (gP h' f) = false) := fun j h1 h2 h3 => by
                by_cases e : j = k
                · subst e; rw [HU.out, HV.out]; exact HRr.out
                · rw [HV.out]; exact HM.out j h1 (by omega) h3
              clear ck0 ck1 cf0 cf1 kq0 kq1
              go_wp2_with fail
              go_roundw
              case rel => exact ⟨f, k + 1, rfl, by go_num, by omega, by omega, hnf, HNM, HQ8, HO8, HR8, HX8, HK8⟩
              case measure => simp [intOf]; omega
        · as_aux_lemma =>
          have HM2 : Hid (∀ j, 0 < j → j < h'.length → (j - 1) / 2 = i → ltP (gP h' j) (gP h' f) = false) := fun j h0 h1 h2 => HM.out j (by omega) (by omega) (by omega)
          have HIN : Hid (2 * (i : Int) + 2 < (k : Int) ∨ (k : Int) ≤ 2 * (i : Int) + 2 ∧ (N : Int) ≤ (k : Int)) := by
            show _ ∨ _
            omega
          clear hin HM
          by_cases hfi : f = i
          · subst hfi
            have Hh : Hid (HeapP h') := HD.out.done HM2.out
            have x0 := (cell_of_heap HX.out 0).trans rfl
            have x1 := (cell_of_heap HX.out 1).trans rfl
            have r0 := (cell_of_heap HR.out 0).trans rfl
            have r1 := (cell_of_heap HR.out 1).trans rfl
            have rf0 := frozen_of_heap HR.out 0
            have rf1 := frozen_of_heap HR.out 1
            have hrl := lt_of_heap HR.out
            have hrs := heap_put2 HR.out (.int .i64 (a.1 : Int)) (.int .i64 (a.2 : Int))
            have HRS := Lib.hid hrs
            have HQF : Hid (Que ((wr.setCell ⟨rb, 0, none⟩ (.int .i64 (a.1 : Int))).setCell ⟨rb, 1, none⟩ (.int .i64 (a.2 : Int))) qb h') :=
              ⟨.slice (some ⟨g, 0, none⟩) N cap, by rw [Below.heap_setCell _ _ _ _ (show qb ≠ rb by omega), Below.heap_setCell _ _ _ _ (show qb ≠ rb by omega)]; exact HQ.out, HO.out.same (by rw [Below.heap_setCell _ _ _ _ (show g ≠ rb by omega), Below.heap_setCell _ _ _ _ (show g ≠ rb by omega)])⟩
            have HKF : Hid (Kept qb w ((wr.setCell ⟨rb, 0, none⟩ (.int .i64 (a.1 : Int))).setCell ⟨rb, 1, none⟩ (.int .i64 (a.2 : Int)))) :=
              (HK.out.trans (Kept.set hqs ⟨_, HR.out⟩ 0 _)).trans (Kept.set hqs (tree_block ⟨_, HR.out⟩ 0 _) 1 _)
            rcases HIN.out with c1 | ⟨c1, c2⟩
            all_goals
              go_wp2_with fail
              refine bodyPost_ret (results_cell1 rfl _ _ _ ⟨rb, 0, none⟩ _ rfl (loadVar_tree _ _ _ _ HRS.out)) rfl ?_
              exact ⟨rfl, h', Hh.out, HP.out, HQF.out, HKF.out⟩
          · obtain ⟨hf1, hf2, hf3, hf4⟩ : 2 * i + 1 ≤ f ∧ f < k ∧ f < N ∧ ltP (gP h' f) (gP h' i) = true := by
              rcases hf with e | e
              · exact absurd e hfi
              · exact e
            have hff : ((f : Int) == (i : Int)) = false := by rw [beq_eq_false_iff_ne]; omega
            have HD2 : Hid (DownP (swapP h' i f) f) := HD.out.step (by omega) (by omega) (by omega) hf4 HM2.out
            have HP2 : Hid ((a :: swapP h' i f).Perm h) := ((swapP_perm h' i f (by omega) (by omega) (by omega)).cons a).trans HP.out
            have hls : (swapP h' i f).length = N := by rw [length_swapP, hl']
            obtain ⟨g', cap', he, -, -, -, hg2, hg3, hg4, hg5, -, -⟩ := HO.out.place (by omega)
            rw [hl'] at he
            injection he with he1 he2 he3
            injection he1 with he1
            injection he1 with he1
            subst he1
            subst he3
            obtain ⟨u, hu⟩ : ∃ u, gP h' i = u := ⟨_, rfl⟩
            obtain ⟨v, hv⟩ : ∃ v, gP h' f = v := ⟨_, rfl⟩
            obtain ⟨ei0, ei1⟩ := hg4 i (by omega)
            obtain ⟨ef0, ef1⟩ := hg4 f (by omega)
            rw [hu] at ei0 ei1
            rw [hv] at ef0 ef1
            have HU := Lib.hid hu
            have HV := Lib.hid hv
            have di0 := hg5 (i * 2)
            have di1 := hg5 (i * 2 + 1)
            have df0 := hg5 (f * 2)
            have df1 := hg5 (f * 2 + 1)
            have eq0 := (cell_of_heap HQ.out 0).trans rfl
            have hi0i : (0 : Int) ≤ (i : Int) := by omega
            have hi1i : (i : Int) < (N : Int) := by omega
            have hf0i : (0 : Int) ≤ (f : Int) := by omega
            have hf1i : (f : Int) < (N : Int) := by omega
            have m1 : ¬ i * 2 = f * 2 := by omega
            have m2 : ¬ i * 2 + 1 = f * 2 := by omega
            have m3 : ¬ i * 2 = f * 2 + 1 := by omega
            have m4 : ¬ i * 2 + 1 = f * 2 + 1 := by omega
            have m5 : ¬ f * 2 = i * 2 := by omega
            have m6 : ¬ f * 2 + 1 = i * 2 := by omega
            have m7 : ¬ f * 2 = i * 2 + 1 := by omega
            have m8 : ¬ f * 2 + 1 = i * 2 + 1 := by omega
            have HG3 := Lib.hid hg3
            clear hg3 hg4 hg5 hf hf4 hu hv HD HM2
            rcases HIN.out with c1 | ⟨c1, c2⟩
            all_goals
              go_wp2_with fail
              go_region
              go_wp2_with fail
              obtain ⟨WS, hWS⟩ : ∃ WS, (((((wr.setCell ⟨g, i * 2, none⟩ (.int .i64 (v.1 : Int))).setCell ⟨g, i * 2 + 1, none⟩ (.int .i64 (v.2 : Int))).setCell ⟨g, f * 2, none⟩ (.int .i64 (u.1 : Int))).setCell ⟨g, f * 2 + 1, none⟩ (.int .i64 (u.2 : Int))).drew) = WS := ⟨_, rfl⟩
              obtain ⟨hOs, hKs, hBs⟩ := que_swapx HO.out (show i < h'.length by omega) (show f < h'.length by omega) HU.out HV.out hgq HG3.out WS hWS.symm
              rw [hWS]
              go_roundw
              case rel => exact ⟨f, swapP h' i f, rfl, by omega, hls, HD2, HP2, (hBs qb n10).trans HQ.out, hOs, (hBs rb (by omega)).trans HR.out, (hBs (rb + 1) (by omega)).trans HX.out, HK.out.trans hKs⟩
              case measure => simp [intOf]; omega
end Go.Proofs.Ytodniacnjdnffaa
