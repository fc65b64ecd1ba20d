/- Words of the program: the walk. -/
import Derived.Test.YtkicaimondpceaaCodeLev
import Derived.Test.YtkicaimondpceaaCodeChk
namespace Go.Proofs.Ytkicaimondpceaa
open Go.RowKit Go.Shelf
attribute [local go_sem] Oper.semAt_some
set_option linter.unusedVariables false

/-- words as cells: those that are there yet -/
def wcell (l : List Nat) (p : Nat → Bool) (j : Nat) : Value :=
  if j % 2 = 0 then .int .i64 ((if p (j / 2) then l[j / 2]?.getD 0 else 0 : Nat) : Int) else .int .u64 ((if p (j / 2) then wordV l (j / 2) else 0 : Nat) : Int)
def outC (l : List Nat) (p : Nat → Bool) : Array Value := (Array.range (l.length * 2)).map (wcell l p)
theorem outC_size (l : List Nat) (p : Nat → Bool) : (outC l p).size = l.length * 2 := by simp [outC]
theorem outC_get (l : List Nat) (p : Nat → Bool) (j : Nat) (h : j < l.length * 2) : (outC l p)[j]? = some (wcell l p j) := by simp [outC, h]
theorem outC_none (l : List Nat) (p : Nat → Bool) (j : Nat) (h : ¬ j < l.length * 2) : (outC l p)[j]? = none := Array.getElem?_eq_none (by rw [outC_size]; omega)
theorem outC_congr {l : List Nat} {p q : Nat → Bool} (h : ∀ s, s < l.length → p s = q s) : outC l p = outC l q := by
  apply Array.ext_getElem?
  intro j
  by_cases hj : j < l.length * 2
  · rw [outC_get _ _ _ hj, outC_get _ _ _ hj]
    unfold wcell
    rw [h (j / 2) (by omega)]
  · rw [outC_none _ _ _ hj, outC_none _ _ _ hj]
theorem outC_made (l : List Nat) : outC l (fun _ => false) = madeCells #[.int .i64 0, .int .u64 0] (l.length * 2) := by
  apply Array.ext_getElem?
  intro j
  by_cases hj : j < l.length * 2
  · rw [outC_get _ _ _ hj]
    unfold wcell
    rcases Nat.mod_two_eq_zero_or_one j with h | h
    · simp [madeCells, hj, h]
    · simp [madeCells, hj, h]
  · rw [outC_none _ _ _ hj, Array.getElem?_eq_none (by rw [size_madeCells]; omega)]
theorem outC_set (l : List Nat) (p : Nat → Bool) (s : Nat) (hs : s < l.length) :
    ((outC l p).setIfInBounds (s * 2) (.int .i64 ((l[s]?.getD 0 : Nat) : Int))).setIfInBounds (s * 2 + 1) (.int .u64 (wordV l s : Int)) = outC l (fun t => p t || t == s) := by
  apply Array.ext_getElem?
  intro j
  rw [Array.getElem?_setIfInBounds, Array.getElem?_setIfInBounds, Array.size_setIfInBounds, outC_size]
  by_cases hj : j < l.length * 2
  · rw [outC_get _ _ _ hj, outC_get _ _ _ hj]
    by_cases h1 : s * 2 + 1 = j
    · subst h1
      rw [if_pos rfl, if_pos hj]
      unfold wcell
      rw [if_neg (by omega), show (s * 2 + 1) / 2 = s by omega]
      simp
    · rw [if_neg h1]
      by_cases h2 : s * 2 = j
      · subst h2
        rw [if_pos rfl, if_pos hj]
        unfold wcell
        rw [if_pos (by omega), show s * 2 / 2 = s by omega]
        simp
      · rw [if_neg h2]
        unfold wcell
        have : (j / 2 == s) = false := by rw [beq_eq_false_iff_ne]; omega
        simp [this]
  · rw [outC_none _ _ _ hj, outC_none _ _ _ hj, if_neg (by omega), if_neg (by omega)]
/-- which words are there -/
def seen (l : List Nat) (ns : List Nat) (s : Nat) : Bool := decide (l[s]?.getD 0 ∈ ns)
def seenTo (l : List Nat) (ns : List Nat) (n i s : Nat) : Bool := seen l ns s || decide (s ∈ (whose l n).take i)
theorem seenTo_zero (l ns : List Nat) (n : Nat) : seenTo l ns n 0 = seen l ns := by funext s; simp [seenTo]
theorem seenTo_succ (l ns : List Nat) (n i t : Nat) (h : (whose l n)[i]? = some t) : seenTo l ns n (i + 1) = fun s => seenTo l ns n i s || s == t := by
  funext s
  unfold seenTo
  rw [List.take_add_one, h, Bool.or_assoc]
  congr 1
  rw [Bool.eq_iff_iff]
  simp
theorem seenTo_all (l ns : List Nat) (n : Nat) : outC l (seenTo l ns n (l.count n)) = outC l (seen l (ns ++ [n])) := outC_congr fun s hs => by
  unfold seenTo seen
  rw [List.take_of_length_le (by rw [length_whose]; exact Nat.le_refl _), Bool.eq_iff_iff]
  simp only [Bool.or_eq_true, decide_eq_true_eq, whose_mem, List.mem_append, List.mem_singleton]
  rw [List.getElem?_eq_getElem hs]
  simp
theorem seen_levels (l : List Nat) (hf : Fits l) : outC l (seen l (levelNs l 20)) = outC l (fun _ => true) := outC_congr fun s hs => by
  unfold seen
  rw [decide_eq_true_eq, levelNs_mem, List.getElem?_eq_getElem hs]
  have hm := List.getElem_mem hs
  have := hf _ hm
  exact ⟨this.1, this.2, List.count_pos_iff.2 hm⟩
theorem word_info : (Try.prog.info? 34).map (fun i => (i.zero, i.size, i.bytes)) = some (some (.agg #[.int .i64 0, .int .u64 0]), 2, 16) := by kernel_rfl
theorem run_make_words (l : List Nat) (N : Nat) (hN : l.length = N) (hn : N ≤ 1000000) : ∀ W, (Instr.makeSlice 27 (.int .i64 (N : Int)) (.int .i64 (N : Int))).run Try.prog W = .ok (.slice (some ⟨W.heap.size, 0, none⟩) N N) (W.alloc (.cells (outC l fun _ => false) 34)) := fun W => by
  obtain ⟨i0, hi, hz0, hz1, hz2⟩ := info_parts word_info
  have := run_make (P := Try.prog) W 27 34 i0 (.agg #[.int .i64 0, .int .u64 0]) Try.underlying27 hi hz0 .i64 .i64 N N (by omega) (by omega) (by rw [hz2]; omega) (by omega)
  rw [hz1, Int.toNat_natCast, ← hN] at this
  rw [outC_made, ← hN]
  exact this
/-- v reads as these words -/
def IsWords (w : World) (v : Value) (l : List Nat) : Prop := ∃ g c, v = .slice (some ⟨g, 0, none⟩) l.length c ∧ w.heap[g]? = some (.cells (outC l fun _ => true) 34 (0, 0))

set_option maxRecDepth 100000 in
set_option maxHeartbeats 4000000 in
theorem words_ok (w : World) (v : Value) (l : List Nat) (hv : IsInts w w.heap.size v (ints l)) (hl : Code l) :
    Calls Try.prog 13 #[v] w fun e w' => ∃ u, e = .returned (.tuple #[u, .int .i64 0]) ∧ IsWords w' u l ∧ Below w.heap.size w w' := by
  obtain ⟨A, ca, rfl, hc1, hc2⟩ := hv.shape
  have hli := length_ints l
  obtain ⟨N, hN⟩ : ∃ N, l.length = N := ⟨_, rfl⟩
  rw [hli, hN] at hc1 hv ⊢
  have hN258 : N ≤ 258 := by rw [← hN]; exact hl.most
  have CC : Hid (Calls Try.prog 15 #[.slice A N ca] w fun e w' => e = .returned (.int .i64 0) ∧ Below w.heap.size w w') := by
    have := check_any w _ _ hv (by rw [hli]; omega)
    rw [hl.ok] at this
    exact this
  have hmk := run_make_words l N hN (by omega)
  have Hv := Lib.hid hv
  have HN := Lib.hid hN
  have Hlc := Lib.hid hl
  obtain ⟨D, hD⟩ : ∃ D : Nat, 8 ≤ D := ⟨8, by omega⟩
  have h1D : 1 ≤ D := by omega
  clear hv hN hl hli
  refine (callsIn_wide (n := D)).1 ?_
  refine callsIn_of_wp_marks Try.func13 rfl trivial ?_ rfl
  simp only [Try.ntmps13, List.size_toArray, List.length_cons, List.length_nil, Nat.reduceAdd, Nat.reduceSub, Array.replicate_succ, Array.replicate_zero, List.push_toArray, List.append_toArray, List.nil_append, List.cons_append]
  gi_wp2_with fail
  refine ⟨trivial, (callsIn_wide.2 CC.out).mono ?_⟩
  rintro e w1 ⟨rfl, hB1⟩
  have HB1 := Lib.hid hB1
  clear hB1 CC
  gi_wp2_with fail
  refine ⟨trivial, (callsIn_wide.2 (levels_any _ A N ca)).mono ?_⟩
  rintro e w' ⟨rfl, rfl⟩
  gi_wp2_with fail
  obtain ⟨g, hg⟩ : ∃ g, w1.heap.size = g := ⟨_, rfl⟩
  have hwg : w.heap.size ≤ g := by rw [← hg]; exact HB1.out.size
  have hBW : Below w.heap.size w (((w1.alloc (.cells (outC l fun _ => false) 34)).alloc (.cells #[.slice (some ⟨w1.heap.size, 0, none⟩) N N] 27)).alloc (.cells #[.slice A N ca] 22)) :=
    ((HB1.out.alloc HB1.out.size _).alloc (by simp; omega) _).alloc (by simp; omega) _
  have hW1 : (((w1.alloc (.cells (outC l fun _ => false) 34)).alloc (.cells #[.slice (some ⟨w1.heap.size, 0, none⟩) N N] 27)).alloc (.cells #[.slice A N ca] 22)).heap[w1.heap.size]? = some (.cells (outC l fun _ => false) 34 (0, 0)) := heap_up _ (heap_up _ (heap_new _ _ _ rfl))
  have hW2 : (((w1.alloc (.cells (outC l fun _ => false) 34)).alloc (.cells #[.slice (some ⟨w1.heap.size, 0, none⟩) N N] 27)).alloc (.cells #[.slice A N ca] 22)).heap[w1.heap.size + 1]? = some (.cells #[.slice (some ⟨w1.heap.size, 0, none⟩) N N] 27 (0, 0)) := heap_up _ (heap_new _ _ _ (by simp))
  have hW3 : (((w1.alloc (.cells (outC l fun _ => false) 34)).alloc (.cells #[.slice (some ⟨w1.heap.size, 0, none⟩) N N] 27)).alloc (.cells #[.slice A N ca] 22)).heap[w1.heap.size + 1 + 1]? = some (.cells #[.slice A N ca] 22 (0, 0)) := heap_new _ _ _ (by simp)
  have hWs : (((w1.alloc (.cells (outC l fun _ => false) 34)).alloc (.cells #[.slice (some ⟨w1.heap.size, 0, none⟩) N N] 27)).alloc (.cells #[.slice A N ca] 22)).heap.size = w1.heap.size + 3 := by simp
  rw [hg] at hBW hW1 hW2 hW3 hWs ⊢
  generalize ((w1.alloc (.cells (outC l fun _ => false) 34)).alloc (.cells #[.slice (some ⟨g, 0, none⟩) N N] 27)).alloc (.cells #[.slice A N ca] 22) = W0 at *
  have hvW := Hv.out.below hBW (Nat.le_refl _)
  clear hg HB1 hmk
  refine range_ok (n := D) h1D (gf := 41) (lb := #[.pointer (some ⟨g + 1 + 1, 0, none⟩)]) rfl enters_levels (encs := levE) (fun _ => rfl) (LevOk l W0.heap.size) (fun k => k = g)
    (levels_seq (D - 1) (by omega) (g + 1 + 1) w.heap.size l Hlc.out (fun k => k = g) (.slice A N ca) W0 hvW hBW.size ((cell_of_heap hW3 0).trans rfl) (fun k hk => by subst hk; exact ⟨hwg, by omega, by omega⟩)) (Below.refl _ _)
    (fun pre W => (W.heap[g]? = some (.cells (outC l (seen l (pre.map (·.1)))) 34 (0, 0)) ∧ Boxed W (g + 1) 27 (.slice (some ⟨g, 0, none⟩) N N)) ∧ Below w.heap.size w W)
    (fun _ _ _ => False)
    (OwnFrom.and (OwnFrom.and (Own.from (cells_own g _ (fun pre : List Lev => outC l (seen l (pre.map (·.1))))) _) (Own.from (boxed_own _ _ (fun _ => .slice (some ⟨g, 0, none⟩) N N)) _)) (ownFrom_below (Nat.le_refl _) (by omega)))
    (fun _ _ _ _ _ h _ _ => h)
    ⟨⟨by rw [hW1]; congr 2, hW2⟩, hBW⟩
    (fun x a' W => ∃ lb, lb ≠ g ∧ a' = { tmps := #[.slice A N ca, undef, .slice none 0 0, .int .i64 0, .int .i64 0, .pointer (some ⟨g + 1, 0, none⟩), .pointer (some ⟨lb, 0, none⟩), undef, undef, .slice A N ca, .int .i64 0, .int .i64 0, .bool false, undef, .slice A N ca, .int .i64 (N : Nat), .slice (some ⟨g, 0, none⟩) N N, .slice A N ca, .func (.func 41) #[] #[.pointer (some ⟨g + 1 + 1, 0, none⟩)], .agg #[.int .i64 (x.1 : Nat), .int .u64 (x.2.1 : Nat), x.2.2], undef, undef, undef, undef, undef, undef, undef, undef, undef, undef, undef, undef, undef, undef, undef, undef, undef, undef, undef, undef, undef], defers := [] } ∧
      W.heap[lb]? = some (.cells #[.int .i64 (x.1 : Nat), .int .u64 (x.2.1 : Nat), x.2.2] 57 (0, 0)) ∧ LevOk l W0.heap.size x W)
    (fun x a' s W W' row h hgr hr => by
      obtain ⟨lb, h1, h2, h3, h4, h5, h6, h7⟩ := h
      exact ⟨lb, h1, h2, cells_own lb _ (fun _ : Unit => _) () W W' row h3 hgr (fun r e => (hr r e).2), h4, h5, isInts_keep h6 hgr (fun r e => (hr r e).2), h7⟩)
    ?assign ?body ?done ?stop
  case assign =>
    intro y pre x W K hi hok hlt hK
    obtain ⟨⟨ho, hb⟩, hB⟩ := hi
    obtain ⟨n, q, v⟩ := x
    have hlo := lt_of_heap ho
    have h1 : W.heap.size ≠ g := by omega
    clear hlt hW1 hW2 hW3 hWs hvW hBW
    obtain ⟨hk1, hk2, hk3, hk4⟩ : n ∈ levelNs l 20 ∧ q = 2 * nextV l (n - 1) ∧ IsInts W W.heap.size v (ints (whose l n)) ∧ ∀ g o m c, v = .slice (some ⟨g, o, none⟩) m c → W0.heap.size ≤ g := hok
    obtain ⟨sq, sc, rfl, hsc, _⟩ := hk3.shape
    have Hok : Hid (LevOk l W0.heap.size (n, q, .slice sq (ints (whose l n)).length sc) W) := ⟨hk1, hk2, hk3, hk4⟩
    have HK := Lib.hid hK
    clear hK hk1 hk2 hk3 hk4
    simp only [levE]
    gi_wp2_with fail
    have hBa : Below W.heap.size W (W.alloc (.cells #[.int .i64 (n : Nat), .int .u64 (q : Nat), .slice sq (ints (whose l n)).length sc] 57)) := (Below.refl _ W).alloc (Nat.le_refl _) _
    exact HK.out _ _ ((KeepsOthers.alloc W _).from _) ((KeepC.refl _ _).below hBa) ⟨⟨heap_up _ ho, hb.alloc _⟩, hB.trans (hBa.mono hB.size)⟩
      ⟨W.heap.size, h1, rfl, heap_new _ _ _ rfl, Hok.out.1, Hok.out.2.1, isInts_keep Hok.out.2.2.1 (below_grown hBa) (fun r e => by cases e), Hok.out.2.2.2⟩
  case body =>
    rintro y pre x a' W ⟨⟨hout, hbox⟩, hB⟩ ⟨lb, hne, rfl, hlv, hok⟩ hlt hlen
    obtain ⟨n, q, v⟩ := x
    obtain ⟨hk1, hk2, hk3, hk4⟩ : n ∈ levelNs l 20 ∧ q = 2 * nextV l (n - 1) ∧ IsInts W W.heap.size v (ints (whose l n)) ∧ ∀ g o m c, v = .slice (some ⟨g, o, none⟩) m c → W0.heap.size ≤ g := hok
    have hn20 := (levelNs_mem l 20 n).1 hk1
    have hqb : q ≤ 1048576 := by
      have h1 := nextV_le l Hlc.out.fits Hlc.out.room (n - 1) (by omega)
      have h2 : 2 ^ (n - 1) ≤ 2 ^ 19 := Nat.pow_le_pow_right (by omega) (by omega)
      have h3 : (2 : Nat) ^ 19 = 524288 := by decide
      omega
    obtain ⟨sq, sc, rfl, hsc, _⟩ := hk3.shape
    have hlw := length_whose l n
    have hwle := length_whose_le l n
    rw [length_ints] at hk3 hlv hsc ⊢
    rw [HN.out] at hwle
    obtain ⟨C, hC⟩ : ∃ C, (whose l n).length = C := ⟨_, rfl⟩
    rw [hC] at hk3 hlv hlw hsc hwle ⊢
    have HC := Lib.hid hC
    have Hk3 := Lib.hid hk3
    have Hk4 := Lib.hid hk4
    have Hws := Lib.hid hWs
    have Hq := Lib.hid hk2
    have Hlv := Lib.hid hlv
    have Hbox := Lib.hid hbox
    have Hlw := Lib.hid hlw
    have hd : 1 ≤ D - 1 - 1 := by omega
    have k0 := (cell_of_heap hlv 0).trans rfl
    have k1 := (cell_of_heap hlv 1).trans rfl
    have k2 := (cell_of_heap hlv 2).trans rfl
    have hout2 : W.heap[g]? = some (.cells (outC l (seenTo l (pre.map (·.1)) n 0)) 34 (0, 0)) := by rw [seenTo_zero]; exact hout
    have Hout2 := Lib.hid hout2
    clear hlv hbox hk1 hk2 hk3 hk4 hC hlw hout hout2 hW1 hW2 hW3 hvW hBW hlen hWs
    gi_wp2_with fail
    gi_loopw [23] (fun iv wr => ∃ i : Nat, i ≤ C ∧ iv = .int .i64 i ∧ wr.heap[g]? = some (.cells (outC l (seenTo l (pre.map (·.1)) n i)) 34 (0, 0)) ∧ KeepC (fun k => k = g) W wr ∧ KeepsOthers W wr ∧ Below w.heap.size w wr) (fun iv _ => C + 1 - (intOf iv).toNat)
    case atStart => exact ⟨0, Nat.zero_le _, rfl, Hout2.out, KeepC.refl _ _, KeepsOthers.refl _, hB⟩
    case round =>
      obtain ⟨i, hi, rfl, ho, hkc, hko, hB2⟩ := hrel
      have Ho := Lib.hid ho
      have Hkc := Lib.hid hkc
      have Hko := Lib.hid hko
      have HB2 := Lib.hid hB2
      have hlv2 := hkc.cells hne Hlv.out
      have hbx2 := hkc.cells (show ¬ g + 1 = g by omega) Hbox.out
      clear k0 k1 k2 hkc hko hB hB2 ho Hout2
      by_cases hit : i < C
      · obtain ⟨g2, o2, rfl, hg2, hx⟩ := Hk3.out.at i (by rw [length_ints, HC.out]; exact hit)
        have hex : ∃ s, (whose l n)[i]? = some s := ⟨_, List.getElem?_eq_getElem (by rw [HC.out]; exact hit)⟩
        obtain ⟨s, hs⟩ := hex
        have hxe : (ints (whose l n))[i]?.getD 0 = (s : Int) := by simp [ints, hs]
        rw [hxe] at hx
        obtain ⟨hw1, hw2⟩ := wordV_at l n i s hs
        have hsl : s < l.length := (List.getElem?_eq_some_iff.1 hw2).1
        have hsN : s < N := by rw [← HN.out]; exact hsl
        have hg2n : g2 ≠ g := by
          have := Hk4.out g2 o2 _ _ rfl
          have h0s := Hws.out
          omega
        have hx2 := Hkc.out.cell (b := g2) hg2n hx
        have k0 := (cell_of_heap hlv2 0).trans rfl
        have k1 := (cell_of_heap hlv2 1).trans rfl
        have kb := (cell_of_heap hbx2 0).trans rfl
        have hst := outC_set l (seenTo l (pre.map (·.1)) n i) s hsl
        rw [← seenTo_succ l (pre.map (·.1)) n i s hs] at hst
        have hset := heap_set_ (heap_set_ Ho.out (s * 2) (.int .i64 ((l[s]?.getD 0 : Nat) : Int))) (s * 2 + 1) (.int .u64 (wordV l s : Int))
        rw [hst, hw1, ← Hq.out, show l[s]?.getD 0 = n by rw [hw2]; rfl] at hset
        have Hset := Lib.hid hset
        have c0 := (cell_of_heap Ho.out (s * 2)).trans (outC_get _ _ _ (by omega))
        have c1 := (cell_of_heap Ho.out (s * 2 + 1)).trans (outC_get _ _ _ (by omega))
        have f0 := frozen_of_heap Ho.out (s * 2)
        have f1 := frozen_of_heap Ho.out (s * 2 + 1)
        have hgl := lt_of_heap Ho.out
        generalize wcell l (seenTo l (pre.map (·.1)) n i) (s * 2) = cv0 at *
        generalize wcell l (seenTo l (pre.map (·.1)) n i) (s * 2 + 1) = cv1 at *
        clear hlv2 hbx2 hx hxe hs hw1 hw2 hsl hset hst
        gi_wp2_with fail
        go_roundw
        case rel => exact ⟨i + 1, by omega, by go_num, Hset.out, (Hkc.out.set rfl _).set rfl _, (Hko.out.trans (KeepsOthers.setCell _ _ _)).trans (KeepsOthers.setCell _ _ _), (HB2.out.setCell (p := ⟨g, _, none⟩) hwg _).setCell (p := ⟨g, _, none⟩) hwg _⟩
        case measure => simp [intOf]; omega
      · obtain rfl : i = C := by omega
        have ho2 := Ho.out
        rw [Hlw.out, seenTo_all] at ho2
        have Ho2 := Lib.hid ho2
        clear ho2
        gi_wp2_with fail
        exact ⟨Hko.out.from _, Hkc.out, ⟨by rw [List.map_append]; exact Ho2.out, hbx2⟩, HB2.out⟩
  case done =>
    rintro Dd xs W hDd hS ⟨⟨hout, hbox⟩, hB⟩ hK
    have hS2 : xs.map (·.1) = levelNs l 20 := hS
    rw [hS2, seen_levels l Hlc.out.fits] at hout
    have hc := (cell_of_heap hbox 0).trans rfl
    have Hout := Lib.hid hout
    have hgd : Dd ≠ g := by omega
    clear hout hW1 hW2 hW3 hvW hBW
    gi_wp2_with fail
    refine ⟨by simp, .inl ⟨_, _, rfl, run_takeDeferred hK, ?_⟩⟩
    exact ⟨_, results_tmp2 rfl _ _ _, _, rfl, ⟨g, N, by rw [HN.out]; rfl, (World.putObj_heap_other (fun e => hgd e.symm)).trans Hout.out⟩, hB.trans (belowK_b (w := w) (Nat.le_refl _) W Dd _ _ (by omega) hK rfl rfl)⟩
  case stop =>
    rintro D c pre W _ _ h _
    exact h.elim

set_option maxRecDepth 100000 in
set_option maxHeartbeats 1600000 in
theorem words_er (w : World) (v : Value) (l : List Int) (hv : IsInts w w.heap.size v l) (hl : l.length ≤ 1000000) (hc : checkF l ≠ 0) :
    Calls Try.prog 13 #[v] w fun e w' => e = .returned (.tuple #[.slice none 0 0, .int .i64 (checkF l)]) ∧ Below w.heap.size w w' := by
  have CC : Hid (Calls Try.prog 15 #[v] w fun e w' => e = .returned (.int .i64 (checkF l)) ∧ Below w.heap.size w w') := check_any w _ _ hv hl
  obtain ⟨A, ca, rfl, hc1, hc2⟩ := hv.shape
  generalize checkF l = z at *
  have hz : (z != 0) = true := by rw [bne_iff_ne]; exact hc
  clear hv hc
  obtain ⟨D, hD⟩ : ∃ D : Nat, 8 ≤ D := ⟨8, by omega⟩
  have h1D : 1 ≤ D := by omega
  refine (callsIn_wide (n := D)).1 ?_
  refine callsIn_of_wp_marks Try.func13 rfl trivial ?_ rfl
  simp only [Try.ntmps13, List.size_toArray, List.length_cons, List.length_nil, Nat.reduceAdd, Nat.reduceSub, Array.replicate_succ, Array.replicate_zero, List.push_toArray, List.append_toArray, List.nil_append, List.cons_append]
  gi_wp2_with fail
  refine ⟨trivial, (callsIn_wide.2 CC.out).mono ?_⟩
  rintro e w1 ⟨rfl, hB1⟩
  gi_wp2_with fail
  exact ⟨_, results_tmp2 rfl _ _ _, rfl, hB1⟩
end Go.Proofs.Ytkicaimondpceaa
