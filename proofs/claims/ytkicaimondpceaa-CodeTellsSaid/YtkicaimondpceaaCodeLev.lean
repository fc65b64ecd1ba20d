/- The levels of a code: the iterator's contract. -/
import Derived.Test.YtkicaimondpceaaCodePlain
import Derived.Test.YtkicaimondpceaaRange
import Derived.Test.YtkicaimondpceaaBitsGet
namespace Go.Proofs.Ytkicaimondpceaa
open Go.RowKit Go.Shelf
attribute [local go_sem] Oper.semAt_some
set_option linter.unusedVariables false

abbrev Lev := Nat × Nat × Value
/-- a level, as it is handed over -/
def levE (x : Lev) : Array Value := #[.agg #[.int .i64 (x.1 : Nat), .int .u64 (x.2.1 : Nat), x.2.2]]
def LevOk (l : List Nat) (lo : Nat) (x : Lev) (W : World) : Prop := x.1 ∈ levelNs l 20 ∧ x.2.1 = 2 * nextV l (x.1 - 1) ∧ IsInts W W.heap.size x.2.2 (ints (whose l x.1)) ∧ ∀ g o n c, x.2.2 = .slice (some ⟨g, o, none⟩) n c → lo ≤ g
theorem own_lo {w : World} {base : Nat} {v : Value} {xs : List Int} (h : OwnInts w base v xs) : ∀ g o n c, v = .slice (some ⟨g, o, none⟩) n c → base ≤ g := by
  rintro g o n c rfl
  rcases h.2 with ⟨h1, _⟩ | ⟨k, cap, cur, h1, h2, _⟩
  · cases h1
  · injection h1 with h1
    injection h1 with h1
    injection h1 with h1
    omega
/-- how far it has come -/
def LevAt (l : List Nat) (pre : List Lev) (k : Nat) : Prop := pre.map (·.1) = levelNs l k
theorem LevAt.zero (l : List Nat) : LevAt l [] 0 := rfl
theorem LevAt.no {l : List Nat} {pre : List Lev} {k : Nat} (h : LevAt l pre k) (hc : l.count (k + 1) = 0) : LevAt l pre (k + 1) := by
  unfold LevAt at *
  rw [h, levelNs_succ, if_neg (by omega), List.append_nil]
theorem LevAt.yes {l : List Nat} {pre : List Lev} {k : Nat} (h : LevAt l pre k) (hc : 0 < l.count (k + 1)) (q : Nat × Value) : LevAt l (pre ++ [(k + 1, q)]) (k + 1) := by
  unfold LevAt at *
  rw [List.map_append, h, levelNs_succ, if_pos hc]
  rfl
theorem LevAt.len {l : List Nat} {pre : List Lev} {k : Nat} (h : LevAt l pre k) (hc : 0 < l.count (k + 1)) (hk : k < 20) : pre.length < (levelNs l 20).length := by
  have h1 := levelNs_prefix l (show k + 1 ≤ 20 from hk)
  rw [levelNs_succ, if_pos hc] at h1
  have h2 := h1.length_le
  unfold LevAt at h
  have h3 := congrArg List.length h
  rw [List.length_map] at h3
  rw [List.length_append] at h2
  simp at h2
  omega
theorem LevAt.pre {l : List Nat} {pre : List Lev} {k : Nat} (h : LevAt l pre k) (hk : k ≤ 20) : pre.map (·.1) <+: levelNs l 20 := by
  unfold LevAt at h
  rw [h]
  exact levelNs_prefix l hk

theorem levels_any (w : World) (A : Option Addr) (n c : Nat) :
    Calls Try.prog 25 #[.slice A n c] w fun e w' => e = .returned (.func (.func 41) #[] #[.pointer (some ⟨w.heap.size, 0, none⟩)]) ∧ w.alloc (.cells #[.slice A n c] 22) = w' := by
  have hmf := hmf
  go_enter Try.func25, Try.ntmps25
  go_wp2
  go_ret
  exact ⟨rfl, rfl⟩
theorem whose_none {l : List Nat} {n i : Nat} (h : ¬ l[i]?.getD 0 = n) (hi : i < l.length) : whoseTo l n (i + 1) = whoseTo l n i := by
  rw [whoseTo_succ, if_neg (fun e => h (by rw [e]; rfl)), List.append_nil]
theorem whose_some {l : List Nat} {n i : Nat} (h : l[i]?.getD 0 = n) (hi : i < l.length) : whoseTo l n (i + 1) = whoseTo l n i ++ [i] := by
  rw [whoseTo_succ, if_pos (by rw [List.getElem?_eq_getElem hi] at h ⊢; simpa using h)]
theorem length_whoseTo_le (l : List Nat) (n i : Nat) : (whoseTo l n i).length ≤ i := by
  unfold whoseTo
  have := List.length_filter_le (fun s => l[s]? == some n) (List.range i)
  simpa using this
/-- a row of one's own, where a cell below it is written -/
theorem own_far {w : World} {base g i : Nat} {v u : Value} {xs : List Int} (h : OwnInts w base v xs) (hg : g < base := by omega) : OwnInts (w.setCell ⟨g, i, none⟩ u) base v xs := by
  refine ⟨h.1, ?_⟩
  rcases h.2 with h0 | ⟨k, cap, cur, e1, e2, e3, e4⟩
  · exact .inl h0
  · exact .inr ⟨k, cap, cur, e1, e2, (Below.heap_setCell w ⟨g, i, none⟩ u k (by show k ≠ g; omega)).trans e3, e4⟩
theorem ints_one (l : List Nat) (i : Nat) : ints (l ++ [i]) = ints l ++ [(i : Int)] := by simp [ints]

/-- an append of one int, behind the fence -/
theorem wpListIn_append_int {n : Nat} {w : World} {ops : Array Oper} {rest : List Oper} {o : Oper} {a : Act} {Q : Exit → Act → World → Prop} (hgd : o.guard = none) (s x : Operand)
    (ho : o.op = .call { callee := .builtin .append, args := #[s, x], argTypes := #[22, 22] })
    (base : Nat) (v : Value) (xs : List Int) (hs : a.eval s = v) (hown : OwnInts w base v xs) (k : Nat) (y : Int) (hx : a.eval x = .slice (some ⟨k, 0, none⟩) 1 1) (hr : w.heap[k]? = some (.cells #[.int .i64 y] 3 (0, 0)))
    (hlen : xs.length ≤ 1099511627776) (hbase : base ≤ w.heap.size)
    (h : ∀ q c w', OwnInts w' base (.slice q (xs.length + 1) c) (xs ++ [y]) → w.grownBy w' v.ownBlock → wpListIn Fence.wide n Try.prog ops Q rest (a.put o.dst (.slice q (xs.length + 1) c)) w') :
    wpListIn Fence.wide n Try.prog ops Q (o :: rest) a w := by
  obtain ⟨i0, hi, hz0, hz1, hz2⟩ := info_parts int_info2
  refine wpListIn_append_own _ hgd s x 22 ho base 3 i0 (.int .i64 0) 1 8 Try.underlying22 hi hz0 hz1 hz2 rfl (by decide) v xs.length (intCells xs) hs hown ⟨k, 0, none⟩ 1 1 [.int .i64 y] hx rfl (fun j u hu => ?_) (by simp [Value.oneCell']) (by unfold maxLen; omega) (by omega) hbase ?_
  · match j, hu with
    | 0, hu =>
      simp at hu
      subst hu
      rw [addr_add, Nat.zero_add, cell_of_heap hr]
      rfl
  · intro v' w' h2 h3 _
    have h5 : OwnInts w' base v' (xs ++ [y]) := by
      unfold OwnInts
      rw [List.length_append, intCells_append]
      exact h2
    obtain ⟨q, c, rfl⟩ := h5.shape
    rw [List.length_append] at *
    exact h q c w' h5 h3

set_option maxRecDepth 100000 in
set_option maxHeartbeats 4000000 in
/-- the closure: it goes through the levels while the rounds go on -/
theorem levels_in (n : Nat) (hn : 3 ≤ n) (y b B lo : Nat) (l : List Nat) (hl : Code l) (bad : Nat → Prop) (J Jx : List Lev → World → Prop) (v : Value) (W : World) (hvW : IsInts W B v (ints l)) (hbW : W.cell? ⟨b, 0, none⟩ = some v)
    (hbad : ∀ k, bad k → B ≤ k ∧ k ≠ b ∧ k < W.heap.size)
    (hJ : ∀ s A C, J s A → Below A.heap.size A C → J s C) (hJx : ∀ s A C, Jx s A → Below A.heap.size A C → Jx s C)
    (hY : ∀ pre x W1, J pre W1 → pre.length < (levelNs l 20).length → LevOk l lo x W1 → YieldAt Fence.wide (n - 1) Try.prog y (levE x) W1 fun e W' => (e = .returned (.bool true) ∧ J (pre ++ [x]) W' ∧ KeepC bad W1 W' ∧ W1.heap.size ≤ W'.heap.size) ∨ (e = .returned (.bool false) ∧ Jx (pre ++ [x]) W'))
    (hlo : lo ≤ W.heap.size) (h0 : J [] W) :
    CallsIn Fence.wide n Try.prog 41 #[.func (.yield y) #[] #[], .pointer (some ⟨b, 0, none⟩)] W fun e W' => (∃ v, e = .returned v) ∧ ((∃ xs, xs.map (·.1) = levelNs l 20 ∧ J xs W') ∨ (∃ pre, pre.map (·.1) <+: levelNs l 20 ∧ Jx pre W')) := by
  obtain ⟨A, ca, rfl, hc1, hc2⟩ := hvW.shape
  have hli := length_ints l
  obtain ⟨N, hN⟩ : ∃ N, l.length = N := ⟨_, rfl⟩
  rw [hli, hN] at hvW hbW hc1
  have hN258 : N ≤ 258 := by rw [← hN]; exact hl.most
  have HN := Lib.hid hN
  have Hv := Lib.hid hvW
  have Hb := Lib.hid hbW
  have Hbad := Lib.hid hbad
  have HJ := Lib.hid hJ
  have HY := Lib.hid hY
  have Hlc := Lib.hid hl
  clear hvW hbW hbad hJ hY hN hli hl
  refine callsIn_of_wp Try.func41 rfl trivial ?_ rfl
  simp only [Try.ntmps41, List.size_toArray, List.length_cons, List.length_nil, Nat.reduceAdd, Nat.reduceSub, Array.replicate_succ, Array.replicate_zero, List.push_toArray, List.append_toArray, List.nil_append, List.cons_append]
  have h1n : 1 ≤ n := by omega
  gi_wp2_with fail
  gi_loopw [3, 4] (fun pv nv wr => ∃ k : Nat, ∃ pre, k ≤ 20 ∧ nv = .int .i64 ((k + 1 : Nat) : Int) ∧ pv = .int .u64 (nextV l k : Nat) ∧ LevAt l pre k ∧ J pre wr ∧ KeepC bad W wr ∧ W.heap.size ≤ wr.heap.size) (fun _ nv _ => 22 - (intOf nv).toNat)
  case atStart => exact ⟨0, [], Nat.zero_le _, rfl, rfl, LevAt.zero l, h0, KeepC.refl _ _, Nat.le_refl _⟩
  case round =>
    obtain ⟨k, pre, hk, rfl, rfl, hat, hJ, hK, hsz⟩ := hrel
    clear h0
    by_cases hlt : k < 20
    · have hcb := hK.cell (b := b) (fun h => (Hbad.out b h).2.1 rfl) Hb.out
      have hnk : Hid (nextV l (k + 1) = 2 * nextV l k + l.count (k + 1)) := rfl
      have hpb : nextV l k ≤ 1048576 := by
        have h1 := nextV_le l Hlc.out.fits Hlc.out.room k hk
        exact Nat.le_trans h1 (Nat.le_trans (Nat.pow_le_pow_right (by omega) hk) (by decide))
      obtain ⟨m, hm⟩ : ∃ m, k + 1 = m := ⟨_, rfl⟩
      have hm20 : m ≤ 20 := by omega
      have hm1 : 1 ≤ m := by omega
      have hm20b : decide ((m : Int) ≤ 20) = true := by rw [decide_eq_true_eq]; omega
      have hmk : m - 1 = k := by omega
      rw [hm]
      obtain ⟨p, hp⟩ : ∃ p, nextV l k = p := ⟨_, rfl⟩
      rw [hp] at hpb hnk ⊢
      obtain ⟨q, hq⟩ : ∃ q, 2 * p = q := ⟨_, rfl⟩
      have hwq : IntKind.u64.wrap ((p : Int) * 2) = (q : Int) := by rw [IntKind.wrap_u64]; omega
      have hqb : q ≤ 2097152 := by omega
      have Hq := Lib.hid hq
      have Hp := Lib.hid hp
      have Hm := Lib.hid hm
      have Hmk := Lib.hid hmk
      have hcb2 : ∀ o : Obj, (wr.alloc o).cell? ⟨b, 0, none⟩ = some (.slice A N ca) := fun o => by
        obtain ⟨cs, ty, fz, h1⟩ := cells_at hcb
        exact (World.cell?_of_block (w := wr) (Below.heap_alloc wr o b (lt_of_heap h1))).trans hcb
      clear hp hq hm hmk hlt hcb
      gi_wp2_with fail
      have hlv : (wr.alloc (.cells #[.int .i64 (m : Int), .int .u64 (q : Int), .slice none 0 0] 57)).heap[wr.heap.size]? = some (.cells #[.int .i64 (m : Int), .int .u64 (q : Int), .slice none 0 0] 57 (0, 0)) := heap_new _ _ _ rfl
      have Hlv := Lib.hid hlv
      have hB0 := Lib.hid ((Below.refl wr.heap.size wr).alloc (Nat.le_refl _) (.cells #[.int .i64 (m : Int), .int .u64 (q : Int), .slice none 0 0] 57))
      clear hlv
      obtain ⟨wo, rfl⟩ : ∃ wo : World, wo = wr := ⟨_, rfl⟩
      gi_loopw [19] (fun iv wr => ∃ i : Nat, ∃ sv, i ≤ N ∧ iv = .int .i64 i ∧ wr.heap[wo.heap.size]? = some (.cells #[.int .i64 (m : Int), .int .u64 (q : Int), sv] 57 (0, 0)) ∧ OwnInts wr (wo.heap.size + 1) sv (ints (whoseTo l m i)) ∧ Below wo.heap.size wo wr) (fun iv _ => N + 1 - (intOf iv).toNat)
      case atStart => exact ⟨0, _, Nat.zero_le _, rfl, Hlv.out, OwnInts.nil _ _, hB0.out⟩
      case round =>
        obtain ⟨i, sv, hi, rfl, hh, hown, hB⟩ := hrel
        have Hh := Lib.hid hh
        have Hown := Lib.hid hown
        have HB := Lib.hid hB
        have hzB := hB.size
        have hwl := length_whoseTo_le l m i
        clear hh hown hB Hlv hB0
        by_cases hit : i < N
        · obtain ⟨g, o, rfl, hg, hx⟩ := Hv.out.at i (by rw [length_ints, HN.out]; exact hit)
          have hxe : (ints l)[i]?.getD 0 = ((l[i]?.getD 0 : Nat) : Int) := by simp [ints, List.getElem?_eq_getElem (show i < l.length by rw [HN.out]; exact hit)]
          rw [hxe] at hx
          have hx1 := hK.cell (b := g) (fun h => by have := (Hbad.out g h).1; omega) hx
          have hx2 : wr.cell? ⟨g, o + i, none⟩ = some (.int .i64 ((l[i]?.getD 0 : Nat) : Int)) := by
            obtain ⟨cs, ty, fz, h1⟩ := cells_at hx1
            exact (HB.out.cell (p := ⟨g, o + i, none⟩) (lt_of_heap h1)).trans hx1
          obtain ⟨x, hxx⟩ : ∃ x, l[i]?.getD 0 = x := ⟨_, rfl⟩
          rw [hxx] at hx2
          have Hxx := Lib.hid hxx
          have k2 := (cell_of_heap Hh.out 2).trans rfl
          have f2 := frozen_of_heap Hh.out 2
          have hlt := lt_of_heap Hh.out
          clear hx hxe hx1 hxx hcb2
          by_cases hxm : x = m
          · have hbm : ((x : Int) == (m : Int)) = true := by rw [beq_iff_eq]; omega
            have Hs := Lib.hid (whose_some (l := l) (n := m) (i := i) (by rw [Hxx.out]; exact hxm) (by rw [HN.out]; exact hit))
            clear hxm
            gi_wp2_with
              (gi_at_builtin
               refine wpListIn_append_int rfl _ _ rfl (wo.heap.size + 1) _ (ints (whoseTo l m i)) rfl (Hown.out.alloc _) wr.heap.size i rfl (heap_new _ _ _ rfl) (by rw [length_ints]; omega) (by simp; omega) ?_
               intro q' c' w1 hown1 hg1
               have Hown1 := Lib.hid hown1
               have hlb : (wr.alloc (.cells #[.int .i64 (i : Int)] 3)).heap[wo.heap.size]? = some (.cells #[.int .i64 (m : Int), .int .u64 (q : Int), sv] 57 (0, 0)) := heap_up _ Hh.out
               have h1b : w1.heap[wo.heap.size]? = some (.cells #[.int .i64 (m : Int), .int .u64 (q : Int), sv] 57 (0, 0)) := (hg1.block _ (lt_of_heap hlb) (fun e => by have := own_ge Hown.out e.symm; omega)).trans hlb
               have hB1 : Below wo.heap.size wo w1 := (HB.out.alloc (by omega) _).grown hg1 (by simp; omega) (fun k hk => by have := own_ge Hown.out hk; omega)
               have HB1 := Lib.hid hB1
               have H1b := Lib.hid h1b
               have f2 := frozen_of_heap h1b 2
               have k3 := (cell_of_heap h1b 2).trans rfl
               have hlt1 := lt_of_heap h1b
               clear hg1 hown1 hlb h1b hB1)
            go_roundw
            case rel => exact ⟨i + 1, _, by omega, by go_num, by simpa using heap_set_ H1b.out 2 _, by rw [Hs.out, ints_one]; exact own_far Hown1.out, HB1.out.setCell (p := ⟨wo.heap.size, 2, none⟩) (Nat.le_refl _) _⟩
            case measure => simp [intOf]; omega
          · have hbm : ((x : Int) == (m : Int)) = false := by rw [beq_eq_false_iff_ne]; omega
            have Hs := Lib.hid (whose_none (l := l) (n := m) (i := i) (by rw [Hxx.out]; exact hxm) (by rw [HN.out]; exact hit))
            clear hxm
            gi_wp2_with fail
            go_roundw
            case rel => exact ⟨i + 1, sv, by omega, by go_num, Hh.out, by rw [Hs.out]; exact Hown.out, HB.out⟩
            case measure => simp [intOf]; omega
        · obtain rfl : i = N := by omega
          have hown := Hown.out
          have hwho : whoseTo l m i = whose l m := by unfold whose whoseTo; rw [HN.out]
          rw [hwho] at hown
          obtain ⟨sq, sc, rfl⟩ := hown.shape
          have hlc := length_whose l m
          rw [length_ints] at Hh hown
          rw [hlc] at Hh hown
          have Hown2 := Lib.hid hown
          obtain ⟨C, hC⟩ : ∃ C, l.count m = C := ⟨_, rfl⟩
          rw [hC] at Hh Hown2
          have HC := Lib.hid hC
          have hC258 : C ≤ 258 := by rw [← hC]; exact Nat.le_trans List.count_le_length (by rw [HN.out]; exact hN258)
          have k0 := (cell_of_heap Hh.out 0).trans rfl
          have k1 := (cell_of_heap Hh.out 1).trans rfl
          have k2 := (cell_of_heap Hh.out 2).trans rfl
          have hlt := lt_of_heap Hh.out
          have hnx : Hid (nextV l m = q + C) := by
            show _ = _
            rw [← Hm.out, nextV, Hp.out, Hm.out, HC.out, Hq.out]
          clear hown Hown hwho hC hlc hcb2 hit hwl
          by_cases hC0 : C = 0
          · subst hC0
            have Hat2 := Lib.hid (hat.no (by rw [Hm.out]; exact HC.out))
            gi_wp2_with fail
            refine ⟨(fun _ h => by cases h), ?_⟩
            gi_wp2_with fail
            go_roundw
            case rel => exact ⟨k + 1, pre, by have := Hm.out; omega, by rw [Hm.out]; go_num, by rw [Hm.out, hnx.out]; rfl, Hat2.out, HJ.out pre wo wr hJ HB.out, hK.below HB.out, Nat.le_trans hsz hzB⟩
            case measure => simp [intOf]; omega
          · have hCp : (0 : Int) < (C : Int) := by omega
            have hJ1 := HJ.out pre wo wr hJ HB.out
            have hlen := hat.len (by rw [Hm.out, HC.out]; omega) (by have := Hm.out; omega)
            have hok : LevOk l lo (m, q, .slice sq C sc) wr := ⟨(levelNs_mem l 20 m).2 ⟨hm1, hm20, by rw [HC.out]; omega⟩, by rw [Hmk.out, Hp.out]; exact Hq.out.symm, Hown2.out.is, fun g o n c h => by have := own_lo Hown2.out g o n c h; omega⟩
            obtain ⟨fn, tmps, assign, body, hy, hR⟩ := HY.out pre (m, q, .slice sq C sc) wr hJ1 hlen hok
            simp only [levE] at hy
            have Hat2 := Lib.hid (hat.yes (by rw [Hm.out, HC.out]; omega) (q, .slice sq C sc))
            clear hJ1 hlen hok hC0
            gi_wp2_with fail
            refine hR.mono ?_
            rintro e W' (⟨rfl, hJ', hk', hz'⟩ | ⟨rfl, hJx'⟩)
            · have hnb : ¬ bad wo.heap.size := fun h => by have := (Hbad.out _ h).2.2; omega
              have h2 := hk'.cells hnb Hh.out
              have k0 := (cell_of_heap h2 0).trans rfl
              have k1 := (cell_of_heap h2 1).trans rfl
              have k2 := (cell_of_heap h2 2).trans rfl
              have hlt2 := lt_of_heap h2
              have HKall := Lib.hid ((hK.below HB.out).trans hk')
              clear h2 hy hR hk' hJ
              gi_wp2_with fail
              go_roundw
              case rel => exact ⟨k + 1, pre ++ [(m, q, .slice sq C sc)], by have := Hm.out; omega, by rw [Hm.out]; go_num, by rw [Hm.out, hnx.out]; rfl, by have := Hat2.out; rw [Hm.out] at this ⊢; exact this, hJ', HKall.out, by omega⟩
              case measure => simp [intOf]; omega
            · gi_wp2_with fail
              refine bodyPost_ret (results_none rfl _ _ _) rfl ?_
              exact ⟨⟨_, rfl⟩, .inr ⟨_, by have := Hat2.out.pre (by have := Hm.out; omega); rw [Hm.out] at this; exact this, hJx'⟩⟩
    · obtain rfl : k = 20 := by omega
      gi_wp2_with fail
      exact bodyPost_end (results_none rfl _ _ _) rfl ⟨⟨_, rfl⟩, .inl ⟨pre, hat, hJ⟩⟩

theorem levels_seq (n : Nat) (hn : 3 ≤ n) (b B : Nat) (l : List Nat) (hl : Code l) (bad : Nat → Prop) (v : Value) (w0 : World) (hv : IsInts w0 B v (ints l)) (hB : B ≤ w0.heap.size) (hb : w0.cell? ⟨b, 0, none⟩ = some v)
    (hbad : ∀ k, bad k → B ≤ k ∧ k ≠ b ∧ k < w0.heap.size) :
    SeqOk n 41 #[.pointer (some ⟨b, 0, none⟩)] levE (LevOk l w0.heap.size) (KeepC bad) (fun xs => xs.map (·.1) = levelNs l 20) (fun pre => pre.map (·.1) <+: levelNs l 20) (levelNs l 20).length w0 :=
  fun y J Jx W hBW hJ hJx hY h0 => by
    have hbl : b < w0.heap.size := by
      obtain ⟨cs, ty, fz, h1⟩ := cells_at hb
      exact lt_of_heap h1
    exact levels_in n hn y b B w0.heap.size l hl bad J Jx v W (hv.below hBW hB) ((hBW.cell (p := ⟨b, 0, none⟩) hbl).trans hb) (fun k hk => ⟨(hbad k hk).1, (hbad k hk).2.1, Nat.lt_of_lt_of_le (hbad k hk).2.2 hBW.size⟩) hJ hJx hY hBW.size h0
theorem enters_levels : Enters Try.prog 41 := enters_of Try.func41 (by kernel_rfl) rfl
theorem nodup_whose (l : List Nat) (n : Nat) : (whose l n).Nodup := List.nodup_range.sublist List.filter_sublist
theorem wordV_at (l : List Nat) (n i s : Nat) (h : (whose l n)[i]? = some s) : wordV l s = 2 * nextV l (n - 1) + i ∧ l[s]? = some n := by
  have hs := (whose_mem l n s).1 (List.mem_of_getElem? h)
  have hr := whose_rank l n s hs
  have hi := (List.getElem?_eq_some_iff.1 h).1
  have := (List.getElem?_inj hi (nodup_whose l n)).1 (h.trans hr.symm)
  refine ⟨?_, hs⟩
  unfold wordV
  rw [hs, this]
  rfl
/-- ints keep over the loop's own book-keeping -/
theorem isInts_keep {W W' : World} {row : Option Nat} {v : Value} {xs : List Int} (h : IsInts W W.heap.size v xs) (hg : W.grownBy W' row) (hr : ∀ r, row = some r → ∃ o : Obj, W.heap[r]? = some o ∧ o.isCells = false) : IsInts W' W'.heap.size v xs := by
  obtain ⟨h1, A, cap, hv, h2, h3, h4⟩ := h
  refine ⟨h1, A, cap, hv, h2, h3, fun hn => ?_⟩
  obtain ⟨g, o, hA, hgs, hc⟩ := h4 hn
  exact ⟨g, o, hA, Nat.lt_of_lt_of_le hgs hg.size, fun i x hx => cell_kept (hc i x hx) hg hr⟩
theorem cells_own {β : Type} (g : Nat) (t : TypeId) (f : β → Array Value) : Own (fun s W => W.heap[g]? = some (.cells (f s) t (0, 0))) := fun s X Y row hs hg hrow => by
  refine (hg.block g (lt_of_heap hs) (fun e' => ?_)).trans hs
  obtain ⟨o, ho, hc⟩ := hrow g e'.symm
  rw [show X.heap[g]? = _ from hs] at ho
  cases ho
  cases hc
end Go.Proofs.Ytkicaimondpceaa
