/- Merged: CodeLev, CodeWords, CodePut, GroupsP. -/
import Derived.Test.YtodniacnjdnffaaCodeA
import Derived.Test.YtodniacnjdnffaaRange
import Derived.Test.YtodniacnjdnffaaBitsA
import Derived.Test.YtodniacnjdnffaaHeld
import Derived.Test.YtodniacnjdnffaaTabPlain
/- The levels of a code: the iterator's contract. -/
namespace Go.Proofs.Ytodniacnjdnffaa
open Go.RowKit Go.Shelf
attribute [local go_sem] Oper.semAt_some
set_option linter.unusedVariables false

abbrev Lev := Nat × Nat × Value
/-- a level, as it is handed over -/
def levE (x : Lev) : Array Value := #[.agg #[.int .i64 (x.1 : Nat), .int .u64 (x.2.1 : Nat), x.2.2]]
def LevOk (l : List Nat) (lo : Nat) (x : Lev) (W : World) : Prop := x.1 ∈ levelNs l 20 ∧ x.2.1 = 2 * nextV l (x.1 - 1) ∧ IsInts W W.heap.size x.2.2 (ints (whose l x.1)) ∧ ∀ g o n c, x.2.2 = .slice (some ⟨g, o, none⟩) n c → lo ≤ g
theorem own_lo {w : World} {base : Nat} {v : Value} {xs : List Int} (h : OwnInts w base v xs) : ∀ g o n c, v = .slice (some ⟨g, o, none⟩) n c → base ≤ g := by
  rintro g o n c rfl
  rcases h.2 with ⟨h1, _⟩ | ⟨k, cap, cur, h1, h2, _⟩
  · cases h1
  · injection h1 with h1
    injection h1 with h1
    injection h1 with h1
    omega
/-- how far it has come -/
def LevAt (l : List Nat) (pre : List Lev) (k : Nat) : Prop := pre.map (·.1) = levelNs l k
theorem LevAt.zero (l : List Nat) : LevAt l [] 0 := rfl
theorem LevAt.no {l : List Nat} {pre : List Lev} {k : Nat} (h : LevAt l pre k) (hc : l.count (k + 1) = 0) : LevAt l pre (k + 1) := by
  unfold LevAt at *
  rw [h, levelNs_succ, if_neg (by omega), List.append_nil]
theorem LevAt.yes {l : List Nat} {pre : List Lev} {k : Nat} (h : LevAt l pre k) (hc : 0 < l.count (k + 1)) (q : Nat × Value) : LevAt l (pre ++ [(k + 1, q)]) (k + 1) := by
  unfold LevAt at *
  rw [List.map_append, h, levelNs_succ, if_pos hc]
  rfl
theorem LevAt.len {l : List Nat} {pre : List Lev} {k : Nat} (h : LevAt l pre k) (hc : 0 < l.count (k + 1)) (hk : k < 20) : pre.length < (levelNs l 20).length := by
  have h1 := levelNs_prefix l (show k + 1 ≤ 20 from hk)
  rw [levelNs_succ, if_pos hc] at h1
  have h2 := h1.length_le
  unfold LevAt at h
  have h3 := congrArg List.length h
  rw [List.length_map] at h3
  rw [List.length_append] at h2
  simp at h2
  omega
theorem LevAt.pre {l : List Nat} {pre : List Lev} {k : Nat} (h : LevAt l pre k) (hk : k ≤ 20) : pre.map (·.1) <+: levelNs l 20 := by
  unfold LevAt at h
  rw [h]
  exact levelNs_prefix l hk

theorem levels_any (w : World) (A : Option Addr) (n c : Nat) :
    Calls Try.prog 40 #[.slice A n c] w fun e w' => e = .returned (.func (.func 47) #[] #[.pointer (some ⟨w.heap.size, 0, none⟩)]) ∧ w.alloc (.cells #[.slice A n c] 22) = w' := by
  have hmf := hmf
  go_enter Try.func40, Try.ntmps40
  go_wp2
  go_ret
  exact ⟨rfl, rfl⟩
theorem whose_none {l : List Nat} {n i : Nat} (h : ¬ l[i]?.getD 0 = n) (hi : i < l.length) : whoseTo l n (i + 1) = whoseTo l n i := by
  rw [whoseTo_succ, if_neg (fun e => h (by rw [e]; rfl)), List.append_nil]
theorem whose_some {l : List Nat} {n i : Nat} (h : l[i]?.getD 0 = n) (hi : i < l.length) : whoseTo l n (i + 1) = whoseTo l n i ++ [i] := by
  rw [whoseTo_succ, if_pos (by rw [List.getElem?_eq_getElem hi] at h ⊢; simpa using h)]
theorem length_whoseTo_le (l : List Nat) (n i : Nat) : (whoseTo l n i).length ≤ i := by
  unfold whoseTo
  have := List.length_filter_le (fun s => l[s]? == some n) (List.range i)
  simpa using this
/-- a row of one's own, where a cell below it is written -/
theorem own_far {w : World} {base g i : Nat} {v u : Value} {xs : List Int} (h : OwnInts w base v xs) (hg : g < base := by omega) : OwnInts (w.setCell ⟨g, i, none⟩ u) base v xs := by
  refine ⟨h.1, ?_⟩
  rcases h.2 with h0 | ⟨k, cap, cur, e1, e2, e3, e4⟩
  · exact .inl h0
  · exact .inr ⟨k, cap, cur, e1, e2, (Below.heap_setCell w ⟨g, i, none⟩ u k (by show k ≠ g; omega)).trans e3, e4⟩
theorem ints_one (l : List Nat) (i : Nat) : ints (l ++ [i]) = ints l ++ [(i : Int)] := by simp [ints]

/-- an append of one int, behind the fence -/
theorem wpListIn_append_int {n : Nat} {w : World} {ops : Array Oper} {rest : List Oper} {o : Oper} {a : Act} {Q : Exit → Act → World → Prop} (hgd : o.guard = none) (s x : Operand)
    (ho : o.op = .call { callee := .builtin .append, args := #[s, x], argTypes := #[22, 22] })
    (base : Nat) (v : Value) (xs : List Int) (hs : a.eval s = v) (hown : OwnInts w base v xs) (k : Nat) (y : Int) (hx : a.eval x = .slice (some ⟨k, 0, none⟩) 1 1) (hr : w.heap[k]? = some (.cells #[.int .i64 y] 3 (0, 0)))
    (hlen : xs.length ≤ 1099511627776) (hbase : base ≤ w.heap.size)
    (h : ∀ q c w', OwnInts w' base (.slice q (xs.length + 1) c) (xs ++ [y]) → w.grownBy w' v.ownBlock → wpListIn Fence.wide n Try.prog ops Q rest (a.put o.dst (.slice q (xs.length + 1) c)) w') :
    wpListIn Fence.wide n Try.prog ops Q (o :: rest) a w := by
  obtain ⟨i0, hi, hz0, hz1, hz2⟩ := info_parts int_info2
  refine wpListIn_append_own _ hgd s x 22 ho base 3 i0 (.int .i64 0) 1 8 Try.underlying22 hi hz0 hz1 hz2 rfl (by decide) v xs.length (intCells xs) hs hown ⟨k, 0, none⟩ 1 1 [.int .i64 y] hx rfl (fun j u hu => ?_) (by simp [Value.oneCell']) (by unfold maxLen; omega) (by omega) hbase ?_
  · match j, hu with
    | 0, hu =>
      simp at hu
      subst hu
      rw [addr_add, Nat.zero_add, cell_of_heap hr]
      rfl
  · intro v' w' h2 h3 _
    have h5 : OwnInts w' base v' (xs ++ [y]) := by
      unfold OwnInts
      rw [List.length_append, intCells_append]
      exact h2
    obtain ⟨q, c, rfl⟩ := h5.shape
    rw [List.length_append] at *
    exact h q c w' h5 h3

set_option maxRecDepth 100000 in
set_option maxHeartbeats 4000000 in
/-- the closure: it goes through the levels while the rounds go on -/
theorem levels_in (n : Nat) (hn : 3 ≤ n) (y b B lo : Nat) (l : List Nat) (hl : Code l) (bad : Nat → Prop) (J Jx : List Lev → World → Prop) (v : Value) (W : World) (hvW : IsInts W B v (ints l)) (hbW : W.cell? ⟨b, 0, none⟩ = some v)
    (hbad : ∀ k, bad k → B ≤ k ∧ k ≠ b ∧ k < W.heap.size)
    (hJ : ∀ s A C, J s A → Below A.heap.size A C → J s C) (hJx : ∀ s A C, Jx s A → Below A.heap.size A C → Jx s C)
    (hY : ∀ pre x W1, J pre W1 → pre.length < (levelNs l 20).length → LevOk l lo x W1 → YieldAt Fence.wide (n - 1) Try.prog y (levE x) W1 fun e W' => (e = .returned (.bool true) ∧ J (pre ++ [x]) W' ∧ KeepC bad W1 W' ∧ W1.heap.size ≤ W'.heap.size) ∨ (e = .returned (.bool false) ∧ Jx (pre ++ [x]) W'))
    (hlo : lo ≤ W.heap.size) (h0 : J [] W) :
    CallsIn Fence.wide n Try.prog 47 #[.func (.yield y) #[] #[], .pointer (some ⟨b, 0, none⟩)] W fun e W' => (∃ v, e = .returned v) ∧ ((∃ xs, xs.map (·.1) = levelNs l 20 ∧ J xs W') ∨ (∃ pre, pre.map (·.1) <+: levelNs l 20 ∧ Jx pre W')) := by
  obtain ⟨A, ca, rfl, hc1, hc2⟩ := hvW.shape
  have hli := length_ints l
  obtain ⟨N, hN⟩ : ∃ N, l.length = N := ⟨_, rfl⟩
  rw [hli, hN] at hvW hbW hc1
  have hN258 : N ≤ 258 := by rw [← hN]; exact hl.most
  have HN := Lib.hid hN
  have Hv := Lib.hid hvW
  have Hb := Lib.hid hbW
  have Hbad := Lib.hid hbad
  have HJ := Lib.hid hJ
  have HY := Lib.hid hY
  have Hlc := Lib.hid hl
  clear hvW hbW hbad hJ hY hN hli hl
  refine callsIn_of_wp Try.func47 rfl trivial ?_ rfl
  simp only [Try.ntmps47, List.size_toArray, List.length_cons, List.length_nil, Nat.reduceAdd, Nat.reduceSub, Array.replicate_succ, Array.replicate_zero, List.push_toArray, List.append_toArray, List.nil_append, List.cons_append]
  have h1n : 1 ≤ n := by omega
  gi_wp2_with fail
  gi_loopw [3, 4] (fun pv nv wr => ∃ k : Nat, ∃ pre, k ≤ 20 ∧ nv = .int .i64 ((k + 1 : Nat) : Int) ∧ pv = .int .u64 (nextV l k : Nat) ∧ LevAt l pre k ∧ J pre wr ∧ KeepC bad W wr ∧ W.heap.size ≤ wr.heap.size) (fun _ nv _ => 22 - (intOf nv).toNat)
  case atStart => exact ⟨0, [], Nat.zero_le _, rfl, rfl, LevAt.zero l, h0, KeepC.refl _ _, Nat.le_refl _⟩
  case round =>
    obtain ⟨k, pre, hk, rfl, rfl, hat, hJ, hK, hsz⟩ := hrel
    clear h0
    by_cases hlt : k < 20
    · have hcb := hK.cell (b := b) (fun h => (Hbad.out b h).2.1 rfl) Hb.out
      have hnk : Hid (nextV l (k + 1) = 2 * nextV l k + l.count (k + 1)) := rfl
      have hpb : nextV l k ≤ 1048576 := by
        have h1 := nextV_le l Hlc.out.fits Hlc.out.room k hk
        exact Nat.le_trans h1 (Nat.le_trans (Nat.pow_le_pow_right (by omega) hk) (by decide))
      obtain ⟨m, hm⟩ : ∃ m, k + 1 = m := ⟨_, rfl⟩
      have hm20 : m ≤ 20 := by omega
      have hm1 : 1 ≤ m := by omega
      have hm20b : decide ((m : Int) ≤ 20) = true := by rw [decide_eq_true_eq]; omega
      have hmk : m - 1 = k := by omega
      rw [hm]
      obtain ⟨p, hp⟩ : ∃ p, nextV l k = p := ⟨_, rfl⟩
      rw [hp] at hpb hnk ⊢
      obtain ⟨q, hq⟩ : ∃ q, 2 * p = q := ⟨_, rfl⟩
      have hwq : IntKind.u64.wrap ((p : Int) * 2) = (q : Int) := by rw [IntKind.wrap_u64]; omega
      have hqb : q ≤ 2097152 := by omega
      have Hq := Lib.hid hq
      have Hp := Lib.hid hp
      have Hm := Lib.hid hm
      have Hmk := Lib.hid hmk
      have hcb2 : ∀ o : Obj, (wr.alloc o).cell? ⟨b, 0, none⟩ = some (.slice A N ca) := fun o => by
        obtain ⟨cs, ty, fz, h1⟩ := cells_at hcb
        exact (World.cell?_of_block (w := wr) (Below.heap_alloc wr o b (lt_of_heap h1))).trans hcb
      clear hp hq hm hmk hlt hcb
      gi_wp2_with fail
      have hlv : (wr.alloc (.cells #[.int .i64 (m : Int), .int .u64 (q : Int), .slice none 0 0] 77)).heap[wr.heap.size]? = some (.cells #[.int .i64 (m : Int), .int .u64 (q : Int), .slice none 0 0] 77 (0, 0)) := heap_new _ _ _ rfl
      have Hlv := Lib.hid hlv
      have hB0 := Lib.hid ((Below.refl wr.heap.size wr).alloc (Nat.le_refl _) (.cells #[.int .i64 (m : Int), .int .u64 (q : Int), .slice none 0 0] 77))
      clear hlv
      obtain ⟨wo, rfl⟩ : ∃ wo : World, wo = wr := ⟨_, rfl⟩
      gi_loopw [19] (fun iv wr => ∃ i : Nat, ∃ sv, i ≤ N ∧ iv = .int .i64 i ∧ wr.heap[wo.heap.size]? = some (.cells #[.int .i64 (m : Int), .int .u64 (q : Int), sv] 77 (0, 0)) ∧ OwnInts wr (wo.heap.size + 1) sv (ints (whoseTo l m i)) ∧ Below wo.heap.size wo wr) (fun iv _ => N + 1 - (intOf iv).toNat)
      case atStart => exact ⟨0, _, Nat.zero_le _, rfl, Hlv.out, OwnInts.nil _ _, hB0.out⟩
      case round =>
        obtain ⟨i, sv, hi, rfl, hh, hown, hB⟩ := hrel
        have Hh := Lib.hid hh
        have Hown := Lib.hid hown
        have HB := Lib.hid hB
        have hzB := hB.size
        have hwl := length_whoseTo_le l m i
        clear hh hown hB Hlv hB0
        by_cases hit : i < N
        · obtain ⟨g, o, rfl, hg, hx⟩ := Hv.out.at i (by rw [length_ints, HN.out]; exact hit)
          have hxe : (ints l)[i]?.getD 0 = ((l[i]?.getD 0 : Nat) : Int) := by simp [ints, List.getElem?_eq_getElem (show i < l.length by rw [HN.out]; exact hit)]
          rw [hxe] at hx
          have hx1 := hK.cell (b := g) (fun h => by have := (Hbad.out g h).1; omega) hx
          have hx2 : wr.cell? ⟨g, o + i, none⟩ = some (.int .i64 ((l[i]?.getD 0 : Nat) : Int)) := by
            obtain ⟨cs, ty, fz, h1⟩ := cells_at hx1
            exact (HB.out.cell (p := ⟨g, o + i, none⟩) (lt_of_heap h1)).trans hx1
          obtain ⟨x, hxx⟩ : ∃ x, l[i]?.getD 0 = x := ⟨_, rfl⟩
          rw [hxx] at hx2
          have Hxx := Lib.hid hxx
          have k2 := (cell_of_heap Hh.out 2).trans rfl
          have f2 := frozen_of_heap Hh.out 2
          have hlt := lt_of_heap Hh.out
          clear hx hxe hx1 hxx hcb2
          by_cases hxm : x = m
          · have hbm : ((x : Int) == (m : Int)) = true := by rw [beq_iff_eq]; omega
            have Hs := Lib.hid (whose_some (l := l) (n := m) (i := i) (by rw [Hxx.out]; exact hxm) (by rw [HN.out]; exact hit))
            clear hxm
            gi_wp2_with
              (gi_at_builtin
               refine wpListIn_append_int rfl _ _ rfl (wo.heap.size + 1) _ (ints (whoseTo l m i)) rfl (Hown.out.alloc _) wr.heap.size i rfl (heap_new _ _ _ rfl) (by rw [length_ints]; omega) (by simp; omega) ?_
               intro q' c' w1 hown1 hg1
               have Hown1 := Lib.hid hown1
               have hlb : (wr.alloc (.cells #[.int .i64 (i : Int)] 3)).heap[wo.heap.size]? = some (.cells #[.int .i64 (m : Int), .int .u64 (q : Int), sv] 77 (0, 0)) := heap_up _ Hh.out
               have h1b : w1.heap[wo.heap.size]? = some (.cells #[.int .i64 (m : Int), .int .u64 (q : Int), sv] 77 (0, 0)) := (hg1.block _ (lt_of_heap hlb) (fun e => by have := own_ge Hown.out e.symm; omega)).trans hlb
               have hB1 : Below wo.heap.size wo w1 := (HB.out.alloc (by omega) _).grown hg1 (by simp; omega) (fun k hk => by have := own_ge Hown.out hk; omega)
               have HB1 := Lib.hid hB1
               have H1b := Lib.hid h1b
               have f2 := frozen_of_heap h1b 2
               have k3 := (cell_of_heap h1b 2).trans rfl
               have hlt1 := lt_of_heap h1b
               clear hg1 hown1 hlb h1b hB1)
            go_roundw
            case rel => exact ⟨i + 1, _, by omega, by go_num, by simpa using heap_set_ H1b.out 2 _, by rw [Hs.out, ints_one]; exact own_far Hown1.out, HB1.out.setCell (p := ⟨wo.heap.size, 2, none⟩) (Nat.le_refl _) _⟩
            case measure => simp [intOf]; omega
          · have hbm : ((x : Int) == (m : Int)) = false := by rw [beq_eq_false_iff_ne]; omega
            have Hs := Lib.hid (whose_none (l := l) (n := m) (i := i) (by rw [Hxx.out]; exact hxm) (by rw [HN.out]; exact hit))
            clear hxm
            gi_wp2_with fail
            go_roundw
            case rel => exact ⟨i + 1, sv, by omega, by go_num, Hh.out, by rw [Hs.out]; exact Hown.out, HB.out⟩
            case measure => simp [intOf]; omega
        · obtain rfl : i = N := by omega
          have hown := Hown.out
          have hwho : whoseTo l m i = whose l m := by unfold whose whoseTo; rw [HN.out]
          rw [hwho] at hown
          obtain ⟨sq, sc, rfl⟩ := hown.shape
          have hlc := length_whose l m
          rw [length_ints] at Hh hown
          rw [hlc] at Hh hown
          have Hown2 := Lib.hid hown
          obtain ⟨C, hC⟩ : ∃ C, l.count m = C := ⟨_, rfl⟩
          rw [hC] at Hh Hown2
          have HC := Lib.hid hC
          have hC258 : C ≤ 258 := by rw [← hC]; exact Nat.le_trans List.count_le_length (by rw [HN.out]; exact hN258)
          have k0 := (cell_of_heap Hh.out 0).trans rfl
          have k1 := (cell_of_heap Hh.out 1).trans rfl
          have k2 := (cell_of_heap Hh.out 2).trans rfl
          have hlt := lt_of_heap Hh.out
          have hnx : Hid (nextV l m = q + C) := by
            show _ = _
            rw [← Hm.out, nextV, Hp.out, Hm.out, HC.out, Hq.out]
          clear hown Hown hwho hC hlc hcb2 hit hwl
          by_cases hC0 : C = 0
          · subst hC0
            have Hat2 := Lib.hid (hat.no (by rw [Hm.out]; exact HC.out))
            gi_wp2_with fail
            refine ⟨(fun _ h => by cases h), ?_⟩
            gi_wp2_with fail
            go_roundw
            case rel => exact ⟨k + 1, pre, by have := Hm.out; omega, by rw [Hm.out]; go_num, by rw [Hm.out, hnx.out]; rfl, Hat2.out, HJ.out pre wo wr hJ HB.out, hK.below HB.out, Nat.le_trans hsz hzB⟩
            case measure => simp [intOf]; omega
          · have hCp : (0 : Int) < (C : Int) := by omega
            have hJ1 := HJ.out pre wo wr hJ HB.out
            have hlen := hat.len (by rw [Hm.out, HC.out]; omega) (by have := Hm.out; omega)
            have hok : LevOk l lo (m, q, .slice sq C sc) wr := ⟨(levelNs_mem l 20 m).2 ⟨hm1, hm20, by rw [HC.out]; omega⟩, by rw [Hmk.out, Hp.out]; exact Hq.out.symm, Hown2.out.is, fun g o n c h => by have := own_lo Hown2.out g o n c h; omega⟩
            obtain ⟨fn, tmps, assign, body, hy, hR⟩ := HY.out pre (m, q, .slice sq C sc) wr hJ1 hlen hok
            simp only [levE] at hy
            have Hat2 := Lib.hid (hat.yes (by rw [Hm.out, HC.out]; omega) (q, .slice sq C sc))
            clear hJ1 hlen hok hC0
            gi_wp2_with fail
            refine hR.mono ?_
            rintro e W' (⟨rfl, hJ', hk', hz'⟩ | ⟨rfl, hJx'⟩)
            · have hnb : ¬ bad wo.heap.size := fun h => by have := (Hbad.out _ h).2.2; omega
              have h2 := hk'.cells hnb Hh.out
              have k0 := (cell_of_heap h2 0).trans rfl
              have k1 := (cell_of_heap h2 1).trans rfl
              have k2 := (cell_of_heap h2 2).trans rfl
              have hlt2 := lt_of_heap h2
              have HKall := Lib.hid ((hK.below HB.out).trans hk')
              clear h2 hy hR hk' hJ
              gi_wp2_with fail
              go_roundw
              case rel => exact ⟨k + 1, pre ++ [(m, q, .slice sq C sc)], by have := Hm.out; omega, by rw [Hm.out]; go_num, by rw [Hm.out, hnx.out]; rfl, by have := Hat2.out; rw [Hm.out] at this ⊢; exact this, hJ', HKall.out, by omega⟩
              case measure => simp [intOf]; omega
            · gi_wp2_with fail
              refine bodyPost_ret (results_none rfl _ _ _) rfl ?_
              exact ⟨⟨_, rfl⟩, .inr ⟨_, by have := Hat2.out.pre (by have := Hm.out; omega); rw [Hm.out] at this; exact this, hJx'⟩⟩
    · obtain rfl : k = 20 := by omega
      gi_wp2_with fail
      exact bodyPost_end (results_none rfl _ _ _) rfl ⟨⟨_, rfl⟩, .inl ⟨pre, hat, hJ⟩⟩

theorem levels_seq (n : Nat) (hn : 3 ≤ n) (b B : Nat) (l : List Nat) (hl : Code l) (bad : Nat → Prop) (v : Value) (w0 : World) (hv : IsInts w0 B v (ints l)) (hB : B ≤ w0.heap.size) (hb : w0.cell? ⟨b, 0, none⟩ = some v)
    (hbad : ∀ k, bad k → B ≤ k ∧ k ≠ b ∧ k < w0.heap.size) :
    SeqOk n 47 #[.pointer (some ⟨b, 0, none⟩)] levE (LevOk l w0.heap.size) (KeepC bad) (fun xs => xs.map (·.1) = levelNs l 20) (fun pre => pre.map (·.1) <+: levelNs l 20) (levelNs l 20).length w0 :=
  fun y J Jx W hBW hJ hJx hY h0 => by
    have hbl : b < w0.heap.size := by
      obtain ⟨cs, ty, fz, h1⟩ := cells_at hb
      exact lt_of_heap h1
    exact levels_in n hn y b B w0.heap.size l hl bad J Jx v W (hv.below hBW hB) ((hBW.cell (p := ⟨b, 0, none⟩) hbl).trans hb) (fun k hk => ⟨(hbad k hk).1, (hbad k hk).2.1, Nat.lt_of_lt_of_le (hbad k hk).2.2 hBW.size⟩) hJ hJx hY hBW.size h0
theorem enters_levels : Enters Try.prog 47 := enters_of Try.func47 (by kernel_rfl) rfl
theorem nodup_whose (l : List Nat) (n : Nat) : (whose l n).Nodup := List.nodup_range.sublist List.filter_sublist
theorem wordV_at (l : List Nat) (n i s : Nat) (h : (whose l n)[i]? = some s) : wordV l s = 2 * nextV l (n - 1) + i ∧ l[s]? = some n := by
  have hs := (whose_mem l n s).1 (List.mem_of_getElem? h)
  have hr := whose_rank l n s hs
  have hi := (List.getElem?_eq_some_iff.1 h).1
  have := (List.getElem?_inj hi (nodup_whose l n)).1 (h.trans hr.symm)
  refine ⟨?_, hs⟩
  unfold wordV
  rw [hs, this]
  rfl
/-- ints keep over the loop's own book-keeping -/
theorem isInts_keep {W W' : World} {row : Option Nat} {v : Value} {xs : List Int} (h : IsInts W W.heap.size v xs) (hg : W.grownBy W' row) (hr : ∀ r, row = some r → ∃ o : Obj, W.heap[r]? = some o ∧ o.isCells = false) : IsInts W' W'.heap.size v xs := by
  obtain ⟨h1, A, cap, hv, h2, h3, h4⟩ := h
  refine ⟨h1, A, cap, hv, h2, h3, fun hn => ?_⟩
  obtain ⟨g, o, hA, hgs, hc⟩ := h4 hn
  exact ⟨g, o, hA, Nat.lt_of_lt_of_le hgs hg.size, fun i x hx => cell_kept (hc i x hx) hg hr⟩
theorem cells_own {β : Type} (g : Nat) (t : TypeId) (f : β → Array Value) : Own (fun s W => W.heap[g]? = some (.cells (f s) t (0, 0))) := fun s X Y row hs hg hrow => by
  refine (hg.block g (lt_of_heap hs) (fun e' => ?_)).trans hs
  obtain ⟨o, ho, hc⟩ := hrow g e'.symm
  rw [show X.heap[g]? = _ from hs] at ho
  cases ho
  cases hc
end Go.Proofs.Ytodniacnjdnffaa
/- Words of the program: the walk. -/
namespace Go.Proofs.Ytodniacnjdnffaa
open Go.RowKit Go.Shelf
attribute [local go_sem] Oper.semAt_some
set_option linter.unusedVariables false

/-- words as cells: those that are there yet -/
def wcell (l : List Nat) (p : Nat → Bool) (j : Nat) : Value :=
  if j % 2 = 0 then .int .i64 ((if p (j / 2) then l[j / 2]?.getD 0 else 0 : Nat) : Int) else .int .u64 ((if p (j / 2) then wordV l (j / 2) else 0 : Nat) : Int)
def outC (l : List Nat) (p : Nat → Bool) : Array Value := (Array.range (l.length * 2)).map (wcell l p)
theorem outC_size (l : List Nat) (p : Nat → Bool) : (outC l p).size = l.length * 2 := by simp [outC]
theorem outC_get (l : List Nat) (p : Nat → Bool) (j : Nat) (h : j < l.length * 2) : (outC l p)[j]? = some (wcell l p j) := by simp [outC, h]
theorem outC_none (l : List Nat) (p : Nat → Bool) (j : Nat) (h : ¬ j < l.length * 2) : (outC l p)[j]? = none := Array.getElem?_eq_none (by rw [outC_size]; omega)
theorem outC_congr {l : List Nat} {p q : Nat → Bool} (h : ∀ s, s < l.length → p s = q s) : outC l p = outC l q := by
  apply Array.ext_getElem?
  intro j
  by_cases hj : j < l.length * 2
  · rw [outC_get _ _ _ hj, outC_get _ _ _ hj]
    unfold wcell
    rw [h (j / 2) (by omega)]
  · rw [outC_none _ _ _ hj, outC_none _ _ _ hj]
theorem outC_made (l : List Nat) : outC l (fun _ => false) = madeCells #[.int .i64 0, .int .u64 0] (l.length * 2) := by
  apply Array.ext_getElem?
  intro j
  by_cases hj : j < l.length * 2
  · rw [outC_get _ _ _ hj]
    unfold wcell
    rcases Nat.mod_two_eq_zero_or_one j with h | h
    · simp [madeCells, hj, h]
    · simp [madeCells, hj, h]
  · rw [outC_none _ _ _ hj, Array.getElem?_eq_none (by rw [size_madeCells]; omega)]
theorem outC_set (l : List Nat) (p : Nat → Bool) (s : Nat) (hs : s < l.length) :
    ((outC l p).setIfInBounds (s * 2) (.int .i64 ((l[s]?.getD 0 : Nat) : Int))).setIfInBounds (s * 2 + 1) (.int .u64 (wordV l s : Int)) = outC l (fun t => p t || t == s) := by
  apply Array.ext_getElem?
  intro j
  rw [Array.getElem?_setIfInBounds, Array.getElem?_setIfInBounds, Array.size_setIfInBounds, outC_size]
  by_cases hj : j < l.length * 2
  · rw [outC_get _ _ _ hj, outC_get _ _ _ hj]
    by_cases h1 : s * 2 + 1 = j
    · subst h1
      rw [if_pos rfl, if_pos hj]
      unfold wcell
      rw [if_neg (by omega), show (s * 2 + 1) / 2 = s by omega]
      simp
    · rw [if_neg h1]
      by_cases h2 : s * 2 = j
      · subst h2
        rw [if_pos rfl, if_pos hj]
        unfold wcell
        rw [if_pos (by omega), show s * 2 / 2 = s by omega]
        simp
      · rw [if_neg h2]
        unfold wcell
        have : (j / 2 == s) = false := by rw [beq_eq_false_iff_ne]; omega
        simp [this]
  · rw [outC_none _ _ _ hj, outC_none _ _ _ hj, if_neg (by omega), if_neg (by omega)]
/-- which words are there -/
def seen (l : List Nat) (ns : List Nat) (s : Nat) : Bool := decide (l[s]?.getD 0 ∈ ns)
def seenTo (l : List Nat) (ns : List Nat) (n i s : Nat) : Bool := seen l ns s || decide (s ∈ (whose l n).take i)
theorem seenTo_zero (l ns : List Nat) (n : Nat) : seenTo l ns n 0 = seen l ns := by funext s; simp [seenTo]
theorem seenTo_succ (l ns : List Nat) (n i t : Nat) (h : (whose l n)[i]? = some t) : seenTo l ns n (i + 1) = fun s => seenTo l ns n i s || s == t := by
  funext s
  unfold seenTo
  rw [List.take_add_one, h, Bool.or_assoc]
  congr 1
  rw [Bool.eq_iff_iff]
  simp
theorem seenTo_all (l ns : List Nat) (n : Nat) : outC l (seenTo l ns n (l.count n)) = outC l (seen l (ns ++ [n])) := outC_congr fun s hs => by
  unfold seenTo seen
  rw [List.take_of_length_le (by rw [length_whose]; exact Nat.le_refl _), Bool.eq_iff_iff]
  simp only [Bool.or_eq_true, decide_eq_true_eq, whose_mem, List.mem_append, List.mem_singleton]
  rw [List.getElem?_eq_getElem hs]
  simp
theorem seen_levels (l : List Nat) (hf : Fits l) : outC l (seen l (levelNs l 20)) = outC l (fun _ => true) := outC_congr fun s hs => by
  unfold seen
  rw [decide_eq_true_eq, levelNs_mem, List.getElem?_eq_getElem hs]
  have hm := List.getElem_mem hs
  have := hf _ hm
  exact ⟨this.1, this.2, List.count_pos_iff.2 hm⟩
theorem word_info : (Try.prog.info? 61).map (fun i => (i.zero, i.size, i.bytes)) = some (some (.agg #[.int .i64 0, .int .u64 0]), 2, 16) := by kernel_rfl
theorem run_make_words (l : List Nat) (N : Nat) (hN : l.length = N) (hn : N ≤ 1000000) : ∀ W, (Instr.makeSlice 54 (.int .i64 (N : Int)) (.int .i64 (N : Int))).run Try.prog W = .ok (.slice (some ⟨W.heap.size, 0, none⟩) N N) (W.alloc (.cells (outC l fun _ => false) 61)) := fun W => by
  obtain ⟨i0, hi, hz0, hz1, hz2⟩ := info_parts word_info
  have := run_make (P := Try.prog) W 54 61 i0 (.agg #[.int .i64 0, .int .u64 0]) Try.underlying54 hi hz0 .i64 .i64 N N (by omega) (by omega) (by rw [hz2]; omega) (by omega)
  rw [hz1, Int.toNat_natCast, ← hN] at this
  rw [outC_made, ← hN]
  exact this
/-- v reads as these words -/
def IsWords (w : World) (v : Value) (l : List Nat) : Prop := ∃ g c, v = .slice (some ⟨g, 0, none⟩) l.length c ∧ w.heap[g]? = some (.cells (outC l fun _ => true) 61 (0, 0))

set_option maxRecDepth 100000 in
set_option maxHeartbeats 4000000 in
theorem words_ok (w : World) (v : Value) (l : List Nat) (hv : IsInts w w.heap.size v (ints l)) (hl : Code l) :
    Calls Try.prog 30 #[v] w fun e w' => ∃ u, e = .returned (.tuple #[u, .int .i64 0]) ∧ IsWords w' u l ∧ Below w.heap.size w w' := by
  obtain ⟨A, ca, rfl, hc1, hc2⟩ := hv.shape
  have hli := length_ints l
  obtain ⟨N, hN⟩ : ∃ N, l.length = N := ⟨_, rfl⟩
  rw [hli, hN] at hc1 hv ⊢
  have hN258 : N ≤ 258 := by rw [← hN]; exact hl.most
  have CC : Hid (Calls Try.prog 14 #[.slice A N ca] w fun e w' => e = .returned (.int .i64 0) ∧ Below w.heap.size w w') := by
    have := check_any w _ _ hv (by rw [hli]; omega)
    rw [hl.ok] at this
    exact this
  have hmk := run_make_words l N hN (by omega)
  have Hv := Lib.hid hv
  have HN := Lib.hid hN
  have Hlc := Lib.hid hl
  obtain ⟨D, hD⟩ : ∃ D : Nat, 8 ≤ D := ⟨8, by omega⟩
  have h1D : 1 ≤ D := by omega
  clear hv hN hl hli
  refine (callsIn_wide (n := D)).1 ?_
  refine callsIn_of_wp_marks Try.func30 rfl trivial ?_ rfl
  simp only [Try.ntmps30, List.size_toArray, List.length_cons, List.length_nil, Nat.reduceAdd, Nat.reduceSub, Array.replicate_succ, Array.replicate_zero, List.push_toArray, List.append_toArray, List.nil_append, List.cons_append]
  gi_wp2_with fail
  refine ⟨trivial, (callsIn_wide.2 CC.out).mono ?_⟩
  rintro e w1 ⟨rfl, hB1⟩
  have HB1 := Lib.hid hB1
  clear hB1 CC
  gi_wp2_with fail
  refine ⟨trivial, (callsIn_wide.2 (levels_any _ A N ca)).mono ?_⟩
  rintro e w' ⟨rfl, rfl⟩
  gi_wp2_with fail
  obtain ⟨g, hg⟩ : ∃ g, w1.heap.size = g := ⟨_, rfl⟩
  have hwg : w.heap.size ≤ g := by rw [← hg]; exact HB1.out.size
  have hBW : Below w.heap.size w (((w1.alloc (.cells (outC l fun _ => false) 61)).alloc (.cells #[.slice (some ⟨w1.heap.size, 0, none⟩) N N] 54)).alloc (.cells #[.slice A N ca] 22)) :=
    ((HB1.out.alloc HB1.out.size _).alloc (by simp; omega) _).alloc (by simp; omega) _
  have hW1 : (((w1.alloc (.cells (outC l fun _ => false) 61)).alloc (.cells #[.slice (some ⟨w1.heap.size, 0, none⟩) N N] 54)).alloc (.cells #[.slice A N ca] 22)).heap[w1.heap.size]? = some (.cells (outC l fun _ => false) 61 (0, 0)) := heap_up _ (heap_up _ (heap_new _ _ _ rfl))
  have hW2 : (((w1.alloc (.cells (outC l fun _ => false) 61)).alloc (.cells #[.slice (some ⟨w1.heap.size, 0, none⟩) N N] 54)).alloc (.cells #[.slice A N ca] 22)).heap[w1.heap.size + 1]? = some (.cells #[.slice (some ⟨w1.heap.size, 0, none⟩) N N] 54 (0, 0)) := heap_up _ (heap_new _ _ _ (by simp))
  have hW3 : (((w1.alloc (.cells (outC l fun _ => false) 61)).alloc (.cells #[.slice (some ⟨w1.heap.size, 0, none⟩) N N] 54)).alloc (.cells #[.slice A N ca] 22)).heap[w1.heap.size + 1 + 1]? = some (.cells #[.slice A N ca] 22 (0, 0)) := heap_new _ _ _ (by simp)
  have hWs : (((w1.alloc (.cells (outC l fun _ => false) 61)).alloc (.cells #[.slice (some ⟨w1.heap.size, 0, none⟩) N N] 54)).alloc (.cells #[.slice A N ca] 22)).heap.size = w1.heap.size + 3 := by simp
  rw [hg] at hBW hW1 hW2 hW3 hWs ⊢
  generalize ((w1.alloc (.cells (outC l fun _ => false) 61)).alloc (.cells #[.slice (some ⟨g, 0, none⟩) N N] 54)).alloc (.cells #[.slice A N ca] 22) = W0 at *
  have hvW := Hv.out.below hBW (Nat.le_refl _)
  clear hg HB1 hmk
  refine range_ok (n := D) h1D (gf := 47) (lb := #[.pointer (some ⟨g + 1 + 1, 0, none⟩)]) rfl enters_levels (encs := levE) (fun _ => rfl) (LevOk l W0.heap.size) (fun k => k = g)
    (levels_seq (D - 1) (by omega) (g + 1 + 1) w.heap.size l Hlc.out (fun k => k = g) (.slice A N ca) W0 hvW hBW.size ((cell_of_heap hW3 0).trans rfl) (fun k hk => by subst hk; exact ⟨hwg, by omega, by omega⟩)) (Below.refl _ _)
    (fun pre W => (W.heap[g]? = some (.cells (outC l (seen l (pre.map (·.1)))) 61 (0, 0)) ∧ Boxed W (g + 1) 54 (.slice (some ⟨g, 0, none⟩) N N)) ∧ Below w.heap.size w W)
    (fun _ _ _ => False)
    (OwnFrom.and (OwnFrom.and (Own.from (cells_own g _ (fun pre : List Lev => outC l (seen l (pre.map (·.1))))) _) (Own.from (boxed_own _ _ (fun _ => .slice (some ⟨g, 0, none⟩) N N)) _)) (ownFrom_below (Nat.le_refl _) (by omega)))
    (fun _ _ _ _ _ h _ _ => h)
    ⟨⟨by rw [hW1]; congr 2, hW2⟩, hBW⟩
    (fun x a' W => ∃ lb, lb ≠ g ∧ a' = { tmps := #[.slice A N ca, undef, .slice none 0 0, .int .i64 0, .int .i64 0, .pointer (some ⟨g + 1, 0, none⟩), .pointer (some ⟨lb, 0, none⟩), undef, undef, .slice A N ca, .int .i64 0, .int .i64 0, .bool false, undef, .slice A N ca, .int .i64 (N : Nat), .slice (some ⟨g, 0, none⟩) N N, .slice A N ca, .func (.func 47) #[] #[.pointer (some ⟨g + 1 + 1, 0, none⟩)], .agg #[.int .i64 (x.1 : Nat), .int .u64 (x.2.1 : Nat), x.2.2], undef, undef, undef, undef, undef, undef, undef, undef, undef, undef, undef, undef, undef, undef, undef, undef, undef, undef, undef, undef, undef], defers := [] } ∧
      W.heap[lb]? = some (.cells #[.int .i64 (x.1 : Nat), .int .u64 (x.2.1 : Nat), x.2.2] 77 (0, 0)) ∧ LevOk l W0.heap.size x W)
    (fun x a' s W W' row h hgr hr => by
      obtain ⟨lb, h1, h2, h3, h4, h5, h6, h7⟩ := h
      exact ⟨lb, h1, h2, cells_own lb _ (fun _ : Unit => _) () W W' row h3 hgr (fun r e => (hr r e).2), h4, h5, isInts_keep h6 hgr (fun r e => (hr r e).2), h7⟩)
    ?assign ?body ?done ?stop
  case assign =>
    intro y pre x W K hi hok hlt hK
    obtain ⟨⟨ho, hb⟩, hB⟩ := hi
    obtain ⟨n, q, v⟩ := x
    have hlo := lt_of_heap ho
    have h1 : W.heap.size ≠ g := by omega
    clear hlt hW1 hW2 hW3 hWs hvW hBW
    obtain ⟨hk1, hk2, hk3, hk4⟩ : n ∈ levelNs l 20 ∧ q = 2 * nextV l (n - 1) ∧ IsInts W W.heap.size v (ints (whose l n)) ∧ ∀ g o m c, v = .slice (some ⟨g, o, none⟩) m c → W0.heap.size ≤ g := hok
    obtain ⟨sq, sc, rfl, hsc, _⟩ := hk3.shape
    have Hok : Hid (LevOk l W0.heap.size (n, q, .slice sq (ints (whose l n)).length sc) W) := ⟨hk1, hk2, hk3, hk4⟩
    have HK := Lib.hid hK
    clear hK hk1 hk2 hk3 hk4
    simp only [levE]
    gi_wp2_with fail
    have hBa : Below W.heap.size W (W.alloc (.cells #[.int .i64 (n : Nat), .int .u64 (q : Nat), .slice sq (ints (whose l n)).length sc] 77)) := (Below.refl _ W).alloc (Nat.le_refl _) _
    exact HK.out _ _ ((KeepsOthers.alloc W _).from _) ((KeepC.refl _ _).below hBa) ⟨⟨heap_up _ ho, hb.alloc _⟩, hB.trans (hBa.mono hB.size)⟩
      ⟨W.heap.size, h1, rfl, heap_new _ _ _ rfl, Hok.out.1, Hok.out.2.1, isInts_keep Hok.out.2.2.1 (below_grown hBa) (fun r e => by cases e), Hok.out.2.2.2⟩
  case body =>
    rintro y pre x a' W ⟨⟨hout, hbox⟩, hB⟩ ⟨lb, hne, rfl, hlv, hok⟩ hlt hlen
    obtain ⟨n, q, v⟩ := x
    obtain ⟨hk1, hk2, hk3, hk4⟩ : n ∈ levelNs l 20 ∧ q = 2 * nextV l (n - 1) ∧ IsInts W W.heap.size v (ints (whose l n)) ∧ ∀ g o m c, v = .slice (some ⟨g, o, none⟩) m c → W0.heap.size ≤ g := hok
    have hn20 := (levelNs_mem l 20 n).1 hk1
    have hqb : q ≤ 1048576 := by
      have h1 := nextV_le l Hlc.out.fits Hlc.out.room (n - 1) (by omega)
      have h2 : 2 ^ (n - 1) ≤ 2 ^ 19 := Nat.pow_le_pow_right (by omega) (by omega)
      have h3 : (2 : Nat) ^ 19 = 524288 := by decide
      omega
    obtain ⟨sq, sc, rfl, hsc, _⟩ := hk3.shape
    have hlw := length_whose l n
    have hwle := length_whose_le l n
    rw [length_ints] at hk3 hlv hsc ⊢
    rw [HN.out] at hwle
    obtain ⟨C, hC⟩ : ∃ C, (whose l n).length = C := ⟨_, rfl⟩
    rw [hC] at hk3 hlv hlw hsc hwle ⊢
    have HC := Lib.hid hC
    have Hk3 := Lib.hid hk3
    have Hk4 := Lib.hid hk4
    have Hws := Lib.hid hWs
    have Hq := Lib.hid hk2
    have Hlv := Lib.hid hlv
    have Hbox := Lib.hid hbox
    have Hlw := Lib.hid hlw
    have hd : 1 ≤ D - 1 - 1 := by omega
    have k0 := (cell_of_heap hlv 0).trans rfl
    have k1 := (cell_of_heap hlv 1).trans rfl
    have k2 := (cell_of_heap hlv 2).trans rfl
    have hout2 : W.heap[g]? = some (.cells (outC l (seenTo l (pre.map (·.1)) n 0)) 61 (0, 0)) := by rw [seenTo_zero]; exact hout
    have Hout2 := Lib.hid hout2
    clear hlv hbox hk1 hk2 hk3 hk4 hC hlw hout hout2 hW1 hW2 hW3 hvW hBW hlen hWs
    gi_wp2_with fail
    gi_loopw [23] (fun iv wr => ∃ i : Nat, i ≤ C ∧ iv = .int .i64 i ∧ wr.heap[g]? = some (.cells (outC l (seenTo l (pre.map (·.1)) n i)) 61 (0, 0)) ∧ KeepC (fun k => k = g) W wr ∧ KeepsOthers W wr ∧ Below w.heap.size w wr) (fun iv _ => C + 1 - (intOf iv).toNat)
    case atStart => exact ⟨0, Nat.zero_le _, rfl, Hout2.out, KeepC.refl _ _, KeepsOthers.refl _, hB⟩
    case round =>
      obtain ⟨i, hi, rfl, ho, hkc, hko, hB2⟩ := hrel
      have Ho := Lib.hid ho
      have Hkc := Lib.hid hkc
      have Hko := Lib.hid hko
      have HB2 := Lib.hid hB2
      have hlv2 := hkc.cells hne Hlv.out
      have hbx2 := hkc.cells (show ¬ g + 1 = g by omega) Hbox.out
      clear k0 k1 k2 hkc hko hB hB2 ho Hout2
      by_cases hit : i < C
      · obtain ⟨g2, o2, rfl, hg2, hx⟩ := Hk3.out.at i (by rw [length_ints, HC.out]; exact hit)
        have hex : ∃ s, (whose l n)[i]? = some s := ⟨_, List.getElem?_eq_getElem (by rw [HC.out]; exact hit)⟩
        obtain ⟨s, hs⟩ := hex
        have hxe : (ints (whose l n))[i]?.getD 0 = (s : Int) := by simp [ints, hs]
        rw [hxe] at hx
        obtain ⟨hw1, hw2⟩ := wordV_at l n i s hs
        have hsl : s < l.length := (List.getElem?_eq_some_iff.1 hw2).1
        have hsN : s < N := by rw [← HN.out]; exact hsl
        have hg2n : g2 ≠ g := by
          have := Hk4.out g2 o2 _ _ rfl
          have h0s := Hws.out
          omega
        have hx2 := Hkc.out.cell (b := g2) hg2n hx
        have k0 := (cell_of_heap hlv2 0).trans rfl
        have k1 := (cell_of_heap hlv2 1).trans rfl
        have kb := (cell_of_heap hbx2 0).trans rfl
        have hst := outC_set l (seenTo l (pre.map (·.1)) n i) s hsl
        rw [← seenTo_succ l (pre.map (·.1)) n i s hs] at hst
        have hset := heap_set_ (heap_set_ Ho.out (s * 2) (.int .i64 ((l[s]?.getD 0 : Nat) : Int))) (s * 2 + 1) (.int .u64 (wordV l s : Int))
        rw [hst, hw1, ← Hq.out, show l[s]?.getD 0 = n by rw [hw2]; rfl] at hset
        have Hset := Lib.hid hset
        have c0 := (cell_of_heap Ho.out (s * 2)).trans (outC_get _ _ _ (by omega))
        have c1 := (cell_of_heap Ho.out (s * 2 + 1)).trans (outC_get _ _ _ (by omega))
        have f0 := frozen_of_heap Ho.out (s * 2)
        have f1 := frozen_of_heap Ho.out (s * 2 + 1)
        have hgl := lt_of_heap Ho.out
        generalize wcell l (seenTo l (pre.map (·.1)) n i) (s * 2) = cv0 at *
        generalize wcell l (seenTo l (pre.map (·.1)) n i) (s * 2 + 1) = cv1 at *
        clear hlv2 hbx2 hx hxe hs hw1 hw2 hsl hset hst
        gi_wp2_with fail
        go_roundw
        case rel => exact ⟨i + 1, by omega, by go_num, Hset.out, (Hkc.out.set rfl _).set rfl _, (Hko.out.trans (KeepsOthers.setCell _ _ _)).trans (KeepsOthers.setCell _ _ _), (HB2.out.setCell (p := ⟨g, _, none⟩) hwg _).setCell (p := ⟨g, _, none⟩) hwg _⟩
        case measure => simp [intOf]; omega
      · obtain rfl : i = C := by omega
        have ho2 := Ho.out
        rw [Hlw.out, seenTo_all] at ho2
        have Ho2 := Lib.hid ho2
        clear ho2
        gi_wp2_with fail
        exact ⟨Hko.out.from _, Hkc.out, ⟨by rw [List.map_append]; exact Ho2.out, hbx2⟩, HB2.out⟩
  case done =>
    rintro Dd xs W hDd hS ⟨⟨hout, hbox⟩, hB⟩ hK
    have hS2 : xs.map (·.1) = levelNs l 20 := hS
    rw [hS2, seen_levels l Hlc.out.fits] at hout
    have hc := (cell_of_heap hbox 0).trans rfl
    have Hout := Lib.hid hout
    have hgd : Dd ≠ g := by omega
    clear hout hW1 hW2 hW3 hvW hBW
    gi_wp2_with fail
    refine ⟨by simp, .inl ⟨_, _, rfl, run_takeDeferred hK, ?_⟩⟩
    exact ⟨_, results_tmp2 rfl _ _ _, _, rfl, ⟨g, N, by rw [HN.out]; rfl, (World.putObj_heap_other (fun e => hgd e.symm)).trans Hout.out⟩, hB.trans (belowK_b (w := w) (Nat.le_refl _) W Dd _ _ (by omega) hK rfl rfl)⟩
  case stop =>
    rintro D c pre W _ _ h _
    exact h.elim

set_option maxRecDepth 100000 in
set_option maxHeartbeats 1600000 in
theorem words_er (w : World) (v : Value) (l : List Int) (hv : IsInts w w.heap.size v l) (hl : l.length ≤ 1000000) (hc : checkF l ≠ 0) :
    Calls Try.prog 30 #[v] w fun e w' => e = .returned (.tuple #[.slice none 0 0, .int .i64 (checkF l)]) ∧ Below w.heap.size w w' := by
  have CC : Hid (Calls Try.prog 14 #[v] w fun e w' => e = .returned (.int .i64 (checkF l)) ∧ Below w.heap.size w w') := check_any w _ _ hv hl
  obtain ⟨A, ca, rfl, hc1, hc2⟩ := hv.shape
  generalize checkF l = z at *
  have hz : (z != 0) = true := by rw [bne_iff_ne]; exact hc
  clear hv hc
  obtain ⟨D, hD⟩ : ∃ D : Nat, 8 ≤ D := ⟨8, by omega⟩
  have h1D : 1 ≤ D := by omega
  refine (callsIn_wide (n := D)).1 ?_
  refine callsIn_of_wp_marks Try.func30 rfl trivial ?_ rfl
  simp only [Try.ntmps30, List.size_toArray, List.length_cons, List.length_nil, Nat.reduceAdd, Nat.reduceSub, Array.replicate_succ, Array.replicate_zero, List.push_toArray, List.append_toArray, List.nil_append, List.cons_append]
  gi_wp2_with fail
  refine ⟨trivial, (callsIn_wide.2 CC.out).mono ?_⟩
  rintro e w1 ⟨rfl, hB1⟩
  gi_wp2_with fail
  exact ⟨_, results_tmp2 rfl _ _ _, rfl, hB1⟩
end Go.Proofs.Ytodniacnjdnffaa
/- Put of the program: the walk. -/
namespace Go.Proofs.Ytodniacnjdnffaa
open Go.RowKit
set_option linter.unusedVariables false

theorem Env.place {w0 W : World} {k : Nat} {cs : Array Value} {t : TypeId} {bs : List (Nat × Array Value × TypeId)} (h : Env w0 W [] ((k, cs, t) :: bs)) (hk : w0.heap.size ≤ k) (hbs : ∀ p ∈ bs, p.1 ≠ k) (i : Nat) (u : Value) :
    Env w0 (W.setCell ⟨k, i, none⟩ u) [] ((k, cs.setIfInBounds i u, t) :: bs) := by
  refine ⟨⟨h.bel.setCell (p := ⟨k, i, none⟩) hk u, fun p hp => by simp at hp⟩, fun p hp => ?_⟩
  rcases List.mem_cons.1 hp with rfl | hp
  · exact heap_set_ (h.blk 0 rfl) i u
  · exact (Below.heap_setCell _ _ _ _ (hbs p hp)).trans (h.2 p (List.mem_cons_of_mem _ hp))
/-- rows of bits as cells: those that are there yet -/
def pcell (ls : List (List Bool)) (j : Nat) : Value :=
  if j % 2 = 0 then .string (txt (ls[j / 2]?.getD [])) else .int .i64 (((ls[j / 2]?.getD []).length : Nat) : Int)
def outP (ls : List (List Bool)) (M : Nat) : Array Value := (Array.range (M * 2)).map (pcell ls)
theorem outP_size (ls : List (List Bool)) (M : Nat) : (outP ls M).size = M * 2 := by simp [outP]
theorem outP_get (ls : List (List Bool)) (M : Nat) (j : Nat) (h : j < M * 2) : (outP ls M)[j]? = some (pcell ls j) := by simp [outP, h]
theorem outP_none (ls : List (List Bool)) (M : Nat) (j : Nat) (h : ¬ j < M * 2) : (outP ls M)[j]? = none := Array.getElem?_eq_none (by rw [outP_size]; omega)
theorem outP_made (M : Nat) : outP [] M = madeCells #[.string ⟨#[]⟩, .int .i64 0] (M * 2) := by
  apply Array.ext_getElem?
  intro j
  by_cases hj : j < M * 2
  · rw [outP_get _ _ _ hj]
    unfold pcell
    rcases Nat.mod_two_eq_zero_or_one j with h | h
    · simp [madeCells, hj, h]; rfl
    · simp [madeCells, hj, h]
  · rw [outP_none _ _ _ hj, Array.getElem?_eq_none (by rw [size_madeCells]; omega)]
theorem outP_set (ls : List (List Bool)) (b : List Bool) (M i : Nat) (hi : i < M) (hl : ls.length = i) :
    ((outP ls M).setIfInBounds (i * 2) (.string (txt b))).setIfInBounds (i * 2 + 1) (.int .i64 ((b.length : Nat) : Int)) = outP (ls ++ [b]) M := by
  apply Array.ext_getElem?
  intro j
  rw [Array.getElem?_setIfInBounds, Array.getElem?_setIfInBounds, Array.size_setIfInBounds, outP_size]
  by_cases hj : j < M * 2
  · rw [outP_get _ _ _ hj, outP_get _ _ _ hj]
    by_cases h1 : i * 2 + 1 = j
    · subst h1
      rw [if_pos rfl, if_pos hj]
      unfold pcell
      rw [if_neg (by omega), show (i * 2 + 1) / 2 = i by omega]
      simp [← hl]
    · rw [if_neg h1]
      by_cases h2 : i * 2 = j
      · subst h2
        rw [if_pos rfl, if_pos hj]
        unfold pcell
        rw [if_pos (by omega), show i * 2 / 2 = i by omega]
        simp [← hl]
      · rw [if_neg h2]
        unfold pcell
        have : (ls ++ [b])[j / 2]? = ls[j / 2]? := by
          rcases Nat.lt_or_ge (j / 2) ls.length with h3 | h3
          · rw [List.getElem?_append_left h3]
          · rw [List.getElem?_eq_none h3, List.getElem?_eq_none (by simp; omega)]
        rw [this]
  · rw [outP_none _ _ _ hj, outP_none _ _ _ hj, if_neg (by omega), if_neg (by omega)]
theorem outP_all (ls : List (List Bool)) : (outP ls ls.length).toList = pairCells (ls.map pairOf) := by
  apply List.ext_getElem?
  intro j
  rw [Array.getElem?_toList]
  by_cases hj : j < ls.length * 2
  · rw [outP_get _ _ _ hj]
    have hl : j / 2 < ls.length := by omega
    have hp : (ls.map pairOf)[j / 2]? = some (pairOf ls[j / 2]) := by simp [hl]
    obtain ⟨h1, h2⟩ := pairCells_at (ls.map pairOf) (j / 2) _ hp
    unfold pcell
    rw [List.getElem?_eq_getElem hl]
    rcases Nat.mod_two_eq_zero_or_one j with h | h
    · rw [if_pos h]
      rw [show j / 2 * 2 = j by omega] at h1
      rw [h1]; rfl
    · rw [if_neg (by omega)]
      rw [show j / 2 * 2 + 1 = j by omega] at h2
      rw [h2]; rfl
  · rw [outP_none _ _ _ hj, List.getElem?_eq_none (by rw [length_pairCells, List.length_map]; omega)]
theorem pairs_of_heap {c : World} {k n : Nat} {ls : List (List Bool)} {t : TypeId} (h : c.heap[k]? = some (.cells (outP ls n) t (0, 0))) (hn : ls.length = n) (hl : n ≤ maxLen) : IsPairs c c.heap.size (.slice (some ⟨k, 0, none⟩) n n) (ls.map pairOf) := by
  subst hn
  unfold IsPairs
  rw [List.length_map]
  have hs := outP_size ls ls.length
  refine ⟨by rw [length_pairCells, List.length_map], _, _, rfl, Nat.le_refl _, hl, fun _ => ⟨k, 0, rfl, lt_of_heap h, fun j hj => ?_⟩⟩
  rw [cell_of_heap h, Nat.zero_add, ← outP_all, Array.getElem?_toList]
  exact id
theorem results_cell_tmp {fn : Func} {p q : Tmp} {ty : TypeId} (h : fn.results = #[.cell p ty, .tmp q]) (tmps : Array Value) (P : Program) (w : World) (a : Addr) (v : Value) (hp : tmps.getD p undef = .pointer (some a)) (hl : (loadVar ty a).run P w = .ok v w) :
    (results fn tmps).run P w = .ok (.tuple #[v, tmps.getD q undef]) w := by
  have hp' : tmps[p]?.getD undef = .pointer (some a) := by simpa using hp
  simp [results, h, hp', asAddr, hl]
theorem loadVar_bits (k : Nat) (w : World) (a b : Value) (h : w.heap[k]? = some (.cells #[a, b] 41 (0, 0))) : (loadVar 41 ⟨k, 0, none⟩).run Try.prog w = .ok (.agg #[a, b]) w := by
  have c0 := (cell_of_heap h 0).trans rfl
  have c1 := (cell_of_heap h 1).trans rfl
  go_simp
theorem bits_info : (Try.prog.info? 41).map (fun i => (i.zero, i.size, i.bytes)) = some (some (.agg #[.string ⟨#[]⟩, .int .i64 0]), 2, 24) := by kernel_rfl
theorem run_make_bits (M : Nat) (hn : M ≤ 1000000) : ∀ W, (Instr.makeSlice 57 (.int .i64 (M : Int)) (.int .i64 (M : Int))).run Try.prog W = .ok (.slice (some ⟨W.heap.size, 0, none⟩) M M) (W.alloc (.cells (outP [] M) 41)) := fun W => by
  obtain ⟨i0, hi, hz0, hz1, hz2⟩ := info_parts bits_info
  have := run_make (P := Try.prog) W 57 41 i0 (.agg #[.string ⟨#[]⟩, .int .i64 0]) Try.underlying57 hi hz0 .i64 .i64 M M (by omega) (by omega) (by rw [hz2]; omega) (by omega)
  rw [hz1, Int.toNat_natCast] at this
  rw [outP_made]
  exact this

/-- what Put answers -/
def codePut (l : List Nat) (m : List Int) : List Bool × Int := if ∀ x ∈ m, 0 ≤ x ∧ x < l.length then (putB l (m.map Int.toNat), 0) else ([], 5)
/-- the words of the first ones -/
def wordsTo (l : List Nat) (m : List Int) (i : Nat) : List (List Bool) := (m.take i).map fun x => wordB l x.toNat
theorem wordsTo_succ (l : List Nat) (m : List Int) (i s : Nat) (h : m[i]? = some (s : Int)) : wordsTo l m (i + 1) = wordsTo l m i ++ [wordB l s] := by
  unfold wordsTo
  rw [List.take_add_one, h]
  simp
theorem length_wordsTo (l : List Nat) (m : List Int) (i : Nat) (h : i ≤ m.length) : (wordsTo l m i).length = i := by simp [wordsTo]; omega
theorem wordsTo_all (l : List Nat) (m : List Int) : (wordsTo l m m.length).flatten = putB l (m.map Int.toNat) := by
  unfold wordsTo putB
  rw [List.take_length, List.flatMap_def, List.map_map]
  rfl

set_option maxRecDepth 100000 in
set_option maxHeartbeats 3200000 in
theorem cput_any (w : World) (v1 v2 : Value) (l : List Nat) (m : List Int) (hv : IsInts w w.heap.size v1 (ints l)) (hl : Code l) (hv2 : IsInts w w.heap.size v2 m) (hm : m.length ≤ 1000000) (hr : I64s m) :
    Calls Try.prog 18 #[v1, v2] w fun e w' => e = .returned (.tuple #[.agg #[.string (txt (codePut l m).1), .int .i64 ((codePut l m).1.length : Nat)], .int .i64 (codePut l m).2]) ∧ Below w.heap.size w w' := by
  obtain ⟨A, ca, rfl, hc1, hc2⟩ := hv.shape
  obtain ⟨A2, ca2, rfl, hc3, hc4⟩ := hv2.shape
  have hli := length_ints l
  obtain ⟨N, hN⟩ : ∃ N, l.length = N := ⟨_, rfl⟩
  obtain ⟨M, hM⟩ : ∃ M, m.length = M := ⟨_, rfl⟩
  have CW : Hid (∀ W, Below w.heap.size w W → Calls Try.prog 30 #[.slice A (ints l).length ca] W fun e w' => ∃ u, e = .returned (.tuple #[u, .int .i64 0]) ∧ IsWords w' u l ∧ Below W.heap.size W w') := fun W hB => words_ok W _ l (ints_up hv hB) hl
  rw [hM] at hm hc3 hv2 ⊢
  rw [hli, hN] at CW hc1 ⊢
  have hN258 : N ≤ 258 := by rw [← hN]; exact hl.most
  have hmk := run_make_bits M hm
  have Hmk := Lib.hid hmk
  have Hv2 := Lib.hid hv2
  have HN := Lib.hid hN
  have HM := Lib.hid hM
  have Hlc := Lib.hid hl
  have Hr := Lib.hid hr
  clear hv hv2 hN hl hli hmk hr hM
  go_enter Try.func18, Try.ntmps18
  go_wp2_with fail
  refine (CW.out _ ((Below.refl _ w).alloc (Nat.le_refl _) _)).mono ?_
  rintro e w1 ⟨_, rfl, ⟨g, cg, rfl, hg⟩, hB1⟩
  have E1 := Lib.hid (((Env.nil w).box #[.string ⟨#[]⟩, .int .i64 0] 41 w.heap.size rfl).fresh hB1 hg)
  rw [HN.out]
  clear hB1 CW hg
  have hmk := Hmk.out
  go_wp2_with fail
  obtain ⟨mb, hmb⟩ : ∃ mb, w1.heap.size = mb := ⟨_, rfl⟩
  have E2 := Lib.hid (E1.out.box (outP [] M) 41 mb hmb.symm)
  have g1 := E1.out.lt 0 rfl
  have g2 := E1.out.lt 1 rfl
  have g3 := E1.out.size
  rw [hmb] at g1 g2 g3 ⊢
  have n1 : ¬ g = mb := by omega
  have n2 : ¬ mb = g := by omega
  clear hmk Hmk E1 hmb
  go_loopw [25] (fun iv wr => ∃ i : Nat, i ≤ M ∧ iv = .int .i64 i ∧ (∀ x ∈ m.take i, 0 ≤ x ∧ x < l.length) ∧ Env w wr [] [(mb, outP (wordsTo l m i) M, 41), (g, outC l fun _ => true, 61), (w.heap.size, #[.string ⟨#[]⟩, .int .i64 0], 41)]) (fun iv _ => M + 1 - (intOf iv).toNat)
  case atStart => exact ⟨0, Nat.zero_le _, rfl, fun x hx => by simp at hx, E2.out⟩
  case round =>
    obtain ⟨i, hi, rfl, hgood, hE⟩ := hrel
    have HE := Lib.hid hE
    have Hgood := Lib.hid hgood
    have hlw := length_wordsTo l m i (by rw [HM.out]; exact hi)
    have b0 := HE.out.cellv 2 rfl 0 _ rfl
    have b1 := HE.out.cellv 2 rfl 1 _ rfl
    have fb0 := HE.out.frozen 2 rfl 0
    have fb1 := HE.out.frozen 2 rfl 1
    have hbl := HE.out.lt 2 rfl
    clear hE hgood E2
    by_cases hit : i < M
    · have hv2 := HE.out.old Hv2.out
      obtain ⟨g4, o4, rfl, hg4, hx⟩ := hv2.at i (by rw [HM.out]; exact hit)
      obtain ⟨x, hxm⟩ : ∃ x, m[i]? = some x := ⟨_, List.getElem?_eq_getElem (by rw [HM.out]; exact hit)⟩
      rw [hxm, Option.getD_some] at hx
      have hrx := Hr.out x (List.mem_of_getElem? hxm)
      clear hv2
      by_cases hbad : 0 ≤ x ∧ x < N
      · obtain ⟨s, rfl⟩ : ∃ s : Nat, x = s := ⟨x.toNat, by omega⟩
        have hsN : s < N := by omega
        obtain ⟨n, hn⟩ : ∃ n, l[s]? = some n := ⟨_, List.getElem?_eq_getElem (by rw [HN.out]; exact hsN)⟩
        have hn20 := Hlc.out.fits n (List.mem_of_getElem? hn)
        have hvlt := wordV_lt Hlc.out hn
        have hp20 : 2 ^ n ≤ 2 ^ 20 := Nat.pow_le_pow_right (by omega) hn20.2
        have h20 : (2 : Nat) ^ 20 = 1048576 := by decide
        have CP : Hid (∀ W, Calls Try.prog 31 #[.agg #[.string ⟨#[]⟩, .int .i64 0], .int .u64 (wordV l s : Nat), .int .i64 (n : Nat)] W fun e w' => e = .returned (.tuple #[.agg #[.string (txt (wordB l s)), .int .i64 ((wordB l s).length : Nat)], .int .i64 0]) ∧ Below W.heap.size W w') := fun W =>
          put_nil W (wordV l s) n (wordB l s) (by unfold wordB; rw [hn]; rfl) (by omega) (by omega)
        have Kc : Hid (∀ {W : World}, Env w W [] [(mb, outP (wordsTo l m i) M, 41), (g, outC l fun _ => true, 61), (w.heap.size, #[.string ⟨#[]⟩, .int .i64 0], 41)] → W.cell? ⟨g, s * 2, none⟩ = some (.int .i64 (n : Nat))) := fun h => by
          refine h.cellv 1 rfl (s * 2) _ ?_
          rw [outC_get _ _ _ (by rw [HN.out]; omega)]
          unfold wcell
          rw [if_pos (by omega), show s * 2 / 2 = s by omega, hn]
          rfl
        have Kd : Hid (∀ {W : World}, Env w W [] [(mb, outP (wordsTo l m i) M, 41), (g, outC l fun _ => true, 61), (w.heap.size, #[.string ⟨#[]⟩, .int .i64 0], 41)] → W.cell? ⟨g, s * 2 + 1, none⟩ = some (.int .u64 (wordV l s : Nat))) := fun h => by
          refine h.cellv 1 rfl (s * 2 + 1) _ ?_
          rw [outC_get _ _ _ (by rw [HN.out]; omega)]
          unfold wcell
          rw [if_neg (by omega), show (s * 2 + 1) / 2 = s by omega]
          rfl
        have hset := outP_set (wordsTo l m i) (wordB l s) M i hit hlw
        rw [← wordsTo_succ l m i s hxm] at hset
        have Hset := Lib.hid hset
        have Hnx : Hid (∀ x ∈ m.take (i + 1), 0 ≤ x ∧ x < l.length) := fun x hx => by
          rw [List.take_add_one, hxm, List.mem_append] at hx
          rcases hx with hx | hx
          · exact Hgood.out x hx
          · simp at hx
            rw [HN.out]
            omega
        have k0 := Kc.out HE.out
        have k1 := Kd.out HE.out
        clear hxm hrx hbad hn hvlt hp20 h20 hset hlw Hgood
        obtain ⟨v, hv⟩ : ∃ v, wordV l s = v := ⟨_, rfl⟩
        rw [hv] at k1 CP Kd
        generalize hwB : wordB l s = wB at *
        clear hv hwB
        go_wp2_with fail
        refine wp_region_noPanic ?_
        refine wp_region_held_drew (S := (fun w' => w'.cell? ⟨g, s * 2, none⟩ = some (.int .i64 (n : Nat)) ∧ w'.cell? ⟨g, s * 2 + 1, none⟩ = some (.int .u64 (v : Nat)))) (by kernel_rfl) ?_ (fun hHeld => ?_)
        · (refine ⟨?_, ?_⟩ <;> (go_simp; try assumption))
        refine held_yes (v := ?_) 0 (by simp only [List.getElem?_toArray, List.getElem?_cons_zero]; rfl) (by kernel_rfl) (fun _ _ _ h => h) (by rfl) (by assumption) ?_ ?_
        rotate_left
        · (intro w hSw; (try dsimp only at hSw); go_simp; try with_reducible rfl)
        try simp only [Act.put, List.setIfInBounds_toArray, List.set_cons_zero, List.set_cons_succ]
        refine held_yes (v := ?_) 1 (by simp only [List.getElem?_toArray, List.getElem?_cons_succ, List.getElem?_cons_zero]; rfl) (by kernel_rfl) (fun _ _ _ h => h) (by rfl) (by assumption) ?_ ?_
        rotate_left
        · (intro w hSw; (try dsimp only at hSw); go_simp; try with_reducible rfl)
        try simp only [Act.put, List.setIfInBounds_toArray, List.set_cons_zero, List.set_cons_succ]
        refine held_yes (v := ?_) 2 (by simp only [List.getElem?_toArray, List.getElem?_cons_succ, List.getElem?_cons_zero]; rfl) (by kernel_rfl) (fun _ _ _ h => h) (by rfl) (by assumption) ?_ ?_
        rotate_left
        · (intro w hSw; (try dsimp only at hSw); go_simp; try with_reducible rfl)
        try simp only [Act.put, List.setIfInBounds_toArray, List.set_cons_zero, List.set_cons_succ]
        refine held_yes (v := ?_) 3 (by simp only [List.getElem?_toArray, List.getElem?_cons_succ, List.getElem?_cons_zero]; rfl) (by kernel_rfl) (fun _ _ _ h => h) (by rfl) (by assumption) ?_ ?_
        rotate_left
        · (intro w hSw; (try dsimp only at hSw); go_simp; try with_reducible rfl)
        try simp only [Act.put, List.setIfInBounds_toArray, List.set_cons_zero, List.set_cons_succ]
        refine held_yes (v := ?_) 4 (by simp only [List.getElem?_toArray, List.getElem?_cons_succ, List.getElem?_cons_zero]; rfl) (by kernel_rfl) (fun _ _ _ h => h) (by rfl) (by assumption) ?_ ?_
        rotate_left
        · (intro w hSw; (try dsimp only at hSw); go_simp; try with_reducible rfl)
        try simp only [Act.put, List.setIfInBounds_toArray, List.set_cons_zero, List.set_cons_succ]
        refine held_yes (v := ?_) 5 (by simp only [List.getElem?_toArray, List.getElem?_cons_succ, List.getElem?_cons_zero]; rfl) (by kernel_rfl) (fun _ _ _ h => h) (by rfl) (by assumption) ?_ ?_
        rotate_left
        · (intro w hSw; (try dsimp only at hSw); go_simp; try with_reducible rfl)
        try simp only [Act.put, List.setIfInBounds_toArray, List.set_cons_zero, List.set_cons_succ]
        refine held_yes (v := ?_) 6 (by simp only [List.getElem?_toArray, List.getElem?_cons_succ, List.getElem?_cons_zero]; rfl) (by kernel_rfl) (fun _ _ _ h => h) (by rfl) (by assumption) ?_ ?_
        rotate_left
        · (intro w hSw; (try dsimp only at hSw); go_simp; try with_reducible rfl)
        try simp only [Act.put, List.setIfInBounds_toArray, List.set_cons_zero, List.set_cons_succ]
        refine held_yes (v := ?_) 7 (by simp only [List.getElem?_toArray, List.getElem?_cons_succ, List.getElem?_cons_zero]; rfl) (by kernel_rfl) (fun _ _ _ h => h) (by rfl) (by assumption) ?_ ?_
        rotate_left
        · (intro w hSw; (try dsimp only at hSw); go_simp; try with_reducible rfl)
        try simp only [Act.put, List.setIfInBounds_toArray, List.set_cons_zero, List.set_cons_succ]
        refine held_yes (v := ?_) 8 (by simp only [List.getElem?_toArray, List.getElem?_cons_succ, List.getElem?_cons_zero]; rfl) (by kernel_rfl) (fun _ _ _ h => h) (by rfl) (by assumption) ?_ ?_
        rotate_left
        · (intro w hSw; (try dsimp only at hSw); go_simp; try with_reducible rfl)
        try simp only [Act.put, List.setIfInBounds_toArray, List.set_cons_zero, List.set_cons_succ]
        refine held_yes (v := ?_) 9 (by simp only [List.getElem?_toArray, List.getElem?_cons_succ, List.getElem?_cons_zero]; rfl) (by kernel_rfl) (fun _ _ _ h => h) (by rfl) (by assumption) ?_ ?_
        rotate_left
        · (intro w hSw; (try dsimp only at hSw); go_simp; try with_reducible rfl)
        try simp only [Act.put, List.setIfInBounds_toArray, List.set_cons_zero, List.set_cons_succ]
        refine held_yes (v := ?_) 10 (by simp only [List.getElem?_toArray, List.getElem?_cons_succ, List.getElem?_cons_zero]; rfl) (by kernel_rfl) (fun _ _ _ h => h) (by rfl) (by assumption) ?_ ?_
        rotate_left
        · (intro w hSw; (try dsimp only at hSw); go_simp; try with_reducible rfl)
        try simp only [Act.put, List.setIfInBounds_toArray, List.set_cons_zero, List.set_cons_succ]
        refine held_yes (v := ?_) 11 (by simp only [List.getElem?_toArray, List.getElem?_cons_succ, List.getElem?_cons_zero]; rfl) (by kernel_rfl) (fun _ _ _ h => h) (by rfl) (by assumption) ?_ ?_
        rotate_left
        · (intro w hSw; (try dsimp only at hSw); go_simp; try with_reducible rfl)
        try simp only [Act.put, List.setIfInBounds_toArray, List.set_cons_zero, List.set_cons_succ]
        refine held_yes (v := ?_) 12 (by simp only [List.getElem?_toArray, List.getElem?_cons_succ, List.getElem?_cons_zero]; rfl) (by kernel_rfl) (fun _ _ _ h => h) (by rfl) (by assumption) ?_ ?_
        rotate_left
        · (intro w hSw; (try dsimp only at hSw); go_simp; try with_reducible rfl)
        try simp only [Act.put, List.setIfInBounds_toArray, List.set_cons_zero, List.set_cons_succ]
        refine held_one 13 (by simp only [List.getElem?_toArray, List.getElem?_cons_succ, List.getElem?_cons_zero]; rfl) (by kernel_rfl) (by rfl) (fun K hK => ?_)
        go_simp
        go_at_call 31
        refine (CP.out _).mono ?_
        rintro e w8 ⟨rfl, hB8⟩
        have E8 := Lib.hid (HE.out.drew.step hB8)
        clear hB8
        have k0 := Kc.out E8.out
        have k1 := Kd.out E8.out
        have c0 := E8.out.cellv 0 rfl (i * 2) _ (outP_get _ _ _ (by omega))
        have c1 := E8.out.cellv 0 rfl (i * 2 + 1) _ (outP_get _ _ _ (by omega))
        have f0 := E8.out.frozen 0 rfl (i * 2)
        have f1 := E8.out.frozen 0 rfl (i * 2 + 1)
        have hml := E8.out.lt 0 rfl
        refine hK.out _ _ ?_ (fun hHeld => ?_)
        · (refine ⟨?_, ?_⟩ <;> (go_simp; try assumption))
        clear hK K
        try simp only [Act.put, List.setIfInBounds_toArray, List.set_cons_zero, List.set_cons_succ]
        refine held_yes (v := ?_) 14 (by simp only [List.getElem?_toArray, List.getElem?_cons_succ, List.getElem?_cons_zero]; rfl) (by kernel_rfl) (fun _ _ _ h => h) (by rfl) (by assumption) ?_ ?_
        rotate_left
        · (intro w hSw; (try dsimp only at hSw); go_simp; try with_reducible rfl)
        try simp only [Act.put, List.setIfInBounds_toArray, List.set_cons_zero, List.set_cons_succ]
        refine held_yes (v := ?_) 15 (by simp only [List.getElem?_toArray, List.getElem?_cons_succ, List.getElem?_cons_zero]; rfl) (by kernel_rfl) (fun _ _ _ h => h) (by rfl) (by assumption) ?_ ?_
        rotate_left
        · (intro w hSw; (try dsimp only at hSw); go_simp; try with_reducible rfl)
        try simp only [Act.put, List.setIfInBounds_toArray, List.set_cons_zero, List.set_cons_succ]
        refine held_yes (v := ?_) 16 (by simp only [List.getElem?_toArray, List.getElem?_cons_succ, List.getElem?_cons_zero]; rfl) (by kernel_rfl) (fun _ _ _ h => h) (by rfl) (by assumption) ?_ ?_
        rotate_left
        · (intro w hSw; (try dsimp only at hSw); go_simp; try with_reducible rfl)
        try simp only [Act.put, List.setIfInBounds_toArray, List.set_cons_zero, List.set_cons_succ]
        refine held_yes (v := ?_) 17 (by simp only [List.getElem?_toArray, List.getElem?_cons_succ, List.getElem?_cons_zero]; rfl) (by kernel_rfl) (fun _ _ _ h => h) (by rfl) (by assumption) ?_ ?_
        rotate_left
        · (intro w hSw; (try dsimp only at hSw); go_simp; try with_reducible rfl)
        try simp only [Act.put, List.setIfInBounds_toArray, List.set_cons_zero, List.set_cons_succ]
        refine held_one 18 (by simp only [List.getElem?_toArray, List.getElem?_cons_succ, List.getElem?_cons_zero]; rfl) (by kernel_rfl) (by rfl) (fun K hK => ?_)
        go_simp
        skip
        refine hK.out _ _ ?_ (fun hHeld => ?_)
        · (refine ⟨?_, ?_⟩ <;> (go_simp; try assumption))
        clear hK K
        try simp only [Act.put, List.setIfInBounds_toArray, List.set_cons_zero, List.set_cons_succ]
        refine wpAnyH_done (by kernel_rfl) ?_ _
        refine NoPanic.normal ?_
        go_wp2_with fail
        go_roundw
        case rel => exact ⟨i + 1, by omega, by go_num, Hnx.out, by
          have h2 := (E8.out.place (by omega) (fun p hp => by simp at hp; rcases hp with rfl | rfl <;> simp <;> omega) (i * 2) (.string (txt wB))).place (by omega) (fun p hp => by simp at hp; rcases hp with rfl | rfl <;> simp <;> omega) (i * 2 + 1) (.int .i64 ((wB.length : Nat) : Int))
          rw [Hset.out] at h2
          exact h2⟩
        case measure => simp [intOf]; omega
      · have hno : Hid (codePut l m = ([], 5)) := by
          show _ = _
          unfold codePut
          rw [if_neg]
          intro h
          have := h x (List.mem_of_getElem? hxm)
          rw [HN.out] at this
          exact hbad this
        clear hxm hlw Hgood
        by_cases hx0 : x < 0
        · clear hbad
          go_wp2_with fail
          refine bodyPost_ret (results_cell_tmp rfl _ _ _ ⟨w.heap.size, 0, none⟩ _ rfl (loadVar_bits _ _ _ _ (heap_set2 (HE.out.blk 2 rfl) _ _))) rfl ?_
          exact ⟨by rw [hno.out]; rfl, (HE.out.bel.setCell (p := ⟨w.heap.size, 0, none⟩) (Nat.le_refl _) _).setCell (p := ⟨w.heap.size, 1, none⟩) (Nat.le_refl _) _⟩
        · have hxN : (N : Int) ≤ x := by omega
          clear hbad
          go_wp2_with fail
          refine bodyPost_ret (results_cell_tmp rfl _ _ _ ⟨w.heap.size, 0, none⟩ _ rfl (loadVar_bits _ _ _ _ (heap_set2 (HE.out.blk 2 rfl) _ _))) rfl ?_
          exact ⟨by rw [hno.out]; rfl, (HE.out.bel.setCell (p := ⟨w.heap.size, 0, none⟩) (Nat.le_refl _) _).setCell (p := ⟨w.heap.size, 1, none⟩) (Nat.le_refl _) _⟩
    · obtain rfl : i = M := by omega
      have hyes : Hid (codePut l m = (putB l (m.map Int.toNat), 0)) := by
        show _ = _
        unfold codePut
        rw [if_pos]
        have := Hgood.out
        rw [← HM.out, List.take_length] at this
        exact this
      have hlp := length_putB_le Hlc.out.fits (m.map Int.toNat)
      rw [List.length_map, HM.out] at hlp
      have hpr := pairs_of_heap (HE.out.blk 0 rfl) hlw (Nat.le_trans hm (by decide))
      have CC : Hid (Calls Try.prog 32 #[.slice (some ⟨mb, 0, none⟩) i i] wr fun e w' =>
        e = .returned (.tuple #[.agg #[.string (txt (putB l (m.map Int.toNat))), .int .i64 ((putB l (m.map Int.toNat)).length : Nat)], .int .i64 0]) ∧ Below wr.heap.size wr w') :=
        cat_is wr _ (wordsTo l m i) _ (by rw [← HM.out]; exact wordsTo_all l m) hpr (by rw [hlw]; omega)
      clear hpr hlw Hgood hlp
      generalize putB l (m.map Int.toNat) = r at *
      go_wp2_with fail
      refine CC.out.mono ?_
      rintro e w8 ⟨rfl, hB8⟩
      have E8 := Lib.hid (HE.out.step hB8)
      have c0 := E8.out.cellv 2 rfl 0 _ rfl
      have c1 := E8.out.cellv 2 rfl 1 _ rfl
      have d0 := E8.out.frozen 2 rfl 0
      have d1 := E8.out.frozen 2 rfl 1
      have dl := E8.out.lt 2 rfl
      clear hB8 CC
      go_wp2_with fail
      refine bodyPost_ret (results_cell_tmp rfl _ _ _ ⟨w.heap.size, 0, none⟩ _ rfl (loadVar_bits _ _ _ _ (heap_set2 (E8.out.blk 2 rfl) _ _))) rfl ?_
      exact ⟨by rw [hyes.out]; rfl, (E8.out.bel.setCell (p := ⟨w.heap.size, 0, none⟩) (Nat.le_refl _) _).setCell (p := ⟨w.heap.size, 1, none⟩) (Nat.le_refl _) _⟩

set_option maxRecDepth 100000 in
set_option maxHeartbeats 1600000 in
theorem cput_er (w : World) (v1 v2 : Value) (l : List Int) (hv : IsInts w w.heap.size v1 l) (hl : l.length ≤ 1000000) (hc : checkF l ≠ 0) :
    Calls Try.prog 18 #[v1, v2] w fun e w' => e = .returned (.tuple #[.agg #[.string (txt []), .int .i64 (([] : List Bool).length : Nat)], .int .i64 (checkF l)]) ∧ Below w.heap.size w w' := by
  have CW : Hid (∀ W, Below w.heap.size w W → Calls Try.prog 30 #[v1] W fun e w' => e = .returned (.tuple #[.slice none 0 0, .int .i64 (checkF l)]) ∧ Below W.heap.size W w') := fun W hB => words_er W _ l (ints_up hv hB) hl hc
  obtain ⟨A, ca, rfl, hc1, hc2⟩ := hv.shape
  generalize checkF l = z at *
  have hz : (z != 0) = true := by rw [bne_iff_ne]; exact hc
  clear hv hc
  go_enter Try.func18, Try.ntmps18
  go_wp2_with fail
  refine (CW.out _ ((Below.refl _ w).alloc (Nat.le_refl _) _)).mono ?_
  rintro e w1 ⟨rfl, hB1⟩
  have E1 := Lib.hid (((Env.nil w).box #[.string ⟨#[]⟩, .int .i64 0] 41 w.heap.size rfl).step hB1)
  have c0 := E1.out.cellv 0 rfl 0 _ rfl
  have c1 := E1.out.cellv 0 rfl 1 _ rfl
  have d0 := E1.out.frozen 0 rfl 0
  have d1 := E1.out.frozen 0 rfl 1
  have dl := E1.out.lt 0 rfl
  clear hB1 CW
  go_wp2_with fail
  refine bodyPost_ret (results_cell_tmp rfl _ _ _ ⟨w.heap.size, 0, none⟩ _ rfl (loadVar_bits _ _ _ _ (heap_set2 (E1.out.blk 0 rfl) _ _))) rfl ?_
  exact ⟨by rfl, (E1.out.bel.setCell (p := ⟨w.heap.size, 0, none⟩) (Nat.le_refl _) _).setCell (p := ⟨w.heap.size, 1, none⟩) (Nat.le_refl _) _⟩
end Go.Proofs.Ytodniacnjdnffaa
/- ChooseGroups's plain law; code.Put of symbols that are a code's. -/
namespace Go.Proofs.Ytodniacnjdnffaa
open Go.RowKit
set_option linter.unusedVariables false

theorem cput_nat (w : World) (v1 v2 : Value) (l m : List Nat) (r : List Bool) (hr : putB l m = r) (hv : IsInts w w.heap.size v1 (ints l)) (hl : Code l) (hv2 : IsInts w w.heap.size v2 (ints m)) (hm : m.length ≤ 1000000) (hs : ∀ x ∈ m, x < l.length) :
    Calls Try.prog 18 #[v1, v2] w fun e w' => e = .returned (.tuple #[.agg #[.string (txt r), .int .i64 (r.length : Nat)], .int .i64 0]) ∧ Below w.heap.size w w' := by
  have hx := hl.most
  have h := cput_any w v1 v2 l (ints m) hv hl hv2 (by rw [length_ints]; omega) (by
    intro x hx
    simp only [ints, List.mem_map] at hx
    obtain ⟨y, hy, rfl⟩ := hx
    have := hs y hy
    omega)
  have e : codePut l (ints m) = (r, 0) := by
    unfold codePut
    rw [if_pos, ints_toNat, hr]
    intro x hx
    simp only [ints, List.mem_map] at hx
    obtain ⟨y, hy, rfl⟩ := hx
    have := hs y hy
    omega
  rw [e] at h
  exact h
theorem take_grN (m : List Nat) (i : Nat) : m.take (10 * (i + 1)) = m.take (10 * i) ++ grN m i := by
  unfold grN
  rw [show 10 * (i + 1) = 10 * i + 10 by omega]
  have h := (List.take_append_drop (10 * i) (m.take (10 * i + 10))).symm
  rw [List.take_take, show min (10 * i) (10 * i + 10) = 10 * i by omega] at h
  exact h
theorem bitsN_append (l a b : List Nat) : bitsN l (a ++ b) = bitsN l a + bitsN l b := by simp [bitsN]
theorem length_putB (l m : List Nat) : (putB l m).length = bitsN l m := by
  induction m with
  | nil => rfl
  | cons s m ih =>
    have e : putB l (s :: m) = wordB l s ++ putB l m := by simp [putB]
    rw [e, List.length_append, length_wordB, ih]
    simp [bitsN]
theorem length_grN_is (m : List Nat) (i : Nat) : (grN m i).length = min (10 * i + 10) m.length - 10 * i := by simp [grN]
end Go.Proofs.Ytodniacnjdnffaa
