/- slices.Chunk at ints, by tens: the iterator's contract. -/
import Derived.Test.YtodniacnjdnffaaRange
import Derived.Test.YtodniacnjdnffaaEnvK
import Derived.Sort.QuietIn
import Derived.LoopNIn
namespace Go.Proofs.Ytodniacnjdnffaa
open Go.RowKit Go.Shelf
attribute [local go_sem] Oper.semAt_some
set_option linter.unusedVariables false

/-- how many groups, and each one -/
def cntG (n : Nat) : Nat := (n + 9) / 10
def grp (m : List Int) (i : Nat) : List Int := (m.take (10 * i + 10)).drop (10 * i)
theorem length_grp (m : List Int) (i : Nat) : (grp m i).length = min (10 * i + 10) m.length - 10 * i := by simp [grp]
abbrev Ch := Nat × Value
def chE (x : Ch) : Array Value := #[x.2]
def ChOk (m : List Int) (lo : Nat) (x : Ch) (W : World) : Prop := x.1 < cntG m.length ∧ IsInts W W.heap.size x.2 (grp m x.1) ∧ ∃ q, x.2 = .slice q (grp m x.1).length (grp m x.1).length
/-- a part of ints, of three indexes -/
theorem IsInts.cut3 {w : World} {B n cap : Nat} {A : Option Addr} {xs : List Int} (hv : IsInts w B (.slice A n cap) xs) (l h : Nat) (h1 : l < h) (h2 : h ≤ n) :
    ∃ q, IsInts w B (.slice q (h - l) (h - l)) ((xs.take h).drop l) ∧ ∀ W, (Instr.slice 22 (.slice A n cap) (some (.int .i64 (l : Int))) (some (.int .i64 (h : Int))) (some (.int .i64 (h : Int)))).run Try.prog W = .ok (.slice q (h - l) (h - l)) W := by
  obtain ⟨q, c, e, hc1, hc2⟩ := hv.shape
  injection e with e1 e2 e3
  subst e1 e2 e3
  have hr := Rd.cut (l := l) (h := h) (show Rd w B 1 (.slice A xs.length cap) xs.length (intCells xs) from hv) (by omega) h2
  have e5 : ((intCells xs).take (h * 1)).drop (l * 1) = intCells ((xs.take h).drop l) := by simp [intCells]
  have e6 : ((xs.take h).drop l).length = h - l := by rw [List.length_drop, List.length_take]; omega
  rw [e5] at hr
  obtain ⟨r1, A', cap', r2, r3, r4, r5⟩ := hr
  unfold sliced at r2
  rw [if_neg (show ¬ cap = l by omega)] at r2
  injection r2 with r21 r22 r23
  subst r21
  refine ⟨A.map (·.add (l * 1)), ?_, fun W => ?_⟩
  · unfold IsInts
    rw [e6]
    exact ⟨r1, _, _, rfl, Nat.le_refl _, by omega, r5⟩
  · rw [run_slice_lhm W _ _ _ _ under_ints _ _ _ _ _ _ (by omega) (by omega) (by omega) (by omega), elem_ints, sizeOf_int]
    simp only [sliced, Int.toNat_natCast, Result.andThen_ok]
    rw [if_neg (show ¬ h = l by omega)]
theorem IsInts.keepC {bad : Nat → Prop} {W W' : World} {lo : Nat} {v : Value} {m : List Int} (h : IsInts W lo v m) (hb : ∀ k, bad k → lo ≤ k) (hk : KeepC bad W W') : IsInts W' lo v m := by
  obtain ⟨h1, A, cap, h2, h3, h4, h5⟩ := h
  exact ⟨h1, A, cap, h2, h3, h4, fun hn => by
    obtain ⟨g, o, e, hg, hc⟩ := h5 hn
    exact ⟨g, o, e, hg, fun i x hx => hk.cell (fun hb' => by have := hb g hb'; omega) (hc i x hx)⟩⟩
theorem grp_is (m : List Int) (k i H : Nat) (hi : 10 * k = i) (hH : H = min (10 * k + 10) m.length) : (m.take H).drop i = grp m k := by
  subst hi hH
  unfold grp
  congr 1
  rcases Nat.le_total (10 * k + 10) m.length with h | h
  · rw [Nat.min_eq_left h]
  · rw [Nat.min_eq_right h, List.take_length, List.take_of_length_le h]
theorem cntG_lt (n k : Nat) : 10 * k < n ↔ k < cntG n := by unfold cntG; omega

theorem chunk_any (w : World) (A : Option Addr) (n c : Nat) :
    Calls Try.prog 26 #[.slice A n c, .int .i64 10] w fun e w' => e = .returned (.func (.func 39) #[] #[.pointer (some ⟨w.heap.size, 0, none⟩), .pointer (some ⟨w.heap.size + 1, 0, none⟩)]) ∧ (w.alloc (.cells #[.slice A n c] 22)).alloc (.cells #[.int .i64 10] 3) = w' := by
  have hmf := hmf
  go_enter Try.func26, Try.ntmps26
  go_wp2
  go_ret
  exact ⟨rfl, rfl⟩
theorem enters_chunk : Enters Try.prog 39 := enters_of Try.func39 (by kernel_rfl) rfl

set_option maxRecDepth 100000 in
set_option maxHeartbeats 4000000 in
theorem chunk_in (n : Nat) (hn : 3 ≤ n) (y b1 b2 lo : Nat) (m : List Int) (hm : m.length ≤ 1000000) (bad : Nat → Prop) (J Jx : List Ch → World → Prop) (v : Value) (W : World) (hvW : IsInts W lo v m) (hb1 : W.cell? ⟨b1, 0, none⟩ = some v) (hb2 : W.cell? ⟨b2, 0, none⟩ = some (.int .i64 10))
    (hbad : ∀ k, bad k → lo ≤ k ∧ k ≠ b1 ∧ k ≠ b2) (hlo : lo ≤ W.heap.size)
    (hJ : ∀ s A C, J s A → Below A.heap.size A C → J s C)
    (hY : ∀ pre x W1, J pre W1 → pre.length < cntG m.length → ChOk m lo x W1 → YieldAt Fence.wide (n - 1) Try.prog y (chE x) W1 fun e W' => (e = .returned (.bool true) ∧ J (pre ++ [x]) W' ∧ KeepC bad W1 W' ∧ W1.heap.size ≤ W'.heap.size) ∨ (e = .returned (.bool false) ∧ Jx (pre ++ [x]) W'))
    (h0 : J [] W) :
    CallsIn Fence.wide n Try.prog 39 #[.func (.yield y) #[] #[], .pointer (some ⟨b1, 0, none⟩), .pointer (some ⟨b2, 0, none⟩)] W fun e W' => (∃ v, e = .returned v) ∧ ((∃ xs, xs.map (·.1) = List.range (cntG m.length) ∧ J xs W') ∨ (∃ pre, True ∧ Jx pre W')) := by
  obtain ⟨A, ca, rfl, hc1, hc2⟩ := hvW.shape
  obtain ⟨N, hN⟩ : ∃ N, m.length = N := ⟨_, rfl⟩
  rw [hN] at hvW hb1 hc1 hm
  have HN := Lib.hid hN
  have Hv := Lib.hid hvW
  have Hb1 := Lib.hid hb1
  have Hb2 := Lib.hid hb2
  have Hbad := Lib.hid hbad
  have HJ := Lib.hid hJ
  have HY := Lib.hid hY
  rw [hN]
  rw [hN] at HY
  clear hvW hb1 hb2 hbad hJ hY hN
  refine callsIn_of_wp Try.func39 rfl trivial ?_ rfl
  simp only [Try.ntmps39, List.size_toArray, List.length_cons, List.length_nil, Nat.reduceAdd, Nat.reduceSub, Array.replicate_succ, Array.replicate_zero, List.push_toArray, List.append_toArray, List.nil_append, List.cons_append]
  have h1n : 1 ≤ n := by omega
  gi_wp2_with fail
  gi_loopw [4] (fun iv wr => ∃ (k i : Nat) (pre : List Ch), Hid (10 * k = i) ∧ Hid (k ≤ cntG N) ∧ i ≤ N + 9 ∧ iv = .int .i64 i ∧ pre.map (·.1) = List.range k ∧ J pre wr ∧ KeepC bad W wr ∧ W.heap.size ≤ wr.heap.size) (fun iv _ => N + 20 - (intOf iv).toNat)
  case atStart => exact ⟨0, 0, [], rfl, Nat.zero_le _, by omega, rfl, rfl, h0, KeepC.refl _ _, Nat.le_refl _⟩
  case round =>
    obtain ⟨k, i, pre, HI, HKC, hi, rfl, hpre, hJ, hK, hsz⟩ := hrel
    have HPRE := Lib.hid hpre
    have k1 := hK.cell (b := b1) (fun h => (Hbad.out b1 h).2.1 rfl) Hb1.out
    have k2 := hK.cell (b := b2) (fun h => (Hbad.out b2 h).2.2 rfl) Hb2.out
    clear h0 hpre
    by_cases hlt : i < N
    · have hv := Hv.out.keepC (fun k h => (Hbad.out k h).1) hK
      obtain ⟨R, hR0⟩ : ∃ R, N - i = R := ⟨_, rfl⟩
      obtain ⟨v1, -, ⟨q1, d1, e1⟩, -, s1, -⟩ := hv.cut i N (by omega) (Nat.le_refl _)
      subst e1
      have s1 := s1 rfl
      rw [hR0] at s1
      have hik := HI.out
      have HK1 : Hid (k + 1 ≤ cntG N) := (cntG_lt N k).1 (by omega)
      have HLEN : Hid (pre.length < cntG N) := by
        have := congrArg List.length HPRE.out
        rw [List.length_map, List.length_range] at this
        show _ < _
        rw [this]
        exact (cntG_lt N k).1 (by omega)
      by_cases hfull : i + 10 ≤ N
      · have hR10 : 10 ≤ R := by omega
        clear hR0
        obtain ⟨q3, hq3, s3⟩ := hv.cut3 i (i + 10) (by omega) (by omega)
        have hg : (m.take (i + 10)).drop i = grp m k := grp_is m k i (i + 10) hik (by rw [HN.out]; omega)
        rw [hg] at hq3
        have hgl := length_grp m k
        rw [HN.out, hik] at hgl
        obtain ⟨E, hE⟩ : ∃ E, i + 10 - i = E := ⟨_, rfl⟩
        rw [hE] at hq3 s3
        have hok : ChOk m lo (k, .slice q3 E E) wr := ⟨by rw [HN.out]; exact (cntG_lt N k).1 (by omega), hq3.mono (by omega), q3, by rw [hgl, show min (i + 10) N - i = E by omega]⟩
        have HOK := Lib.hid hok
        rw [show ((i + 10 : Nat) : Int) = (i : Int) + 10 from by omega] at s3
        clear hok hg hgl hv hq3 hik hE
        gi_wp2_with fail
        gi_quiet (fail)
        have hJ2 := HJ.out pre wr (wr.drewN nq) hJ (below_drewN (Below.refl _ _) nq)
        have hok2 : ChOk m lo (k, .slice q3 E E) (wr.drewN nq) := ⟨HOK.out.1, HOK.out.2.1.below (below_drewN (Below.refl _ _) nq) (Nat.le_refl _), HOK.out.2.2⟩
        obtain ⟨fn, tmps, assign, body, hy, hR⟩ := HY.out pre (k, .slice q3 E E) (wr.drewN nq) hJ2 HLEN.out hok2
        simp only [chE] at hy
        clear hJ2 hok2 HOK
        gi_wp2_with fail
        refine hR.mono ?_
        rintro e W' (⟨rfl, hJ', hk', hz'⟩ | ⟨rfl, hJx'⟩)
        · have HK2 := Lib.hid ((hK.below (below_drewN (Below.refl _ _) nq)).trans hk')
          have k1 := HK2.out.cell (b := b1) (fun h => (Hbad.out b1 h).2.1 rfl) Hb1.out
          have k2 := HK2.out.cell (b := b2) (fun h => (Hbad.out b2 h).2.2 rfl) Hb2.out
          have HZ : Hid (W.heap.size ≤ W'.heap.size) := Nat.le_trans hsz hz'
          clear hR hy hk' hJ hK hz'
          gi_wp2_with fail
          go_roundw
          case rel => exact ⟨k + 1, i + 10, pre ++ [(k, .slice q3 E E)], by show _ = _; have := HI.out; omega, HK1, by omega, by go_num, by rw [List.map_append, HPRE.out, List.range_succ]; rfl, hJ', HK2.out, HZ.out⟩
          case measure => simp [intOf]; omega
        · clear hR hy hJ hK
          gi_wp2_with fail
          exact bodyPost_ret (results_none rfl _ _ _) rfl ⟨⟨_, rfl⟩, .inr ⟨_, trivial, hJx'⟩⟩
      · have hR10 : R < 10 := by omega
        have hwN : IntKind.i64.wrap ((i : Int) + (R : Int)) = (N : Int) := by rw [IntWalk.i64_in _ (by omega)]; omega
        clear hR0
        obtain ⟨q3, hq3, s3⟩ := hv.cut3 i (N) (by omega) (by omega)
        have hg : (m.take (N)).drop i = grp m k := grp_is m k i (N) hik (by rw [HN.out]; omega)
        rw [hg] at hq3
        have hgl := length_grp m k
        rw [HN.out, hik] at hgl
        obtain ⟨E, hE⟩ : ∃ E, N - i = E := ⟨_, rfl⟩
        rw [hE] at hq3 s3
        have hok : ChOk m lo (k, .slice q3 E E) wr := ⟨by rw [HN.out]; exact (cntG_lt N k).1 (by omega), hq3.mono (by omega), q3, by rw [hgl, show min (i + 10) N - i = E by omega]⟩
        have HOK := Lib.hid hok
        clear hok hg hgl hv hq3 hik hE
        gi_wp2_with fail
        gi_quiet (fail)
        have hJ2 := HJ.out pre wr (wr.drewN nq) hJ (below_drewN (Below.refl _ _) nq)
        have hok2 : ChOk m lo (k, .slice q3 E E) (wr.drewN nq) := ⟨HOK.out.1, HOK.out.2.1.below (below_drewN (Below.refl _ _) nq) (Nat.le_refl _), HOK.out.2.2⟩
        obtain ⟨fn, tmps, assign, body, hy, hR⟩ := HY.out pre (k, .slice q3 E E) (wr.drewN nq) hJ2 HLEN.out hok2
        simp only [chE] at hy
        clear hJ2 hok2 HOK
        gi_wp2_with fail
        refine hR.mono ?_
        rintro e W' (⟨rfl, hJ', hk', hz'⟩ | ⟨rfl, hJx'⟩)
        · have HK2 := Lib.hid ((hK.below (below_drewN (Below.refl _ _) nq)).trans hk')
          have k1 := HK2.out.cell (b := b1) (fun h => (Hbad.out b1 h).2.1 rfl) Hb1.out
          have k2 := HK2.out.cell (b := b2) (fun h => (Hbad.out b2 h).2.2 rfl) Hb2.out
          have HZ : Hid (W.heap.size ≤ W'.heap.size) := Nat.le_trans hsz hz'
          clear hR hy hk' hJ hK hz'
          gi_wp2_with fail
          go_roundw
          case rel => exact ⟨k + 1, i + 10, pre ++ [(k, .slice q3 E E)], by show _ = _; have := HI.out; omega, HK1, by omega, by go_num, by rw [List.map_append, HPRE.out, List.range_succ]; rfl, hJ', HK2.out, HZ.out⟩
          case measure => simp [intOf]; omega
        · clear hR hy hJ hK
          gi_wp2_with fail
          exact bodyPost_ret (results_none rfl _ _ _) rfl ⟨⟨_, rfl⟩, .inr ⟨_, trivial, hJx'⟩⟩
    · have hk : k = cntG N := by
        have h1 := HI.out
        have h2 := HKC.out
        have h3 := (cntG_lt N k).2
        rcases Nat.lt_or_ge k (cntG N) with h | h
        · have := h3 h; omega
        · omega
      subst hk
      have hx := HPRE.out
      gi_wp2_with fail
      exact bodyPost_end (results_none rfl _ _ _) rfl ⟨⟨_, rfl⟩, .inl ⟨_, hx, hJ⟩⟩
theorem chunk_seq (n : Nat) (hn : 3 ≤ n) (b1 b2 lo : Nat) (m : List Int) (hm : m.length ≤ 1000000) (bad : Nat → Prop) (v : Value) (w0 : World) (hv : IsInts w0 lo v m) (hlo : lo ≤ w0.heap.size) (hb1 : w0.cell? ⟨b1, 0, none⟩ = some v) (hb2 : w0.cell? ⟨b2, 0, none⟩ = some (.int .i64 10))
    (hbad : ∀ k, bad k → lo ≤ k ∧ k ≠ b1 ∧ k ≠ b2) :
    SeqOk n 39 #[.pointer (some ⟨b1, 0, none⟩), .pointer (some ⟨b2, 0, none⟩)] chE (ChOk m lo) (KeepC bad) (fun xs => xs.map (·.1) = List.range (cntG m.length)) (fun _ => True) (cntG m.length) w0 :=
  fun y J Jx W hBW hJ hJx hY h0 => by
    have hl1 : b1 < w0.heap.size := by
      obtain ⟨cs, ty, fz, h1⟩ := cells_at hb1
      exact lt_of_heap h1
    have hl2 : b2 < w0.heap.size := by
      obtain ⟨cs, ty, fz, h1⟩ := cells_at hb2
      exact lt_of_heap h1
    exact chunk_in n hn y b1 b2 lo m hm bad J Jx v W (hv.below hBW hlo) ((hBW.cell (p := ⟨b1, 0, none⟩) hl1).trans hb1) ((hBW.cell (p := ⟨b2, 0, none⟩) hl2).trans hb2) hbad (Nat.le_trans hlo hBW.size) hJ hY h0
end Go.Proofs.Ytodniacnjdnffaa
