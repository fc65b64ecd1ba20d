/- All, Find and Match of the program: contracts. -/
import Derived.Test.YtbanageccecmnaaMagicWin
import Derived.Deep.QuietTactic
import Derived.BigQuiet
import Derived.RegionIn
namespace Go.Proofs.Ytbanageccecmnaa
open Go.RowKit Go.Shelf
attribute [local go_sem] Oper.semAt_some
set_option linter.unusedVariables false

/-- is a window's number the pattern -/
def hit (m : Nat) (n : Int) (x : Nat × Nat) : Bool := x.2 == m % 2 ^ n.toNat
/-- the windows of a text from a place on -/
def winsOf (s : List UInt8) (f n : Int) : List (Nat × Nat) := wins s f.toNat n.toNat (winCnt s.length f.toNat n)
/-- where a pattern stands -/
def sel (m : Nat) (n : Int) (l : List (Nat × Nat)) : List Int := (l.filter (hit m n)).map fun x => (x.1 : Int)
def allL (s : List UInt8) (m : Nat) (n : Int) : List Int := sel m n (winsOf s 0 n)
theorem sel_hit (m : Nat) (n : Int) (l : List (Nat × Nat)) (x : Nat × Nat) (h : hit m n x = true) : sel m n (l ++ [x]) = sel m n l ++ [(x.1 : Int)] := by simp [sel, h]
theorem sel_miss (m : Nat) (n : Int) (l : List (Nat × Nat)) (x : Nat × Nat) (h : hit m n x = false) : sel m n (l ++ [x]) = sel m n l := by simp [sel, h]
theorem sel_len (m : Nat) (n : Int) (l : List (Nat × Nat)) : (sel m n l).length ≤ l.length := by unfold sel; rw [List.length_map]; exact List.length_filter_le _ _
theorem and_low (m n : Nat) (hm : m < 18446744073709551616) (hn : n ≤ 64) : bits BinOp.and IntKind.u64 (m : Int) ((2 ^ n - 1 : Nat) : Int) = ((m % 2 ^ n : Nat) : Int) := by
  have h64 : 2 ^ n ≤ 2 ^ 64 := Nat.pow_le_pow_right (by omega) hn
  rw [u64_and_nat _ _ hm (by have := Nat.two_pow_pos n; omega), Nat.and_two_pow_sub_one_eq_mod]
theorem winCnt_pos {L f : Nat} {n : Int} (h : 0 < winCnt L f n) : 1 ≤ n ∧ n ≤ 64 := by
  unfold winCnt at h
  split at h
  · assumption
  · omega
theorem winCnt_le (L f : Nat) (n : Int) : winCnt L f n ≤ 8 * L := by
  unfold winCnt
  split <;> omega
set_option maxRecDepth 100000 in
set_option maxHeartbeats 2000000 in
theorem all_any (s : ByteArray) (m : Nat) (n : Int) (w : World) (hs : s.size ≤ 1048576) (hm : m < 18446744073709551616) (hn : -9223372036854775808 ≤ n) (hn' : n ≤ 9223372036854775807) :
    Calls Try.prog 9 #[.string s, .int .u64 m, .int .i64 n] w fun e W' => ∃ v, e = .returned v ∧ W'.ownsRow w.heap.size 3 1 v (allL s.data.toList m n).length (intCells (allL s.data.toList m n)) ∧ Below w.heap.size w W' := by
  obtain ⟨i0, hi, hz0, hz1, hz2⟩ := info_parts int_info2
  obtain ⟨N, hN8⟩ : ∃ N : Nat, N = 8 := ⟨_, rfl⟩
  refine (callsIn_wide (n := N)).1 ?_
  refine callsIn_of_wp_marks Try.func9 rfl trivial ?_ rfl
  simp only [Try.ntmps9, List.size_toArray, List.length_cons, List.length_nil, Nat.reduceAdd, Nat.reduceSub, Array.replicate_succ, Array.replicate_zero, List.push_toArray, List.append_toArray, List.nil_append, List.cons_append]
  gi_wp2_with (refine ⟨trivial, ?_⟩; gi_at_call 17; refine (callsIn_wide.2 (windows_any s 0 n _)).mono ?_; rintro e w' ⟨rfl, rfl⟩)
  obtain ⟨W0, hW0⟩ : ∃ W0, ((((((w.alloc (.cells #[.int .u64 (m : Int)] 22)).alloc (.cells #[.int .i64 n] 3)).alloc (.cells #[.slice none 0 0] 25)).alloc (.cells #[.string s] 9)).alloc (.cells #[.int .i64 0] 3)).alloc (.cells #[.int .i64 n] 3)) = W0 := ⟨_, rfl⟩
  have bM : Boxed W0 w.heap.size 22 (.int .u64 (m : Int)) := by rw [← hW0]; exact (((((Boxed.new w _ _).alloc _).alloc _).alloc _).alloc _).alloc _
  have bN : Boxed W0 (w.heap.size + 1) 3 (.int .i64 n) := by rw [← hW0]; exact ((((boxed_new _ _ _ _ (by simp)).alloc _).alloc _).alloc _).alloc _
  have bO : Boxed W0 (w.heap.size + 1 + 1) 25 (.slice none 0 0) := by rw [← hW0]; exact (((boxed_new _ _ _ _ (by simp)).alloc _).alloc _).alloc _
  have bS : Boxed W0 (w.heap.size + 1 + 1 + 1) 9 (.string s) := by rw [← hW0]; exact ((boxed_new _ _ _ _ (by simp)).alloc _).alloc _
  have bF : Boxed W0 (w.heap.size + 1 + 1 + 1 + 1) 3 (.int .i64 0) := by rw [← hW0]; exact (boxed_new _ _ _ _ (by simp)).alloc _
  have bK : Boxed W0 (w.heap.size + 1 + 1 + 1 + 2) 3 (.int .i64 n) := by rw [← hW0]; exact boxed_new _ _ _ _ (by simp)
  have hsz : W0.heap.size = w.heap.size + 6 := by rw [← hW0]; simp
  have hB0 : Below w.heap.size w W0 := by
    rw [← hW0]
    exact ((((((Below.refl _ w).alloc (Nat.le_refl _) _).alloc (by simp) _).alloc (by simp; omega) _).alloc (by simp; omega) _).alloc (by simp; omega) _).alloc (by simp; omega) _
  rw [hW0]
  clear hW0
  have hcnt := winCnt_le s.size (0 : Int).toNat n
  refine wpIn_rangeFunc_ownF (w0 := W0) rfl (by omega) (gf := 27) (lb := #[.pointer (some ⟨w.heap.size + 1 + 1 + 1 + 1, 0, none⟩), .pointer (some ⟨w.heap.size + 1 + 1 + 1 + 2, 0, none⟩), .pointer (some ⟨w.heap.size + 1 + 1 + 1, 0, none⟩)]) rfl trivial enters_wins
    (wins_stops (N - 1) 0 (by omega) (w.heap.size + 6) s n (by omega) (by omega) (by omega) hn hn' W0 _ _ _ (by omega) (by omega) (by omega) (w.heap.size + 1 + 1 + 1) (by omega) (by omega) (by omega) (by omega) bF.cell bK.cell bS.cell)
    (fun h k => Mid.trans h k) (mid_b (by omega)) (Below.refl _ _) (fun _ => rfl)
    (fun pre W => ((((∃ v, Boxed W (w.heap.size + 1 + 1) 25 v ∧ W.ownsRow (w.heap.size + 6) 3 1 v (sel m n pre).length (intCells (sel m n pre)) ∧ True) ∧ Below w.heap.size w W) ∧ Boxed W w.heap.size 22 (.int .u64 (m : Int))) ∧ Boxed W (w.heap.size + 1) 3 (.int .i64 n)) ∧ Boxed W (w.heap.size + 1 + 1 + 1 + 2) 3 (.int .i64 n))
    (fun _ _ _ => False)
    (OwnFrom.and (OwnFrom.and (OwnFrom.and (OwnFrom.and (Own.from (holdsRow_own (w.heap.size + 6) (w.heap.size + 1 + 1) 25 3 1 (fun pre => (sel m n pre).length) (fun pre => intCells (sel m n pre)) (fun _ _ => True)) _) (ownFrom_below (Nat.le_refl _) (by omega))) (Own.from (boxed_own _ _ (fun _ => .int .u64 (m : Int))) _)) (Own.from (boxed_own _ _ (fun _ => .int .i64 n)) _)) (Own.from (boxed_own _ _ (fun _ => .int .i64 n)) _))
    (fun _ _ _ _ _ hs _ _ => hs)
    ⟨⟨⟨⟨⟨_, bO, World.ownsRow_nil _ _ _ _, trivial⟩, hB0⟩, bM⟩, bN⟩, bK⟩
    (fun x => { tmps := #[.string s, .int .u64 (m : Int), .int .i64 n, undef, .pointer (some ⟨w.heap.size, 0, none⟩), .pointer (some ⟨w.heap.size + 1, 0, none⟩), .pointer (some ⟨w.heap.size + 1 + 1, 0, none⟩), .int .i64 (x.1 : Nat), .int .u64 (x.2 : Nat), .string s, .int .i64 n, .func (.func 27) #[] #[.pointer (some ⟨w.heap.size + 1 + 1 + 1 + 1, 0, none⟩), .pointer (some ⟨w.heap.size + 1 + 1 + 1 + 2, 0, none⟩), .pointer (some ⟨w.heap.size + 1 + 1 + 1, 0, none⟩)], .int .i64 (x.1 : Nat), .int .u64 (x.2 : Nat), undef, undef, undef, undef, undef, undef, undef, undef, undef, undef, undef], defers := [] }) ?assign ?body ?done ?stop
  case assign =>
    intro l x W K hK
    gi_wp2
    exact hK
  case body =>
    rintro l pre x W ⟨⟨⟨⟨⟨v, hv, hrow, _⟩, hB⟩, hM⟩, hN⟩, hK5⟩ hlt
    have hz6 := hK5.lt
    have hd : 1 ≤ N - 1 - 1 := by omega
    clear hN8
    obtain ⟨k1, k2⟩ := winCnt_pos (Nat.lt_of_le_of_lt (Nat.zero_le _) hlt)
    obtain ⟨n, rfl⟩ := Int.eq_ofNat_of_zero_le (show 0 ≤ n by omega)
    have hc1 := hM.cell
    have hc2 := hN.cell
    have hc3 := hv.cell
    have hpl : (sel m n pre).length ≤ pre.length := sel_len m n pre
    have hlow : Hid (∀ W1, Calls Try.prog 18 #[.int .i64 n] W1 fun e w' => e = .returned (.int .u64 ((2 ^ n - 1 : Nat) : Int)) ∧ W1 = w') := fun W1 => low_any n W1 (by omega) (by omega)
    have hand := and_low m n hm (by omega)
    have hbq : ((x.2 : Int) == (m : Int) % 2 ^ n) = hit m n x := by rw [show (m : Int) % 2 ^ n = ((m % 2 ^ n : Nat) : Int) by push_cast; rfl, beq_cast]; unfold hit; rw [Int.toNat_natCast]
    have Hpl := Lib.hid hpl
    have hmx : Try.prog.follows .mixedOrders = true := by kernel_rfl
    gi_wp2
    gi_region_with_o (refine ⟨trivial, ?_⟩; gi_at_call 18; refine (CallsIn.inRound l (callsIn_wide.2 (hlow.out _))).mono ?_; rintro e w' ⟨rfl, rfl⟩)
    all_goals rcases Bool.eq_false_or_eq_true (hit m n x) with hh | hh
    all_goals rw [hh]
    all_goals have hsel := hh
    all_goals clear hlow hand hbq hB0 bM bO bS bF bN bK hpl
    all_goals gi_wp2_with (gi_at_builtin; refine wpListIn_append_own _ rfl _ _ 25 rfl (w.heap.size + 6) 3 i0 (.int .i64 0) 1 8 Try.underlying25 hi hz0 hz1 hz2 rfl (by decide) _ _ _ rfl (show World.ownsRow (World.drew (W.alloc _)) _ _ _ _ _ _ from hrow.alloc _) ⟨W.heap.size, 0, none⟩ 1 1 [.int .i64 (x.1 : Nat)] rfl rfl (cell_one_new W _ _) (by simp [Value.oneCell']) (by have := Hpl.out; unfold maxLen; omega) (by have := Hpl.out; omega) (by simp; omega) ?_; intro v' w1 hown' hgrow _; obtain ⟨g', cap', rfl⟩ := ownsRow_succ hown'; obtain ⟨hv1, hv2, hr2, hk2, hb2, hb3⟩ := boxed_appended (W := W.drew) hv (by decide) hrow (by simp; omega) hown' hgrow; have hc1 := hv1.cell; have hf1 := hv1.frozen)
    all_goals first
      | exact ⟨(KeepsOthers.drew W).trans hk2, fun b h1 h2 => (hb2 b h2 (by omega)).trans rfl, ⟨⟨⟨⟨_, hv2, by rw [sel_hit m n pre x hsel]; simpa [intCells] using hr2, trivial⟩, hB.drew.trans (hb3 _ (by omega) (by omega))⟩, (hb2 _ (by omega) (by omega)).trans hM⟩, (hb2 _ (by omega) (by omega)).trans hN⟩, (hb2 _ (by omega) (by omega)).trans hK5⟩
      | exact ⟨KeepsOthers.drew W, fun _ _ _ => rfl, ⟨⟨⟨⟨v, hv, by rw [sel_miss m n pre x hsel]; exact hrow, trivial⟩, hB.drew⟩, hM⟩, hN⟩, hK5⟩
  case done =>
    rintro D ys W hD rfl ⟨⟨⟨⟨⟨v, hv, hrow, _⟩, hB⟩, hM⟩, hN⟩, hK5⟩ hK
    obtain ⟨q, len, cap, rfl⟩ := slice_of_row hrow
    have hc := hv.cell
    have hf := hv.frozen
    clear hM hN hK5
    gi_wp2
    have hne : D ≠ w.heap.size + 1 + 1 := by omega
    have hK2 : (W.setCell ⟨w.heap.size + 1 + 1, 0, none⟩ (.slice q len cap)).heap[D]? = some (.deferred (some [])) := by rw [Below.heap_setCell _ _ _ _ hne]; exact hK
    refine ⟨by simp, .inl ⟨_, _, rfl, run_takeDeferred hK2, ?_⟩⟩
    have hb2 : Boxed ((W.setCell ⟨w.heap.size + 1 + 1, 0, none⟩ (.slice q len cap)).putObj D (.deferred none)) (w.heap.size + 1 + 1) 25 (.slice q len cap) := (hv.set _).kept (grownBy_putObj' _ D _) (by simp; omega)
    have hr2 : (W.setCell ⟨w.heap.size + 1 + 1, 0, none⟩ (.slice q len cap)).ownsRow (w.heap.size + 6) 3 1 (.slice q len cap) _ _ := hrow.kept (grownBy_setCell' W (w.heap.size + 1 + 1) _) (.inr (hv.not_row (by decide) hrow).symm)
    refine ⟨_, results_cell1 rfl _ _ _ _ _ rfl (loadVar_ints _ _ _ hb2.cell), _, rfl, ownsRow_mono (ownsRow_putObj hr2 _ hK2 rfl) (by omega), ?_⟩
    exact hB.trans (((Below.refl _ W).setCell (by simp; omega) _).trans (belowK_b (w := w) (Nat.le_refl _) _ D _ _ (by omega) hK2 rfl rfl))
  case stop =>
    rintro D c pre W _ _ h _
    exact h.elim
end Go.Proofs.Ytbanageccecmnaa
