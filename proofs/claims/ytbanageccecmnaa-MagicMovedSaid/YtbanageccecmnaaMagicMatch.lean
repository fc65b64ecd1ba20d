/- Match of the program: its contract. -/
import Derived.Test.YtbanageccecmnaaMagicAll
namespace Go.Proofs.Ytbanageccecmnaa
open Go.RowKit Go.Shelf
attribute [local go_sem] Oper.semAt_some
set_option linter.unusedVariables false

/-- does the pattern stand at the first window -/
def headV (m : Nat) (n : Int) : List (Nat × Nat) → Bool
  | [] => false
  | x :: _ => hit m n x
theorem headV_prefix {m : Nat} {n : Int} {p l : List (Nat × Nat)} (h : p <+: l) (hs : p ≠ []) : headV m n l = headV m n p := by
  obtain ⟨q, rfl⟩ := h
  cases p with
  | nil => exact absurd rfl hs
  | cons x p => rfl
def matchV (s : List UInt8) (f : Int) (m : Nat) (n : Int) : Bool := !decide (f < 0) && headV m n (winsOf s f n)

theorem loadVar_bool (a : Addr) (w : World) (v : Value) (hc : w.cell? a = some v) : (loadVar 4 a).run Try.prog w = .ok v w := by
  simp [loadVar, isAgg, hc]

set_option maxRecDepth 100000 in
set_option maxHeartbeats 2000000 in
theorem match_any (s : ByteArray) (f : Int) (m : Nat) (n : Int) (w : World) (hs : s.size ≤ 1048576) (hm : m < 18446744073709551616) (hf : -9223372036854775808 ≤ f) (hf' : f ≤ 9223372036854775807) (hn : -9223372036854775808 ≤ n) (hn' : n ≤ 9223372036854775807) :
    Calls Try.prog 11 #[.string s, .int .i64 f, .int .u64 m, .int .i64 n] w fun e W' => e = .returned (.bool (matchV s.data.toList f m n)) ∧ Below w.heap.size w W' := by
  obtain ⟨N, hN8⟩ : ∃ N : Nat, N = 8 := ⟨_, rfl⟩
  refine (callsIn_wide (n := N)).1 ?_
  refine callsIn_of_wp_marks Try.func11 rfl trivial ?_ rfl
  simp only [Try.ntmps11, List.size_toArray, List.length_cons, List.length_nil, Nat.reduceAdd, Nat.reduceSub, Array.replicate_succ, Array.replicate_zero, List.push_toArray, List.append_toArray, List.nil_append, List.cons_append]
  by_cases hneg : f < 0
  · gi_wp2
    have hb2 : Boxed (((w.alloc (.cells #[.int .u64 (m : Int)] 22)).alloc (.cells #[.int .i64 n] 3)).alloc (.cells #[.bool false] 4)) (w.heap.size + 1 + 1) 4 (.bool false) := boxed_new _ _ _ _ (by simp)
    refine ⟨_, results_cell1 rfl _ _ _ _ _ rfl (loadVar_bool _ _ _ hb2.cell), ?_, ?_⟩
    · simp [matchV, hneg]
    · exact (((Below.refl _ w).alloc (Nat.le_refl _) _).alloc (by simp) _).alloc (by simp; omega) _
  have hnd : decide (f < 0) = false := by simp; omega
  gi_wp2_with (refine ⟨trivial, ?_⟩; gi_at_call 17; refine (callsIn_wide.2 (windows_any s f n _)).mono ?_; rintro e w' ⟨rfl, rfl⟩)
  obtain ⟨W0, hW0⟩ : ∃ W0, ((((((w.alloc (.cells #[.int .u64 (m : Int)] 22)).alloc (.cells #[.int .i64 n] 3)).alloc (.cells #[.bool false] 4)).alloc (.cells #[.string s] 9)).alloc (.cells #[.int .i64 f] 3)).alloc (.cells #[.int .i64 n] 3)) = W0 := ⟨_, rfl⟩
  have bM : Boxed W0 w.heap.size 22 (.int .u64 (m : Int)) := by rw [← hW0]; exact (((((Boxed.new w _ _).alloc _).alloc _).alloc _).alloc _).alloc _
  have bN : Boxed W0 (w.heap.size + 1) 3 (.int .i64 n) := by rw [← hW0]; exact ((((boxed_new _ _ _ _ (by simp)).alloc _).alloc _).alloc _).alloc _
  have bO : Boxed W0 (w.heap.size + 1 + 1) 4 (.bool false) := by rw [← hW0]; exact (((boxed_new _ _ _ _ (by simp)).alloc _).alloc _).alloc _
  have bS : Boxed W0 (w.heap.size + 1 + 1 + 1) 9 (.string s) := by rw [← hW0]; exact ((boxed_new _ _ _ _ (by simp)).alloc _).alloc _
  have bF : Boxed W0 (w.heap.size + 1 + 1 + 1 + 1) 3 (.int .i64 f) := by rw [← hW0]; exact (boxed_new _ _ _ _ (by simp)).alloc _
  have bK : Boxed W0 (w.heap.size + 1 + 1 + 1 + 2) 3 (.int .i64 n) := by rw [← hW0]; exact boxed_new _ _ _ _ (by simp)
  have hsz : W0.heap.size = w.heap.size + 6 := by rw [← hW0]; simp
  have hB0 : Below w.heap.size w W0 := by
    rw [← hW0]
    exact ((((((Below.refl _ w).alloc (Nat.le_refl _) _).alloc (by simp) _).alloc (by simp; omega) _).alloc (by simp; omega) _).alloc (by simp; omega) _).alloc (by simp; omega) _
  rw [hW0]
  clear hW0
  refine wpIn_rangeFunc_ownF (w0 := W0) rfl (by omega) (gf := 27) (lb := #[.pointer (some ⟨w.heap.size + 1 + 1 + 1 + 1, 0, none⟩), .pointer (some ⟨w.heap.size + 1 + 1 + 1 + 2, 0, none⟩), .pointer (some ⟨w.heap.size + 1 + 1 + 1, 0, none⟩)]) rfl trivial enters_wins
    (wins_stops (N - 1) f (by omega) (w.heap.size + 6) s n (by omega) (by omega) (by omega) hn hn' W0 _ _ _ (by omega) (by omega) (by omega) (w.heap.size + 1 + 1 + 1) (by omega) (by omega) (by omega) (by omega) bF.cell bK.cell bS.cell)
    (fun h k => Mid.trans h k) (mid_b (by omega)) (Below.refl _ _) (fun _ => rfl)
    (fun pre W => (((Boxed W (w.heap.size + 1 + 1) 4 (.bool (headV m n pre)) ∧ Below w.heap.size w W) ∧ Boxed W w.heap.size 22 (.int .u64 (m : Int))) ∧ Boxed W (w.heap.size + 1) 3 (.int .i64 n)) ∧ pre = [])
    (fun c pre W => (Boxed W (w.heap.size + 1 + 1) 4 (.bool (headV m n pre)) ∧ Below w.heap.size w W) ∧ (c = Code.ret ∧ pre ≠ []))
    (OwnFrom.and (OwnFrom.and (OwnFrom.and (OwnFrom.and (Own.from (boxed_own _ _ (fun pre => .bool (headV m n pre))) _) (ownFrom_below (Nat.le_refl _) (by omega))) (Own.from (boxed_own _ _ (fun _ => .int .u64 (m : Int))) _)) (Own.from (boxed_own _ _ (fun _ => .int .i64 n)) _)) (fun _ _ _ _ h _ _ => h))
    (fun c => OwnFrom.and (OwnFrom.and (Own.from (boxed_own _ _ (fun pre => .bool (headV m n pre))) _) (ownFrom_below (Nat.le_refl _) (by omega))) (fun _ _ _ _ h _ _ => h))
    ⟨⟨⟨⟨bO, hB0⟩, bM⟩, bN⟩, rfl⟩
    (fun x => { tmps := #[.string s, .int .i64 f, .int .u64 (m : Int), .int .i64 n, undef, undef, .pointer (some ⟨w.heap.size, 0, none⟩), .pointer (some ⟨w.heap.size + 1, 0, none⟩), .pointer (some ⟨w.heap.size + 1 + 1, 0, none⟩), undef, .int .u64 (x.2 : Nat), .int .i64 f, .bool false, .string s, .int .i64 f, .int .i64 n, .func (.func 27) #[] #[.pointer (some ⟨w.heap.size + 1 + 1 + 1 + 1, 0, none⟩), .pointer (some ⟨w.heap.size + 1 + 1 + 1 + 2, 0, none⟩), .pointer (some ⟨w.heap.size + 1 + 1 + 1, 0, none⟩)], .int .i64 (x.1 : Nat), .int .u64 (x.2 : Nat), undef, undef, undef, undef, undef, undef], defers := [] }) ?assign ?body ?done ?stop
  case assign =>
    intro l x W K hK
    gi_wp2
    exact hK
  case body =>
    rintro l pre x W ⟨⟨⟨⟨hv, hB⟩, hM⟩, hN⟩, hno⟩ hlt
    have hd : 1 ≤ N - 1 - 1 := by omega
    clear hN8
    obtain ⟨k1, k2⟩ := winCnt_pos (Nat.lt_of_le_of_lt (Nat.zero_le _) hlt)
    obtain ⟨n, rfl⟩ := Int.eq_ofNat_of_zero_le (show 0 ≤ n by omega)
    have hc1 := hM.cell
    have hc2 := hN.cell
    have hc3 := hv.cell
    have hf3 := hv.frozen
    have hlow : Hid (∀ W1, Calls Try.prog 18 #[.int .i64 n] W1 fun e w' => e = .returned (.int .u64 ((2 ^ n - 1 : Nat) : Int)) ∧ W1 = w') := fun W1 => low_any n W1 (by omega) (by omega)
    have hand := and_low m n hm (by omega)
    have hbq : ((x.2 : Int) == (m : Int) % 2 ^ n) = hit m n x := by rw [show (m : Int) % 2 ^ n = ((m % 2 ^ n : Nat) : Int) by push_cast; rfl, beq_cast]; unfold hit; rw [Int.toNat_natCast]
    have hmx : Try.prog.follows .mixedOrders = true := by kernel_rfl
    subst hno
    gi_wp2
    gi_region_with_o (refine ⟨trivial, ?_⟩; gi_at_call 18; refine (CallsIn.inRound l (callsIn_wide.2 (hlow.out _))).mono ?_; rintro e w' ⟨rfl, rfl⟩)
    all_goals clear hlow hand hbq hB0 bM bO bS bF bN bK
    all_goals gi_wp2
    all_goals first
      | exact ⟨(KeepsOthers.setCell W _ _).trans (KeepsOthers.drew _), ⟨Boxed.set _ hv, (hB.setCell (by simp; omega) _).drew⟩, rfl, by simp⟩
  case done =>
    rintro D ys W hD rfl ⟨⟨⟨⟨hv, hB⟩, hM⟩, hN⟩, hno⟩ hK
    rw [hno] at hv
    have hc := hv.cell
    have hf := hv.frozen
    clear hM hN
    gi_wp2
    have hne : D ≠ w.heap.size + 1 + 1 := by omega
    have hK2 : (W.setCell ⟨w.heap.size + 1 + 1, 0, none⟩ (.bool false)).heap[D]? = some (.deferred (some [])) := by rw [Below.heap_setCell _ _ _ _ hne]; exact hK
    refine ⟨by simp, .inl ⟨_, _, rfl, run_takeDeferred hK2, ?_⟩⟩
    have hb2 : Boxed ((W.setCell ⟨w.heap.size + 1 + 1, 0, none⟩ (.bool false)).putObj D (.deferred none)) (w.heap.size + 1 + 1) 4 (.bool false) := (hv.set _).kept (grownBy_putObj' _ D _) (by simp; omega)
    refine ⟨_, results_cell1 rfl _ _ _ _ _ rfl (loadVar_bool _ _ _ hb2.cell), by simp [matchV, winsOf, hno, headV], ?_⟩
    exact hB.trans (((Below.refl _ W).setCell (by simp; omega) _).trans (belowK_b (w := w) (Nat.le_refl _) _ D _ _ (by omega) hK2 rfl rfl))
  case stop =>
    rintro D c pre W hD hpre ⟨⟨hv, hB⟩, rfl, hsome⟩ hK
    have hc := hv.cell
    have he : headV m n (winsOf s.data.toList f n) = headV m n pre := headV_prefix (m := m) (n := n) hpre hsome
    gi_wp2
    have hne : D ≠ w.heap.size + 1 + 1 := by omega
    refine ⟨by simp, .inl ⟨_, _, rfl, run_takeDeferred hK, ?_⟩⟩
    have hb2 : Boxed (W.putObj D (.deferred none)) (w.heap.size + 1 + 1) 4 (.bool (headV m n pre)) := hv.kept (grownBy_putObj' _ D _) (by simp; omega)
    refine ⟨_, results_cell1 rfl _ _ _ _ _ rfl (loadVar_bool _ _ _ hb2.cell), by rw [matchV, hnd, he]; rfl, ?_⟩
    exact hB.trans (belowK_b (w := w) (Nat.le_refl _) W D _ _ (by omega) hK rfl rfl)
end Go.Proofs.Ytbanageccecmnaa
