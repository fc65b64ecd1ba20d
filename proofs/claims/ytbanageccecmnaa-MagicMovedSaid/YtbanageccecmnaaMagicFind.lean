/- Find of the program: its contract. -/
import Derived.Test.YtbanageccecmnaaMagicAll
namespace Go.Proofs.Ytbanageccecmnaa
open Go.RowKit Go.Shelf
attribute [local go_sem] Oper.semAt_some
set_option linter.unusedVariables false

/-- the first place of a pattern, or -1 -/
def findV (m : Nat) (n : Int) (l : List (Nat × Nat)) : Int := (l.find? (hit m n)).elim (-1) fun x => (x.1 : Int)
theorem findV_prefix {m : Nat} {n : Int} {p l : List (Nat × Nat)} (h : p <+: l) (hs : (p.find? (hit m n)).isSome = true) : findV m n l = findV m n p := by
  obtain ⟨q, rfl⟩ := h
  obtain ⟨x, hx⟩ := Option.isSome_iff_exists.1 hs
  simp [findV, List.find?_append, hx]
theorem find_snoc_hit {m : Nat} {n : Int} {p : List (Nat × Nat)} {x : Nat × Nat} (h : p.find? (hit m n) = none) (hx : hit m n x = true) : (p ++ [x]).find? (hit m n) = some x := by
  simp [List.find?_append, h, hx]
theorem find_snoc_miss {m : Nat} {n : Int} {p : List (Nat × Nat)} {x : Nat × Nat} (h : p.find? (hit m n) = none) (hx : hit m n x = false) : (p ++ [x]).find? (hit m n) = none := by
  simp [List.find?_append, h, hx]
theorem findV_hit {m : Nat} {n : Int} {p : List (Nat × Nat)} {x : Nat × Nat} (h : p.find? (hit m n) = none) (hx : hit m n x = true) : findV m n (p ++ [x]) = (x.1 : Int) := by
  simp [findV, find_snoc_hit h hx]
theorem findV_miss {m : Nat} {n : Int} {p : List (Nat × Nat)} {x : Nat × Nat} (h : p.find? (hit m n) = none) (hx : hit m n x = false) : findV m n (p ++ [x]) = findV m n p := by
  simp only [findV, find_snoc_miss h hx, h]

set_option maxRecDepth 100000 in
set_option maxHeartbeats 2000000 in
theorem find_any (s : ByteArray) (f : Int) (m : Nat) (n : Int) (w : World) (hs : s.size ≤ 1048576) (hm : m < 18446744073709551616) (hf : -9223372036854775808 ≤ f) (hf' : f ≤ 9223372036854775807) (hn : -9223372036854775808 ≤ n) (hn' : n ≤ 9223372036854775807) :
    Calls Try.prog 10 #[.string s, .int .i64 f, .int .u64 m, .int .i64 n] w fun e W' => e = .returned (.int .i64 (findV m n (winsOf s.data.toList f n))) ∧ Below w.heap.size w W' := by
  obtain ⟨N, hN8⟩ : ∃ N : Nat, N = 8 := ⟨_, rfl⟩
  refine (callsIn_wide (n := N)).1 ?_
  refine callsIn_of_wp_marks Try.func10 rfl trivial ?_ rfl
  simp only [Try.ntmps10, List.size_toArray, List.length_cons, List.length_nil, Nat.reduceAdd, Nat.reduceSub, Array.replicate_succ, Array.replicate_zero, List.push_toArray, List.append_toArray, List.nil_append, List.cons_append]
  gi_wp2
  refine wpIn_wide.2 (wp_scope_straight ((wpIn_wide (n := N)).1 ?_))
  gi_wp2
  refine wpIn_label ?_
  gi_wp2_with (refine ⟨trivial, ?_⟩; gi_at_call 17; refine (callsIn_wide.2 (windows_any s f n _)).mono ?_; rintro e w' ⟨rfl, rfl⟩)
  obtain ⟨W0, hW0⟩ : ∃ W0, ((((((w.alloc (.cells #[.int .u64 (m : Int)] 22)).alloc (.cells #[.int .i64 n] 3)).alloc (.cells #[.int .i64 (-1)] 3)).alloc (.cells #[.string s] 9)).alloc (.cells #[.int .i64 f] 3)).alloc (.cells #[.int .i64 n] 3)) = W0 := ⟨_, rfl⟩
  have bM : Boxed W0 w.heap.size 22 (.int .u64 (m : Int)) := by rw [← hW0]; exact (((((Boxed.new w _ _).alloc _).alloc _).alloc _).alloc _).alloc _
  have bN : Boxed W0 (w.heap.size + 1) 3 (.int .i64 n) := by rw [← hW0]; exact ((((boxed_new _ _ _ _ (by simp)).alloc _).alloc _).alloc _).alloc _
  have bO : Boxed W0 (w.heap.size + 1 + 1) 3 (.int .i64 (-1)) := by rw [← hW0]; exact (((boxed_new _ _ _ _ (by simp)).alloc _).alloc _).alloc _
  have bS : Boxed W0 (w.heap.size + 1 + 1 + 1) 9 (.string s) := by rw [← hW0]; exact ((boxed_new _ _ _ _ (by simp)).alloc _).alloc _
  have bF : Boxed W0 (w.heap.size + 1 + 1 + 1 + 1) 3 (.int .i64 f) := by rw [← hW0]; exact (boxed_new _ _ _ _ (by simp)).alloc _
  have bK : Boxed W0 (w.heap.size + 1 + 1 + 1 + 2) 3 (.int .i64 n) := by rw [← hW0]; exact boxed_new _ _ _ _ (by simp)
  have hsz : W0.heap.size = w.heap.size + 6 := by rw [← hW0]; simp
  have hB0 : Below w.heap.size w W0 := by
    rw [← hW0]
    exact ((((((Below.refl _ w).alloc (Nat.le_refl _) _).alloc (by simp) _).alloc (by simp; omega) _).alloc (by simp; omega) _).alloc (by simp; omega) _).alloc (by simp; omega) _
  rw [hW0]
  clear hW0
  refine wpIn_rangeFunc_ownF (w0 := W0) rfl (by omega) (gf := 27) (lb := #[.pointer (some ⟨w.heap.size + 1 + 1 + 1 + 1, 0, none⟩), .pointer (some ⟨w.heap.size + 1 + 1 + 1 + 2, 0, none⟩), .pointer (some ⟨w.heap.size + 1 + 1 + 1, 0, none⟩)]) rfl trivial enters_wins
    (wins_stops (N - 1) f (by omega) (w.heap.size + 6) s n (by omega) (by omega) (by omega) hn hn' W0 _ _ _ (by omega) (by omega) (by omega) (w.heap.size + 1 + 1 + 1) (by omega) (by omega) (by omega) (by omega) bF.cell bK.cell bS.cell)
    (fun h k => Mid.trans h k) (mid_b (by omega)) (Below.refl _ _) (fun _ => rfl)
    (fun pre W => (((Boxed W (w.heap.size + 1 + 1) 3 (.int .i64 (findV m n pre)) ∧ Below w.heap.size w W) ∧ Boxed W w.heap.size 22 (.int .u64 (m : Int))) ∧ Boxed W (w.heap.size + 1) 3 (.int .i64 n)) ∧ pre.find? (hit m n) = none)
    (fun c pre W => (Boxed W (w.heap.size + 1 + 1) 3 (.int .i64 (findV m n pre)) ∧ Below w.heap.size w W) ∧ (c = Code.exit 0 ∧ (pre.find? (hit m n)).isSome = true))
    (OwnFrom.and (OwnFrom.and (OwnFrom.and (OwnFrom.and (Own.from (boxed_own _ _ (fun pre => .int .i64 (findV m n pre))) _) (ownFrom_below (Nat.le_refl _) (by omega))) (Own.from (boxed_own _ _ (fun _ => .int .u64 (m : Int))) _)) (Own.from (boxed_own _ _ (fun _ => .int .i64 n)) _)) (fun _ _ _ _ h _ _ => h))
    (fun c => OwnFrom.and (OwnFrom.and (Own.from (boxed_own _ _ (fun pre => .int .i64 (findV m n pre))) _) (ownFrom_below (Nat.le_refl _) (by omega))) (fun _ _ _ _ h _ _ => h))
    ⟨⟨⟨⟨bO, hB0⟩, bM⟩, bN⟩, rfl⟩
    (fun x => { tmps := #[.string s, .int .i64 f, .int .u64 (m : Int), .int .i64 n, undef, undef, .pointer (some ⟨w.heap.size, 0, none⟩), .pointer (some ⟨w.heap.size + 1, 0, none⟩), .int .i64 0, .pointer (some ⟨w.heap.size + 1 + 1, 0, none⟩), .int .i64 (x.1 : Nat), .int .u64 (x.2 : Nat), .string s, .int .i64 f, .int .i64 n, .func (.func 27) #[] #[.pointer (some ⟨w.heap.size + 1 + 1 + 1 + 1, 0, none⟩), .pointer (some ⟨w.heap.size + 1 + 1 + 1 + 2, 0, none⟩), .pointer (some ⟨w.heap.size + 1 + 1 + 1, 0, none⟩)], .int .i64 (x.1 : Nat), .int .u64 (x.2 : Nat), undef, undef, undef, undef, undef, undef, undef, undef], defers := [] }) ?assign ?body ?done ?stop
  case assign =>
    intro l x W K hK
    gi_wp2
    exact hK
  case body =>
    rintro l pre x W ⟨⟨⟨⟨hv, hB⟩, hM⟩, hN⟩, hno⟩ hlt
    have hd : 1 ≤ N - 1 - 1 := by omega
    clear hN8
    obtain ⟨k1, k2⟩ := winCnt_pos (Nat.lt_of_le_of_lt (Nat.zero_le _) hlt)
    obtain ⟨n, rfl⟩ := Int.eq_ofNat_of_zero_le (show 0 ≤ n by omega)
    have hc1 := hM.cell
    have hc2 := hN.cell
    have hc3 := hv.cell
    have hf3 := hv.frozen
    have hlow : Hid (∀ W1, Calls Try.prog 18 #[.int .i64 n] W1 fun e w' => e = .returned (.int .u64 ((2 ^ n - 1 : Nat) : Int)) ∧ W1 = w') := fun W1 => low_any n W1 (by omega) (by omega)
    have hand := and_low m n hm (by omega)
    have hbq : ((x.2 : Int) == (m : Int) % 2 ^ n) = hit m n x := by rw [show (m : Int) % 2 ^ n = ((m % 2 ^ n : Nat) : Int) by push_cast; rfl, beq_cast]; unfold hit; rw [Int.toNat_natCast]
    have hmx : Try.prog.follows .mixedOrders = true := by kernel_rfl
    have Hno := Lib.hid hno
    clear hno
    gi_wp2
    gi_region_with_o (refine ⟨trivial, ?_⟩; gi_at_call 18; refine (CallsIn.inRound l (callsIn_wide.2 (hlow.out _))).mono ?_; rintro e w' ⟨rfl, rfl⟩)
    all_goals rcases Bool.eq_false_or_eq_true (hit m n x) with hh | hh
    all_goals rw [hh]
    all_goals have hsel := hh
    all_goals clear hlow hand hbq hB0 bM bO bS bF bN bK
    all_goals gi_wp2
    all_goals first
      | exact ⟨(KeepsOthers.setCell W _ _).trans (KeepsOthers.drew _), ⟨by rw [findV_hit Hno.out hsel]; exact Boxed.set _ hv, (hB.setCell (by simp; omega) _).drew⟩, rfl, by rw [find_snoc_hit Hno.out hsel]; rfl⟩
      | exact ⟨KeepsOthers.drew W, fun _ _ _ => rfl, ⟨⟨⟨by rw [findV_miss Hno.out hsel]; exact hv, hB.drew⟩, hM⟩, hN⟩, find_snoc_miss Hno.out hsel⟩
  case done =>
    rintro D ys W hD rfl ⟨⟨⟨⟨hv, hB⟩, hM⟩, hN⟩, hno⟩ hK
    have hc := hv.cell
    clear hM hN
    gi_wp2
    refine ⟨by simp, .inl ⟨_, _, rfl, run_takeDeferred hK, ?_⟩⟩
    refine ⟨_, results_tmp rfl _ _ _, rfl, ?_⟩
    exact hB.trans (belowK_b (w := w) (Nat.le_refl _) W D _ _ (by omega) hK rfl rfl)
  case stop =>
    rintro D c pre W hD hpre ⟨⟨hv, hB⟩, rfl, hsome⟩ hK
    have hc := hv.cell
    have he := findV_prefix hpre hsome
    gi_wp2
    refine ⟨by simp, .inl ⟨_, _, rfl, run_takeDeferred hK, ?_⟩⟩
    refine ⟨_, results_tmp rfl _ _ _, by simp [winsOf, he], ?_⟩
    exact hB.trans (belowK_b (w := w) (Nat.le_refl _) W D _ _ (by omega) hK rfl rfl)
end Go.Proofs.Ytbanageccecmnaa
