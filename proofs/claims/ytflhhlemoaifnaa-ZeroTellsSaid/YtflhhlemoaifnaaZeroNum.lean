/- slices.Backward at ints, and the program's Number: contracts. -/
import Derived.Test.YtflhhlemoaifnaaIter
import Derived.Test.YtflhhlemoaifnaaZeroFns
namespace Go.Proofs.Ytflhhlemoaifnaa
open Go.RowKit Go.Shelf
attribute [local go_sem] Oper.semAt_some
set_option linter.unusedVariables false

/-- a row from its end on, each with its place -/
def backs {β : Type} (ys : List β) : List (Nat × β) := (ys.zipIdx.map fun q => (q.2, q.1)).reverse
theorem length_backs {β : Type} (ys : List β) : (backs ys).length = ys.length := by simp [backs]
theorem backs_at {β : Type} (ys : List β) (j : Nat) (hj : j < ys.length) : ∃ y, ys[ys.length - 1 - j]? = some y ∧ (backs ys).take (j + 1) = (backs ys).take j ++ [(ys.length - 1 - j, y)] := by
  have hi : ys.length - 1 - j < ys.length := by omega
  refine ⟨ys[ys.length - 1 - j], List.getElem?_eq_getElem hi, ?_⟩
  have hl : j < (backs ys).length := by rw [length_backs]; exact hj
  rw [List.take_succ_eq_append_getElem hl]
  congr 2
  simp [backs, List.getElem_reverse]
theorem backs_snd {β : Type} (ys : List β) : (backs ys).map Prod.snd = ys.reverse := by
  unfold backs
  rw [List.map_reverse, List.map_map]
  congr 1
  have : (Prod.snd ∘ fun q : β × Nat => (q.2, q.1)) = Prod.fst := rfl
  rw [this, List.zipIdx_map_fst]

set_option maxRecDepth 100000 in
set_option maxHeartbeats 1000000 in
theorem back_in {β : Type} (en : β → Int) (n : Nat) (hn : 3 ≤ n) (l bs B : Nat) (p : Nat → Prop) (v : Value) (ys : List β) (xs : List Int) (hxs : ys.map en = xs) (hlen : xs.length ≤ 281474976710656)
    (J Jx : List (Nat × β) → World → Prop) (hbs : p bs) (hp : ∀ b, b < B → p b)
    (hY : ∀ pre x W, J pre W → pre.length < xs.length → YieldAt Fence.wide (n - 1) Try.prog l #[.int .i64 (x.1 : Nat), .int .i64 (en x.2)] W fun e W' =>
      (e = .returned (.bool true) ∧ J (pre ++ [x]) W' ∧ KeepP p W W') ∨ (e = .returned (.bool false) ∧ Jx (pre ++ [x]) W'))
    (W : World) (c1 : W.cell? ⟨bs, 0, none⟩ = some v) (hv : IsInts W B v xs) (h0 : J [] W) :
    CallsIn Fence.wide n Try.prog 32 #[.func (.yield l) #[] #[], .pointer (some ⟨bs, 0, none⟩)] W (IterEnd J Jx (backs ys)) := by
  obtain ⟨A, ca, rfl, hc1, hc2⟩ := hv.shape
  have hyl : ys.length = xs.length := by rw [← hxs, List.length_map]
  have Hyl := Lib.hid hyl
  have Hxs := Lib.hid hxs
  have HY := Lib.hid hY
  have Hv := Lib.hid hv
  clear hY hv hyl hxs
  refine callsIn_of_wp Try.func32 rfl trivial ?_ rfl
  simp only [Try.ntmps32, List.size_toArray, List.length_cons, List.length_nil, Nat.reduceAdd, Nat.reduceSub, Array.replicate_succ, Array.replicate_zero, List.push_toArray, List.append_toArray, List.nil_append, List.cons_append]
  have h1n : 1 ≤ n := by omega
  gi_wp2
  gi_loopw [3] (fun a wr => ∃ j : Nat, j ≤ xs.length ∧ a = .int .i64 ((xs.length : Int) - 1 - j) ∧ J ((backs ys).take j) wr ∧ KeepP p W wr) (fun a _ => (intOf a + 1).toNat)
  case atStart => exact ⟨0, by omega, by simp, h0, KeepP.refl _ _⟩
  case round =>
    obtain ⟨j, hj, rfl, hJ, hB⟩ := hrel
    have r1 : wr.cell? ⟨bs, 0, none⟩ = some (.slice A xs.length ca) := (hB.cell bs 0 hbs).trans c1
    by_cases hlast : j = xs.length
    · have Hlast := Lib.hid hlast
      have hneg : (xs.length : Int) - 1 - j < 0 := by omega
      clear hlast
      gi_wp2
      refine bodyPost_ret (results_none rfl _ _ _) rfl ?_
      exact ⟨⟨_, rfl⟩, .inl ⟨_, rfl, by rw [List.take_of_length_le (by rw [length_backs, Hyl.out, Hlast.out]; exact Nat.le_refl _)] at hJ; exact hJ⟩⟩
    · obtain ⟨i, hi⟩ : ∃ i : Nat, xs.length - 1 - j = i := ⟨_, rfl⟩
      have hii : (xs.length : Int) - 1 - j = (i : Int) := by omega
      rw [hii]
      have hilt : i < xs.length := by omega
      obtain ⟨y, hy0, hsucc⟩ := backs_at ys j (by rw [Hyl.out]; omega)
      rw [Hyl.out, hi] at hy0 hsucc
      obtain ⟨g, o, rfl, hg, hc⟩ := Hv.out.at i hilt
      obtain ⟨x, hx⟩ : ∃ x, en y = x := ⟨_, rfl⟩
      have hcl : wr.cell? ⟨g, o + i, none⟩ = some (.int .i64 x) := by
        rw [← hx, (hB.cell g (o + i) (hp g hg)).trans hc, ← Hxs.out, List.getElem?_map, hy0]; rfl
      obtain ⟨fn, tmps, assign, body, hy, hR⟩ := HY.out ((backs ys).take j) (i, y) wr hJ (by rw [List.length_take]; omega)
      simp only [hx] at hy
      have Hy := Lib.hid hy
      have hpre : (backs ys).take j ++ [(i, y)] <+: backs ys := by rw [← hsucc]; exact List.take_prefix _ _
      have Hpre := Lib.hid hpre
      have Hsucc := Lib.hid hsucc
      have Hii := Lib.hid hii
      have hj1 : j + 1 ≤ xs.length := by omega
      clear hpre hsucc hx hc hi hii hlast hy0
      gi_wp2
      refine hR.mono ?_
      rintro e W' (⟨rfl, hJ', hk'⟩ | ⟨rfl, hJx'⟩)
      · gi_wp2
        go_roundw
        case rel => exact ⟨j + 1, hj1, by have := Hii.out; rw [show (xs.length : Int) - 1 - (j + 1 : Nat) = (i : Int) - 1 by omega], by rw [Hsucc.out]; exact hJ', hB.trans hk'⟩
        case measure => simp [intOf] <;> omega
      · gi_wp2
        refine bodyPost_ret (results_none rfl _ _ _) rfl ?_
        exact ⟨⟨_, rfl⟩, .inr ⟨_, Hpre.out, hJx'⟩⟩
theorem back_stops {β : Type} (en : β → Int) (n : Nat) (hn : 3 ≤ n) (bs B : Nat) (p : Nat → Prop) (v : Value) (ys : List β) (xs : List Int) (hxs : ys.map en = xs) (hlen : xs.length ≤ 281474976710656) (hbs : p bs) (hp : ∀ b, b < B → p b)
    (w : World) (hb : bs < w.heap.size) (hBw : B ≤ w.heap.size) (c1 : w.cell? ⟨bs, 0, none⟩ = some v) (hv : IsInts w B v xs) :
    SeqStopsK Fence.wide n Try.prog 32 #[.pointer (some ⟨bs, 0, none⟩)] (fun x : Nat × β => #[.int .i64 (x.1 : Nat), .int .i64 (en x.2)]) (KeepP p)
      (fun zs => zs = backs ys) (fun pre => pre <+: backs ys) xs.length w :=
  fun l J Jx W hW _ _ hY h0 =>
    back_in en n hn l bs B p v ys xs hxs hlen J Jx hbs hp hY W ((hW.cell (p := ⟨bs, 0, none⟩) hb).trans c1) (hv.below hW hBw) h0
theorem enters_back : Enters Try.prog 32 := enters_of Try.func32 (by kernel_rfl) rfl
/-- what Backward hands back -/
theorem backward_any (v : Value) (w : World) (hs : ∃ q l c, v = .slice q l c) :
    Calls Try.prog 28 #[v] w fun e w' => e = .returned (.func (.func 32) #[] #[.pointer (some ⟨w.heap.size, 0, none⟩)]) ∧ w.alloc (.cells #[v] 22) = w' := by
  have hmf := hmf
  obtain ⟨q, l, c, rfl⟩ := hs
  go_enter Try.func28, Try.ntmps28
  go_wp2
  go_ret
  exact ⟨rfl, rfl⟩

/-- the number so far -/
def numF (pre : List (Nat × Bool)) : Nat := (pre.map Prod.snd).foldl (fun n x => 2 * n + x.toNat + 1) 0
theorem numF_snoc (pre : List (Nat × Bool)) (x : Nat × Bool) : numF (pre ++ [x]) = 2 * numF pre + x.2.toNat + 1 := by simp [numF]
theorem numF_mono {a b : List (Nat × Bool)} (h : a <+: b) : numF a ≤ numF b := by
  obtain ⟨c, rfl⟩ := h
  induction c generalizing a with
  | nil => simp
  | cons x c ih =>
    have := ih (a := a ++ [x])
    rw [numF_snoc, List.append_assoc] at this
    simp only [List.singleton_append] at this
    omega
/-- a digit -/
def enB (b : Bool) : Int := if b then 1 else 0
theorem numF_all (ys : List Bool) : numF (backs ys) = numD (ys.map enB) := by
  unfold numF numD
  rw [backs_snd, List.foldl_reverse, List.foldr_map]
  congr 1
  funext x n
  cases x <;> rfl
theorem dig_enB {d : List Int} (h : Dig d) : ∃ ys : List Bool, ys.map enB = d := by
  refine ⟨d.map fun x => decide (x = 1), ?_⟩
  rw [List.map_map]
  conv => rhs; rw [← List.map_id d]
  apply List.map_congr_left
  intro x hx
  rcases h x hx with rfl | rfl <;> rfl
/-- is one neither 0 nor 1? -/
def oddF (d : List Int) : Bool := d.any fun x => !decide (x = 0) && !decide (x = 1)
theorem oddF_dig {d : List Int} (h : oddF d = false) : Dig d := by
  unfold oddF at h
  rw [List.any_eq_false] at h
  intro x hx
  have := h x hx
  simp at this
  omega
theorem oddF_of_dig {d : List Int} (h : Dig d) : oddF d = false := by
  unfold oddF
  rw [List.any_eq_false]
  intro x hx
  rcases h x hx with rfl | rfl <;> simp
def numE (d : List Int) : Int := if oddF d then 1 else if 1099511627776 < numD d then 4 else 0
def numV (d : List Int) : Int := if oddF d then 0 else if 1099511627776 < numD d then 0 else (numD d : Nat)

set_option maxRecDepth 100000 in
set_option maxHeartbeats 1000000 in
theorem number_any (v : Value) (xs : List Int) (w : World) (hv : IsInts w w.heap.size v xs) (hlen : xs.length ≤ 281474976710656) :
    Calls Try.prog 16 #[v] w fun e W' => e = .returned (.tuple #[.int .i64 (numV xs), .int .i64 (numE xs)]) ∧ Below w.heap.size w W' := by
  obtain ⟨N, hN8⟩ : ∃ N : Nat, N = 8 := ⟨_, rfl⟩
  obtain ⟨A, ca, rfl, hc1, hc2⟩ := hv.shape
  have C := Lib.hid (containsFunc_any ((w.alloc (.cells #[.int .i64 0] 3)).alloc (.cells #[.int .i64 0] 28)) _ xs (fun x => !decide (x = 0) && !decide (x = 1)) 27 #[] enters_num1 ((hv.below (((Below.refl w.heap.size w).alloc (Nat.le_refl _) _).alloc (by simp) _) (Nat.le_refl _)).mono (by simp; omega)) hlen (fun x _ W _ => num1_any x W))
  have hpar : oddF xs = xs.any fun x => !decide (x = 0) && !decide (x = 1) := rfl
  rw [← hpar] at C
  obtain ⟨od, hod⟩ : ∃ b, oddF xs = b := ⟨_, rfl⟩
  rw [hod] at C
  have Hod := Lib.hid hod
  have Hv := Lib.hid hv
  clear hod hpar hv
  refine (callsIn_wide (n := N)).1 ?_
  refine callsIn_of_wp_marks Try.func16 rfl trivial ?_ rfl
  simp only [Try.ntmps16, List.size_toArray, List.length_cons, List.length_nil, Nat.reduceAdd, Nat.reduceSub, Array.replicate_succ, Array.replicate_zero, List.push_toArray, List.append_toArray, List.nil_append, List.cons_append]
  gi_wp2_with (first
    | (refine ⟨trivial, ?_⟩; gi_at_call 22; refine (callsIn_wide.2 C.out).mono ?_; rintro e w1 ⟨rfl, hB1⟩
       have b2 : w1.heap[w.heap.size]? = some (.cells #[.int .i64 0] 3 (0, 0)) := (hB1.block _ (by simp; omega)).trans (heap_up _ (heap_new w _ _ rfl))
       have b3 : w1.heap[w.heap.size + 1]? = some (.cells #[.int .i64 0] 28 (0, 0)) := (hB1.block _ (by simp)).trans (heap_new _ _ _ (by simp))
       have c2 := cell_of_heap b2 0
       have c3 := cell_of_heap b3 0
       have f2 := frozen_of_heap b2 0
       have f3 := frozen_of_heap b3 0
       have hBw : Below w.heap.size w w1 := (((Below.refl w.heap.size w).alloc (Nat.le_refl _) _).alloc (by simp) _).trans (hB1.mono (by simp; omega))
       have hz1 : w.heap.size + 2 ≤ w1.heap.size := by have := hB1.size; simp at this; omega
       have B2 := Lib.hid b2
       have B3 := Lib.hid b3
       clear b2 b3 hB1)
    | (refine ⟨trivial, ?_⟩; gi_at_call 28; refine (callsIn_wide.2 (backward_any _ _ ⟨_, _, _, rfl⟩)).mono ?_; rintro e w2 ⟨rfl, rfl⟩))
  · have hod : od = true := by assumption
    subst hod
    have b2 := Boxed.other (Boxed.set (.int .i64 0) (show Boxed w1 w.heap.size 3 (.int .i64 0) from B2.out)) (B' := w.heap.size + 1) (by omega) (.int .i64 1)
    have b3 := Boxed.set (.int .i64 1) (Boxed.other (show Boxed w1 (w.heap.size + 1) 28 (.int .i64 0) from B3.out) (B' := w.heap.size) (by omega) (.int .i64 0))
    refine ⟨_, results_cell2 rfl _ _ _ _ _ _ _ rfl rfl (loadVar_int _ _ _ b2.cell) (loadVar_errno _ _ _ b3.cell), ?_, ?_⟩
    · rw [numV, numE, Hod.out, if_pos rfl, if_pos rfl]
    · exact (hBw.setCell (p := ⟨w.heap.size, 0, none⟩) (Nat.le_refl _) _).setCell (p := ⟨w.heap.size + 1, 0, none⟩) (by simp) _
  · have hod : od = false := by assumption
    subst hod
    obtain ⟨ys, hys⟩ := dig_enB (oddF_dig Hod.out)
    have hyl : ys.length = xs.length := by rw [← hys, List.length_map]
    obtain ⟨W0, hW0⟩ : ∃ W0, w1.alloc (.cells #[.slice A xs.length ca] 22) = W0 := ⟨_, rfl⟩
    have bN : Boxed W0 w.heap.size 3 (.int .i64 0) := by rw [← hW0]; exact Boxed.alloc (show Boxed w1 w.heap.size 3 (.int .i64 0) from B2.out) _
    have bE : Boxed W0 (w.heap.size + 1) 28 (.int .i64 0) := by rw [← hW0]; exact Boxed.alloc (show Boxed w1 (w.heap.size + 1) 28 (.int .i64 0) from B3.out) _
    have bS : Boxed W0 w1.heap.size 22 (.slice A xs.length ca) := by rw [← hW0]; exact boxed_new _ _ _ _ rfl
    have hz0 : W0.heap.size = w1.heap.size + 1 := by rw [← hW0]; simp
    have hB0 : Below w.heap.size w W0 := by rw [← hW0]; exact hBw.alloc (by omega) _
    have hv0 : IsInts W0 w.heap.size (.slice A xs.length ca) xs := Hv.out.below hB0 (Nat.le_refl _)
    rw [hW0]
    clear hW0 c2 c3 f2 f3 C
    refine wpIn_rangeFunc_ownF (w0 := W0) rfl (by omega) (gf := 32) (lb := #[.pointer (some ⟨w1.heap.size, 0, none⟩)]) rfl trivial enters_back
      (back_stops enB (N - 1) (by omega) w1.heap.size w.heap.size (fun b => b < w.heap.size ∨ b = w1.heap.size) _ ys xs hys hlen (.inr rfl) (fun b hb => .inl hb) W0 (by omega) (by omega) bS.cell hv0)
      (fun h k => KeepP.trans h k) (keepP_b (n₀ := w1.heap.size + 1) (fun b hb => by omega) (by omega)) (Below.refl _ _) (fun _ => rfl)
      (fun pre W => ((Boxed W w.heap.size 3 (.int .i64 (numF pre : Nat)) ∧ Boxed W (w.heap.size + 1) 28 (.int .i64 0)) ∧ Below w.heap.size w W) ∧ numF pre ≤ 1099511627776)
      (fun c pre W => ((Boxed W w.heap.size 3 (.int .i64 0) ∧ Boxed W (w.heap.size + 1) 28 (.int .i64 4)) ∧ Below w.heap.size w W) ∧ (c = Code.ret ∧ 1099511627776 < numF pre))
      (OwnFrom.and (OwnFrom.and (OwnFrom.and (Own.from (boxed_own _ _ (fun pre => .int .i64 (numF pre : Nat))) _) (Own.from (boxed_own _ _ (fun _ => .int .i64 0)) _)) (ownFrom_below (Nat.le_refl _) (by omega))) (fun _ _ _ _ h _ _ => h))
      (fun c => OwnFrom.and (OwnFrom.and (OwnFrom.and (Own.from (boxed_own _ _ (fun _ => .int .i64 0)) _) (Own.from (boxed_own _ _ (fun _ => .int .i64 4)) _)) (ownFrom_below (Nat.le_refl _) (by omega))) (fun _ _ _ _ h _ _ => h))
      ⟨⟨⟨bN, bE⟩, hB0⟩, by decide⟩
      (fun x => { tmps := #[.slice A xs.length ca, undef, .pointer (some ⟨w.heap.size, 0, none⟩), .pointer (some ⟨w.heap.size + 1, 0, none⟩), undef, .int .i64 (enB x.2), .slice A xs.length ca, .bool false, .slice A xs.length ca, .func (.func 32) #[] #[.pointer (some ⟨w1.heap.size, 0, none⟩)], .int .i64 (x.1 : Nat), .int .i64 (enB x.2), undef, undef, undef, undef, undef, undef, undef, undef], defers := [] }) ?assign ?body ?done ?stop
    case assign =>
      intro l x W K hK
      gi_wp2
      exact hK
    case body =>
      rintro l pre x W ⟨⟨⟨hn, he⟩, hB⟩, hle⟩ hlt
      have hd : 1 ≤ N - 1 - 1 := by omega
      clear hN8
      have hc1 := hn.cell
      have hf1 := hn.frozen
      have hc2 := he.cell
      have hf2 := he.frozen
      have hsn := numF_snoc pre x
      obtain ⟨b, hb⟩ : ∃ b, enB x.2 = b := ⟨_, rfl⟩
      have hbn : b = (x.2.toNat : Nat) := by rw [← hb]; cases x.2 <;> rfl
      have hb1 : 0 ≤ b ∧ b ≤ 1 := by rw [← hb]; cases x.2 <;> decide
      rw [hb]
      have Hsn := Lib.hid hsn
      have Hbn := Lib.hid hbn
      clear hsn hb hbn bN bE bS
      gi_wp2
      · refine ⟨((KeepsOthers.setCell W _ _).trans (KeepsOthers.setCell _ _ _)).trans (KeepsOthers.setCell _ _ _), ⟨⟨Boxed.other (Boxed.set _ (Boxed.set _ hn)) (by omega) _, Boxed.set _ (Boxed.other (Boxed.other he (by omega) _) (by omega) _)⟩, ((hB.setCell (p := ⟨w.heap.size, 0, none⟩) (Nat.le_refl _) _).setCell (p := ⟨w.heap.size, 0, none⟩) (Nat.le_refl _) _).setCell (p := ⟨w.heap.size + 1, 0, none⟩) (by simp) _⟩, rfl, ?_⟩
        have := Hsn.out
        have := Hbn.out
        omega
      · have hnx : (2 * (numF pre : Int) + b + 1) = (numF (pre ++ [x]) : Nat) := by rw [Hsn.out, Hbn.out]; omega
        rw [hnx]
        refine ⟨KeepsOthers.setCell W _ _, (KeepP.refl _ W).setCell (fun b hb => by simp; omega) _, ⟨⟨Boxed.set _ hn, Boxed.other he (by omega) _⟩, hB.setCell (p := ⟨w.heap.size, 0, none⟩) (Nat.le_refl _) _⟩, by omega⟩
    case done =>
      rintro D zs W hD rfl ⟨⟨⟨hn, he⟩, hB⟩, hle⟩ hK
      have hc1 := hn.cell
      have hf1 := hn.frozen
      have hc2 := he.cell
      have hf2 := he.frozen
      have hall := numF_all ys
      rw [hys] at hall
      rw [hall] at hc1 hn hle
      have Hall := Lib.hid hall
      clear hall
      gi_wp2
      have hK2 : ((W.setCell ⟨w.heap.size, 0, none⟩ (.int .i64 (numD xs : Nat))).setCell ⟨w.heap.size + 1, 0, none⟩ (.int .i64 0)).heap[D]? = some (.deferred (some [])) := by
        rw [Below.heap_setCell _ _ _ _ (by simp; omega), Below.heap_setCell _ _ _ _ (by simp; omega)]; exact hK
      refine ⟨by simp, .inl ⟨_, _, rfl, run_takeDeferred hK2, ?_⟩⟩
      have b2 : Boxed (((W.setCell ⟨w.heap.size, 0, none⟩ (.int .i64 (numD xs : Nat))).setCell ⟨w.heap.size + 1, 0, none⟩ (.int .i64 0)).putObj D (.deferred none)) w.heap.size 3 (.int .i64 (numD xs : Nat)) := ((hn.set _).other (by omega) _).kept (grownBy_putObj' _ D _) (by simp; omega)
      have b3 : Boxed (((W.setCell ⟨w.heap.size, 0, none⟩ (.int .i64 (numD xs : Nat))).setCell ⟨w.heap.size + 1, 0, none⟩ (.int .i64 0)).putObj D (.deferred none)) (w.heap.size + 1) 28 (.int .i64 0) := ((he.other (by omega) _).set _).kept (grownBy_putObj' _ D _) (by simp; omega)
      refine ⟨_, results_cell2 rfl _ _ _ _ _ _ _ rfl rfl (loadVar_int _ _ _ b2.cell) (loadVar_errno _ _ _ b3.cell), ?_, ?_⟩
      · have hq : ¬ 1099511627776 < numD xs := by omega
        simp [numV, numE, Hod.out, hq]
      · exact hB.trans ((((Below.refl _ W).setCell (p := ⟨w.heap.size, 0, none⟩) (Nat.le_refl _) _).setCell (p := ⟨w.heap.size + 1, 0, none⟩) (by simp) _).trans (belowK_b (w := w) (Nat.le_refl _) _ D _ _ (by omega) hK2 rfl rfl))
    case stop =>
      rintro D c pre W hD hpre ⟨⟨⟨hn, he⟩, hB⟩, rfl, hgt⟩ hK
      have hm := numF_mono hpre
      have hall := numF_all ys
      rw [hys] at hall
      gi_wp2
      refine ⟨by simp, .inl ⟨_, _, rfl, run_takeDeferred hK, ?_⟩⟩
      have b2 : Boxed (W.putObj D (.deferred none)) w.heap.size 3 (.int .i64 0) := hn.kept (grownBy_putObj' _ D _) (by simp; omega)
      have b3 : Boxed (W.putObj D (.deferred none)) (w.heap.size + 1) 28 (.int .i64 4) := he.kept (grownBy_putObj' _ D _) (by simp; omega)
      refine ⟨_, results_cell2 rfl _ _ _ _ _ _ _ rfl rfl (loadVar_int _ _ _ b2.cell) (loadVar_errno _ _ _ b3.cell), ?_, ?_⟩
      · have hq : 1099511627776 < numD xs := by omega
        simp [numV, numE, Hod.out, hq]
      · exact hB.trans (belowK_b (w := w) (Nat.le_refl _) W D _ _ (by omega) hK rfl rfl)
end Go.Proofs.Ytflhhlemoaifnaa
