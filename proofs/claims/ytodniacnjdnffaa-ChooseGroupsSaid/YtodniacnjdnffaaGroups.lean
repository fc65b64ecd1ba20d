/- choose.Groups: the walk. -/
import Derived.Test.YtodniacnjdnffaaChunk
import Derived.Test.YtodniacnjdnffaaSlRow
import Derived.Test.YtodniacnjdnffaaClone
import Derived.Test.YtodniacnjdnffaaHeldIn
namespace Go.Proofs.Ytodniacnjdnffaa
open Go.RowKit Go.Shelf
attribute [local go_sem] Oper.semAt_some
set_option linter.unusedVariables false

/-- what stands in memory when some groups have come -/
def GI (w : World) (base B : Nat) (m : List Int) (pre : List Ch) (W : World) : Prop := ∃ (L : List SV) (v : Value), L.map (·.2) = pre.map (fun x => grp m x.1) ∧ W.heap[B]? = some (.cells #[v] 26 (0, 0)) ∧ SlOwn W base v L ∧ Below w.heap.size w W
theorem GI.own {w : World} {base B : Nat} {m : List Int} {D : Nat} (hD : w.heap.size ≤ D) : OwnFrom D (GI w base B m) := fun s X Y row hs hg hr => by
  obtain ⟨L, v, h1, h2, h3, h4⟩ := hs
  refine ⟨L, v, h1, (hg.block B (lt_of_heap h2) (fun e' => ?_)).trans h2, h3.quiet hg fun r e => (hr r e).2, h4.grown hg h4.size (fun r e => Nat.le_trans hD (hr r e).1)⟩
  obtain ⟨_, o, ho, hc⟩ := hr B e'.symm
  rw [h2] at ho
  cases ho
  cases hc
theorem held_two {P : Program} {ops : Array Oper} {Q : Exit → Act → World → Prop} {md : Region.Mode} {S : World → Prop} (i j : Nat) {oi oj : Oper} {fuel : Nat} {listed : Array Bool} {a : Act} {w : World} (hi : ops[i]? = some oi) (hj : ops[j]? = some oj)
    (hr : Region.ready md ops listed = [i, j]) (hwi : Region.wanted oi (yielded ops a.tmps) = true) (hwj : Region.wanted oj (yielded ops a.tmps) = true)
    (h1 : ∀ K : Act → World → Prop, Shut (∀ a w, S w → (S w → wpAnyH P md ops Q S fuel (listed.setIfInBounds i true) a w) → K a w) → Oper.wp P oi a w K Q)
    (h2 : ∀ K : Act → World → Prop, Shut (∀ a w, S w → (S w → wpAnyH P md ops Q S fuel (listed.setIfInBounds j true) a w) → K a w) → Oper.wp P oj a w K Q) :
    wpAnyH P md ops Q S (fuel + 1) listed a w :=
  wpAnyH_ready hr (by simp) (AllReadyH.cons hi (fun K hK => by rw [if_pos hwi]; exact h1 K hK) (AllReadyH.cons hj (fun K hK => by rw [if_pos hwj]; exact h2 K hK) AllReadyH.nil))
/-- behind a round -/
theorem groups_step {w W w2 w4 W0 : World} {base B k n4 c2 c4 : Nat} {m : List Int} {pre : List Ch} {L : List SV} {vo : Value} {q2 q4 q1 : Option Addr} (hL : L.map (·.2) = pre.map (fun x => grp m x.1)) (hbox : W.heap[B]? = some (.cells #[vo] 26 (0, 0))) (hsl : SlOwn W base vo L) (hB : Below w.heap.size w W) (hbz : base ≤ W.heap.size)
    (hB2 : Below W.drew.heap.size W.drew w2) (hg4 : (w2.alloc (.cells #[.slice q2 (grp m k).length c2] 22)).grownBy w4 vo.ownBlock)
    (hs4 : (w2.alloc (.cells #[.slice q2 (grp m k).length c2] 22)).ownsRow base 22 1 vo L.length (L.map (·.1)))
    (hown4 : SlOwn w4 base (.slice q4 (L.length + 1) c4) (L ++ [(.slice q2 (grp m k).length c2, grp m k)])) (hbl4 : w4.heap[B]? = some (.cells #[vo] 26 (0, 0))) (hn4 : n4 = L.length + 1) (hB0 : w.heap.size = B) (hbase : base = B + 3) {a : Act} :
    ownPostG W0.heap.size (KeepC (fun k => k = B ∨ base ≤ k)) (GI w base B m) (fun _ _ _ => False) (pre ++ [(k, .slice q1 (grp m k).length (grp m k).length)]) W Exit.normal a (w4.setCell ⟨B, 0, none⟩ (.slice q4 n4 c4)) := by
  subst hn4
  have hlB := lt_of_heap hbox
  have hz2 : W.heap.size ≤ w2.heap.size := hB2.size
  have ko : KeepsOthers W (w4.setCell ⟨B, 0, none⟩ (.slice q4 (L.length + 1) c4)) := by
    refine ((((KeepsOthers.drew W).trans (KeepsOthers.of_grownBy (below_grown hB2) (fun j o e => by cases e))).trans (KeepsOthers.alloc w2 _)).trans (KeepsOthers.of_grownBy hg4 (fun j o ej hj => ?_))).trans (KeepsOthers.setCell _ _ _)
    obtain ⟨c, hc⟩ := own_heap hs4 ej
    rw [hc] at hj
    injection hj with hj
    subst hj
    rfl
  refine ⟨ko.from _, fun b cs t fz hnb h => ?_, L ++ [(.slice q2 (grp m k).length c2, grp m k)], _, ?_, ?_, hown4.far (by omega), ?_⟩
  · have hb1 : b ≠ B := fun e => hnb (.inl e)
    have hb2 : b < base := by
      rcases Nat.lt_or_ge b base with h1 | h1
      · exact h1
      · exact absurd (.inr h1) hnb
    have hbl := lt_of_heap h
    have h2 : w2.heap[b]? = some (.cells cs t fz) := (hB2.block b hbl).trans h
    have h3 : (w2.alloc (.cells #[.slice q2 (grp m k).length c2] 22)).heap[b]? = some (.cells cs t fz) := heap_up _ h2
    exact (Below.heap_setCell _ _ _ _ hb1).trans ((hg4.block b (lt_of_heap h3) (fun e => by have := own_ge hs4 e.symm; omega)).trans h3)
  · rw [List.map_append, List.map_append, hL]
    rfl
  · have := heap_set_ hbl4 0 (.slice q4 (L.length + 1) c4)
    simpa using this
  · have h1 : Below w.heap.size w w2 := hB.drew.trans (hB2.mono hB.size)
    have h2 := h1.alloc h1.size (.cells #[.slice q2 (grp m k).length c2] 22)
    have h3 := h2.grown hg4 h2.size (fun r e => by have := own_ge hs4 e; omega)
    exact h3.setCell (p := ⟨B, 0, none⟩) (by show w.heap.size ≤ B; omega) _
def groupsF (m : List Int) : List (List Int) := (List.range (cntG m.length)).map (grp m)
set_option maxRecDepth 100000 in
set_option maxHeartbeats 4000000 in
theorem groups_any (w : World) (v : Value) (m : List Int) (hv : IsInts w w.heap.size v m) (hm : m.length ≤ 1000000) :
    Calls Try.prog 13 #[v] w fun e w' => ∃ (L : List SV) (q : Option Addr) (c : Nat), e = .returned (.slice q L.length c) ∧ SlOwn w' w.heap.size (.slice q L.length c) L ∧ L.map (·.2) = groupsF m ∧ Below w.heap.size w w' := by
  obtain ⟨A, ca, rfl, hc1, hc2⟩ := hv.shape
  obtain ⟨D, hD⟩ : ∃ D : Nat, 8 ≤ D := ⟨8, by omega⟩
  have h1D : 1 ≤ D := by omega
  have Hv := Lib.hid hv
  obtain ⟨N, hN⟩ : ∃ N, m.length = N := ⟨_, rfl⟩
  rw [hN] at hv hc1 Hv
  have HN := Lib.hid hN
  rw [hN]
  clear hv
  refine (callsIn_wide (n := D)).1 ?_
  refine callsIn_of_wp_marks Try.func13 rfl trivial ?_ rfl
  simp only [Try.ntmps13, List.size_toArray, List.length_cons, List.length_nil, Nat.reduceAdd, Nat.reduceSub, Array.replicate_succ, Array.replicate_zero, List.push_toArray, List.append_toArray, List.nil_append, List.cons_append]
  gi_wp2_with fail
  refine ⟨trivial, (callsIn_wide.2 (chunk_any _ A N ca)).mono ?_⟩
  rintro e w' ⟨rfl, rfl⟩
  gi_wp2_with fail
  obtain ⟨B, hB0⟩ : ∃ B, w.heap.size = B := ⟨_, rfl⟩
  have hBW : Below w.heap.size w (((w.alloc (.cells #[.slice none 0 0] 26)).alloc (.cells #[.slice A N ca] 22)).alloc (.cells #[.int .i64 10] 3)) := (((Below.refl _ _).alloc (Nat.le_refl _) _).alloc (by simp) _).alloc (by simp; omega) _
  have hW1 : (((w.alloc (.cells #[.slice none 0 0] 26)).alloc (.cells #[.slice A N ca] 22)).alloc (.cells #[.int .i64 10] 3)).heap[w.heap.size]? = some (.cells #[.slice none 0 0] 26 (0, 0)) := heap_up _ (heap_up _ (heap_new _ _ _ rfl))
  have hW2 : (((w.alloc (.cells #[.slice none 0 0] 26)).alloc (.cells #[.slice A N ca] 22)).alloc (.cells #[.int .i64 10] 3)).heap[w.heap.size + 1]? = some (.cells #[.slice A N ca] 22 (0, 0)) := heap_up _ (heap_new _ _ _ (by simp))
  have hW3 : (((w.alloc (.cells #[.slice none 0 0] 26)).alloc (.cells #[.slice A N ca] 22)).alloc (.cells #[.int .i64 10] 3)).heap[w.heap.size + 1 + 1]? = some (.cells #[.int .i64 10] 3 (0, 0)) := heap_new _ _ _ (by simp)
  have hWs : (((w.alloc (.cells #[.slice none 0 0] 26)).alloc (.cells #[.slice A N ca] 22)).alloc (.cells #[.int .i64 10] 3)).heap.size = w.heap.size + 3 := by simp
  rw [hB0] at hW1 hW2 hW3 hWs ⊢
  generalize ((w.alloc (.cells #[.slice none 0 0] 26)).alloc (.cells #[.slice A N ca] 22)).alloc (.cells #[.int .i64 10] 3) = W0 at *
  have hvW := Hv.out.below hBW (Nat.le_refl _)
  rw [hB0] at hvW
  obtain ⟨base, hbase⟩ : ∃ base, base = B + 3 := ⟨_, rfl⟩
  have hBb : B < base := by omega
  have hmN : m.length ≤ 1000000 := hm
  have hseq := chunk_seq (D - 1) (by omega) (B + 1) (B + 1 + 1) B m hmN (fun k => k = B ∨ base ≤ k) (.slice A N ca) W0 hvW (by omega) ((cell_of_heap hW2 0).trans rfl) ((cell_of_heap hW3 0).trans rfl) (fun k hk => by rcases hk with hk | hk <;> omega)
  refine range_ok (n := D) h1D (gf := 39) (lb := #[.pointer (some ⟨B + 1, 0, none⟩), .pointer (some ⟨B + 1 + 1, 0, none⟩)]) rfl enters_chunk (encs := chE) (fun _ => rfl) (ChOk m B) (fun k => k = B ∨ base ≤ k)
    hseq (Below.refl _ _) (GI w base B m) (fun _ _ _ => False) (GI.own (by omega)) (fun _ _ _ _ _ h _ _ => h)
    ⟨[], .slice none 0 0, rfl, hW1, SlOwn.nil _ _, hBW⟩
    (fun x a' W => a' = { tmps := #[.slice A N ca, undef, .pointer (some ⟨B, 0, none⟩), x.2, .slice A N ca, .func (.func 39) #[] #[.pointer (some ⟨B + 1, 0, none⟩), .pointer (some ⟨B + 1 + 1, 0, none⟩)], x.2, undef, undef, undef, undef, undef, undef], defers := [] } ∧ ChOk m B x W)
    (fun x a' s W W' row h hgr hr => ⟨h.1, h.2.1, isInts_quiet h.2.2.1 hgr (fun r e => (hr r e).2), h.2.2.2⟩)
    ?assign ?body ?done ?stop
  case assign =>
    intro y pre x W K hi hok hlt hK
    obtain ⟨k, v⟩ := x
    simp only [chE]
    gi_wp2_with fail
    exact hK _ _ (KeepsFrom.refl _ _) (KeepC.refl _ _) hi ⟨rfl, hok⟩
  case body =>
    rintro y pre x a' W ⟨L, vo, hL, hbox, hsl, hB⟩ ⟨rfl, hk, hI, q1, hx2⟩ hlt hlen
    obtain ⟨k, vx⟩ := x
    dsimp only at hk hI hx2
    subst hx2
    have hlB := lt_of_heap hbox
    have hS1 : W.drew.cell? ⟨B, 0, none⟩ = some vo := cell_of_heap hbox 0
    have hI3 : IsInts W.drew W.drew.heap.size (.slice q1 (grp m k).length (grp m k).length) (grp m k) := hI
    have hg0 : 0 < (grp m k).length := by
      rw [length_grp]
      have := (cntG_lt m.length k).2 hk
      omega
    have hbz : base ≤ W.heap.size := by omega
    have hLl : L.length ≤ 1000000 := by
      have := congrArg List.length hL
      rw [List.length_map, List.length_map] at this
      have h2 : cntG m.length ≤ 1000000 := by unfold cntG; omega
      omega
    clear hW1 hW2 hW3 hvW hseq hI
    gi_wp2_with fail
    refine wpIn_region_held (S := fun _ => True) (by kernel_rfl) (by kernel_rfl) (fun _ => ?_) trivial
    refine held_yes (v := ?_) 1 (by simp only [List.getElem?_toArray, List.getElem?_cons_succ, List.getElem?_cons_zero]; rfl) (by kernel_rfl) (fun _ _ _ h => h) (by rfl) trivial ?_ ?_
    rotate_left
    · (intro w hSw; go_simp; try with_reducible rfl)
    try simp only [Act.put, List.setIfInBounds_toArray, List.set_cons_zero, List.set_cons_succ]
    refine held_two 0 2 (by simp only [List.getElem?_toArray, List.getElem?_cons_zero]; rfl) (by simp only [List.getElem?_toArray, List.getElem?_cons_succ, List.getElem?_cons_zero]; rfl) (by kernel_rfl) (by rfl) (by rfl) (fun K hK => ?_) (fun K hK => ?_)
    · go_simp
      refine hK.out _ _ trivial (fun _ => ?_)
      clear hK K
      try simp only [Act.put, List.setIfInBounds_toArray, List.set_cons_zero, List.set_cons_succ]
      refine held_one 2 (by simp only [List.getElem?_toArray, List.getElem?_cons_succ, List.getElem?_cons_zero]; rfl) (by kernel_rfl) (by rfl) (fun K hK => ?_)
      go_simp
      refine (clone_any _ _ (grp m k) hI3 hg0 (by rw [length_grp]; omega)).mono ?_
      rintro e w2 ⟨q2, c2, rfl, ho2, hB2⟩
      have hS2 : w2.cell? ⟨B, 0, none⟩ = some vo := (hB2.cell (p := ⟨B, 0, none⟩) hlB).trans hS1
      have hz2 := hB2.size
      rw [show W.drew.heap.size = W.heap.size from rfl] at hz2 ho2
      have hS3 : (w2.alloc (.cells #[.slice q2 (grp m k).length c2] 22)).cell? ⟨B, 0, none⟩ = some vo := (((Below.refl w2.heap.size w2).alloc (Nat.le_refl _) (.cells #[.slice q2 (grp m k).length c2] 22)).cell (p := ⟨B, 0, none⟩) (by show B < _; omega)).trans hS2
      refine hK.out _ _ trivial (fun _ => ?_)
      clear hK K
      try simp only [Act.put, List.setIfInBounds_toArray, List.set_cons_zero, List.set_cons_succ]
      refine held_one 3 (by simp only [List.getElem?_toArray, List.getElem?_cons_succ, List.getElem?_cons_zero]; rfl) (by kernel_rfl) (by rfl) (fun K hK => ?_)
      go_simp
      refine hK.out _ _ trivial (fun _ => ?_)
      clear hK K
      try simp only [Act.put, List.setIfInBounds_toArray, List.set_cons_zero, List.set_cons_succ]
      refine held_one 4 (by simp only [List.getElem?_toArray, List.getElem?_cons_succ, List.getElem?_cons_zero]; rfl) (by kernel_rfl) (by rfl) (fun K hK => ?_)
      have hk4 : (w2.alloc (.cells #[.slice q2 (grp m k).length c2] 22)).heap[w2.heap.size]? = some (.cells #[.slice q2 (grp m k).length c2] 22 (0, 0)) := heap_new _ _ _ rfl
      have hs4 : SlOwn (w2.alloc (.cells #[.slice q2 (grp m k).length c2] 22)) base vo L := (hsl.below (bel_alloc (bel_call hB2 (bel_drew (Below.refl _ _))) _))
      refine oper_append_sl _ _ (by rfl) base vo L (by rfl) hs4 w2.heap.size (.slice q2 (grp m k).length c2, grp m k) (by rfl) hk4 ((ho2.mono (by omega)).alloc _) (by omega) (by simp; omega) ?_
      intro q4 c4 w4 hown4 hg4
      have hbl : (w2.alloc (.cells #[.slice q2 (grp m k).length c2] 22)).heap[B]? = some (.cells #[vo] 26 (0, 0)) := heap_up _ ((hB2.block B hlB).trans hbox)
      have hbl4 : w4.heap[B]? = some (.cells #[vo] 26 (0, 0)) := (hg4.block B (lt_of_heap hbl) (fun e => by have := own_ge hs4.own e.symm; omega)).trans hbl
      have hS4 : w4.cell? ⟨B, 0, none⟩ = some vo := cell_of_heap hbl4 0
      have hf4 := frozen_of_heap hbl4 0
      have hlt4 := lt_of_heap hbl4
      refine hK.out _ _ trivial (fun _ => ?_)
      clear hK K
      try simp only [Act.put, List.setIfInBounds_toArray, List.set_cons_zero, List.set_cons_succ]
      refine held_one 5 (by simp only [List.getElem?_toArray, List.getElem?_cons_succ, List.getElem?_cons_zero]; rfl) (by kernel_rfl) (by rfl) (fun K hK => ?_)
      go_simp
      refine hK.out _ _ trivial (fun _ => ?_)
      clear hK K
      try simp only [Act.put, List.setIfInBounds_toArray, List.set_cons_zero, List.set_cons_succ]
      refine wpAnyH_done (by kernel_rfl) ?_ _
      refine NormalOnly.normal ?_
      exact groups_step (a := { tmps := #[], defers := [] }) hL hbox hsl hB (by omega) hB2 hg4 hs4.own hown4 hbl4 rfl hB0 hbase
    · go_simp
      refine (clone_any _ _ (grp m k) hI3 hg0 (by rw [length_grp]; omega)).mono ?_
      rintro e w2 ⟨q2, c2, rfl, ho2, hB2⟩
      have hS2 : w2.cell? ⟨B, 0, none⟩ = some vo := (hB2.cell (p := ⟨B, 0, none⟩) hlB).trans hS1
      have hz2 := hB2.size
      rw [show W.drew.heap.size = W.heap.size from rfl] at hz2 ho2
      have hS3 : (w2.alloc (.cells #[.slice q2 (grp m k).length c2] 22)).cell? ⟨B, 0, none⟩ = some vo := (((Below.refl w2.heap.size w2).alloc (Nat.le_refl _) (.cells #[.slice q2 (grp m k).length c2] 22)).cell (p := ⟨B, 0, none⟩) (by show B < _; omega)).trans hS2
      refine hK.out _ _ trivial (fun _ => ?_)
      clear hK K
      try simp only [Act.put, List.setIfInBounds_toArray, List.set_cons_zero, List.set_cons_succ]
      refine held_two 0 3 (by simp only [List.getElem?_toArray, List.getElem?_cons_zero]; rfl) (by simp only [List.getElem?_toArray, List.getElem?_cons_succ, List.getElem?_cons_zero]; rfl) (by kernel_rfl) (by rfl) (by rfl) (fun K hK => ?_) (fun K hK => ?_)
      · go_simp
        refine hK.out _ _ trivial (fun _ => ?_)
        clear hK K
        try simp only [Act.put, List.setIfInBounds_toArray, List.set_cons_zero, List.set_cons_succ]
        refine held_one 3 (by simp only [List.getElem?_toArray, List.getElem?_cons_succ, List.getElem?_cons_zero]; rfl) (by kernel_rfl) (by rfl) (fun K hK => ?_)
        go_simp
        refine hK.out _ _ trivial (fun _ => ?_)
        clear hK K
        try simp only [Act.put, List.setIfInBounds_toArray, List.set_cons_zero, List.set_cons_succ]
        refine held_one 4 (by simp only [List.getElem?_toArray, List.getElem?_cons_succ, List.getElem?_cons_zero]; rfl) (by kernel_rfl) (by rfl) (fun K hK => ?_)
        have hk4 : (w2.alloc (.cells #[.slice q2 (grp m k).length c2] 22)).heap[w2.heap.size]? = some (.cells #[.slice q2 (grp m k).length c2] 22 (0, 0)) := heap_new _ _ _ rfl
        have hs4 : SlOwn (w2.alloc (.cells #[.slice q2 (grp m k).length c2] 22)) base vo L := (hsl.below (bel_alloc (bel_call hB2 (bel_drew (Below.refl _ _))) _))
        refine oper_append_sl _ _ (by rfl) base vo L (by rfl) hs4 w2.heap.size (.slice q2 (grp m k).length c2, grp m k) (by rfl) hk4 ((ho2.mono (by omega)).alloc _) (by omega) (by simp; omega) ?_
        intro q4 c4 w4 hown4 hg4
        have hbl : (w2.alloc (.cells #[.slice q2 (grp m k).length c2] 22)).heap[B]? = some (.cells #[vo] 26 (0, 0)) := heap_up _ ((hB2.block B hlB).trans hbox)
        have hbl4 : w4.heap[B]? = some (.cells #[vo] 26 (0, 0)) := (hg4.block B (lt_of_heap hbl) (fun e => by have := own_ge hs4.own e.symm; omega)).trans hbl
        have hS4 : w4.cell? ⟨B, 0, none⟩ = some vo := cell_of_heap hbl4 0
        have hf4 := frozen_of_heap hbl4 0
        have hlt4 := lt_of_heap hbl4
        refine hK.out _ _ trivial (fun _ => ?_)
        clear hK K
        try simp only [Act.put, List.setIfInBounds_toArray, List.set_cons_zero, List.set_cons_succ]
        refine held_one 5 (by simp only [List.getElem?_toArray, List.getElem?_cons_succ, List.getElem?_cons_zero]; rfl) (by kernel_rfl) (by rfl) (fun K hK => ?_)
        go_simp
        refine hK.out _ _ trivial (fun _ => ?_)
        clear hK K
        try simp only [Act.put, List.setIfInBounds_toArray, List.set_cons_zero, List.set_cons_succ]
        refine wpAnyH_done (by kernel_rfl) ?_ _
        refine NormalOnly.normal ?_
        exact groups_step (a := { tmps := #[], defers := [] }) hL hbox hsl hB (by omega) hB2 hg4 hs4.own hown4 hbl4 rfl hB0 hbase
      · go_simp
        refine hK.out _ _ trivial (fun _ => ?_)
        clear hK K
        try simp only [Act.put, List.setIfInBounds_toArray, List.set_cons_zero, List.set_cons_succ]
        refine held_one 0 (by simp only [List.getElem?_toArray, List.getElem?_cons_zero]; rfl) (by kernel_rfl) (by rfl) (fun K hK => ?_)
        go_simp
        refine hK.out _ _ trivial (fun _ => ?_)
        clear hK K
        try simp only [Act.put, List.setIfInBounds_toArray, List.set_cons_zero, List.set_cons_succ]
        refine held_one 4 (by simp only [List.getElem?_toArray, List.getElem?_cons_succ, List.getElem?_cons_zero]; rfl) (by kernel_rfl) (by rfl) (fun K hK => ?_)
        have hk4 : (w2.alloc (.cells #[.slice q2 (grp m k).length c2] 22)).heap[w2.heap.size]? = some (.cells #[.slice q2 (grp m k).length c2] 22 (0, 0)) := heap_new _ _ _ rfl
        have hs4 : SlOwn (w2.alloc (.cells #[.slice q2 (grp m k).length c2] 22)) base vo L := (hsl.below (bel_alloc (bel_call hB2 (bel_drew (Below.refl _ _))) _))
        refine oper_append_sl _ _ (by rfl) base vo L (by rfl) hs4 w2.heap.size (.slice q2 (grp m k).length c2, grp m k) (by rfl) hk4 ((ho2.mono (by omega)).alloc _) (by omega) (by simp; omega) ?_
        intro q4 c4 w4 hown4 hg4
        have hbl : (w2.alloc (.cells #[.slice q2 (grp m k).length c2] 22)).heap[B]? = some (.cells #[vo] 26 (0, 0)) := heap_up _ ((hB2.block B hlB).trans hbox)
        have hbl4 : w4.heap[B]? = some (.cells #[vo] 26 (0, 0)) := (hg4.block B (lt_of_heap hbl) (fun e => by have := own_ge hs4.own e.symm; omega)).trans hbl
        have hS4 : w4.cell? ⟨B, 0, none⟩ = some vo := cell_of_heap hbl4 0
        have hf4 := frozen_of_heap hbl4 0
        have hlt4 := lt_of_heap hbl4
        refine hK.out _ _ trivial (fun _ => ?_)
        clear hK K
        try simp only [Act.put, List.setIfInBounds_toArray, List.set_cons_zero, List.set_cons_succ]
        refine held_one 5 (by simp only [List.getElem?_toArray, List.getElem?_cons_succ, List.getElem?_cons_zero]; rfl) (by kernel_rfl) (by rfl) (fun K hK => ?_)
        go_simp
        refine hK.out _ _ trivial (fun _ => ?_)
        clear hK K
        try simp only [Act.put, List.setIfInBounds_toArray, List.set_cons_zero, List.set_cons_succ]
        refine wpAnyH_done (by kernel_rfl) ?_ _
        refine NormalOnly.normal ?_
        exact groups_step (a := { tmps := #[], defers := [] }) hL hbox hsl hB (by omega) hB2 hg4 hs4.own hown4 hbl4 rfl hB0 hbase
  case done =>
    rintro Dd xs W hDd hS ⟨L, v, hL, hbox, hsl, hB⟩ hK
    have hS2 : xs.map (·.1) = List.range (cntG m.length) := hS
    have hL2 : L.map (·.2) = groupsF m := by
      rw [hL]
      unfold groupsF
      rw [← hS2, List.map_map]
      rfl
    obtain ⟨q, c, rfl⟩ := hsl.shape
    have hc := (cell_of_heap hbox 0).trans rfl
    have hf := frozen_of_heap hbox 0
    have hlB := lt_of_heap hbox
    have hne : Dd ≠ B := by omega
    clear hW1 hW2 hW3 hvW hseq
    gi_wp2_with fail
    have hbx2 : (W.setCell ⟨B, 0, none⟩ (.slice q L.length c)).heap[B]? = some (.cells #[.slice q L.length c] 26 (0, 0)) := by
      have := heap_set_ hbox 0 (.slice q L.length c)
      simpa using this
    have hK2 : (W.setCell ⟨B, 0, none⟩ (.slice q L.length c)).heap[Dd]? = some (.deferred (some [])) := by rw [Below.heap_setCell _ _ _ _ hne]; exact hK
    refine ⟨by simp, .inl ⟨_, _, rfl, run_takeDeferred hK2, ?_⟩⟩
    have hs2 := hsl.far (g := B) (i := 0) (u := .slice q L.length c) hBb
    have hs3 := hs2.quiet (grownBy_putObj' _ Dd (.deferred none)) (fun r e => by injection e with e; subst e; exact ⟨_, hK2, rfl⟩)
    have hcell : ((W.setCell ⟨B, 0, none⟩ (.slice q L.length c)).putObj Dd (.deferred none)).cell? ⟨B, 0, none⟩ = some (.slice q L.length c) := (cell_of_heap ((World.putObj_heap_other (fun e => hne e.symm)).trans hbx2) 0).trans rfl
    refine ⟨_, results_cell1 rfl _ _ _ _ _ rfl (loadVar_sl _ _ _ hcell), L, q, c, rfl, hs3.mono (by omega), hL2, ?_⟩
    exact hB.trans (((Below.refl _ W).setCell (p := ⟨B, 0, none⟩) (by show w.heap.size ≤ B; omega) _).trans (belowK_b (w := w) (Nat.le_refl _) _ Dd _ _ (by omega) hK2 rfl rfl))
  case stop =>
    rintro D c pre W _ _ h _
    exact h.elim
end Go.Proofs.Ytodniacnjdnffaa
