/- Put of the program: the walk. -/
import Derived.Test.YtkicaimondpceaaCodeWords
import Derived.Test.YtkicaimondpceaaEnv2
import Derived.Test.YtkicaimondpceaaHeld
namespace Go.Proofs.Ytkicaimondpceaa
open Go.RowKit
set_option linter.unusedVariables false

theorem Env.place {w0 W : World} {k : Nat} {cs : Array Value} {t : TypeId} {bs : List (Nat × Array Value × TypeId)} (h : Env w0 W [] ((k, cs, t) :: bs)) (hk : w0.heap.size ≤ k) (hbs : ∀ p ∈ bs, p.1 ≠ k) (i : Nat) (u : Value) :
    Env w0 (W.setCell ⟨k, i, none⟩ u) [] ((k, cs.setIfInBounds i u, t) :: bs) := by
  refine ⟨⟨h.bel.setCell (p := ⟨k, i, none⟩) hk u, fun p hp => by simp at hp⟩, fun p hp => ?_⟩
  rcases List.mem_cons.1 hp with rfl | hp
  · exact heap_set_ (h.blk 0 rfl) i u
  · exact (Below.heap_setCell _ _ _ _ (hbs p hp)).trans (h.2 p (List.mem_cons_of_mem _ hp))
/-- rows of bits as cells: those that are there yet -/
def pcell (ls : List (List Bool)) (j : Nat) : Value :=
  if j % 2 = 0 then .string (txt (ls[j / 2]?.getD [])) else .int .i64 (((ls[j / 2]?.getD []).length : Nat) : Int)
def outP (ls : List (List Bool)) (M : Nat) : Array Value := (Array.range (M * 2)).map (pcell ls)
theorem outP_size (ls : List (List Bool)) (M : Nat) : (outP ls M).size = M * 2 := by simp [outP]
theorem outP_get (ls : List (List Bool)) (M : Nat) (j : Nat) (h : j < M * 2) : (outP ls M)[j]? = some (pcell ls j) := by simp [outP, h]
theorem outP_none (ls : List (List Bool)) (M : Nat) (j : Nat) (h : ¬ j < M * 2) : (outP ls M)[j]? = none := Array.getElem?_eq_none (by rw [outP_size]; omega)
theorem outP_made (M : Nat) : outP [] M = madeCells #[.string ⟨#[]⟩, .int .i64 0] (M * 2) := by
  apply Array.ext_getElem?
  intro j
  by_cases hj : j < M * 2
  · rw [outP_get _ _ _ hj]
    unfold pcell
    rcases Nat.mod_two_eq_zero_or_one j with h | h
    · simp [madeCells, hj, h]; rfl
    · simp [madeCells, hj, h]
  · rw [outP_none _ _ _ hj, Array.getElem?_eq_none (by rw [size_madeCells]; omega)]
theorem outP_set (ls : List (List Bool)) (b : List Bool) (M i : Nat) (hi : i < M) (hl : ls.length = i) :
    ((outP ls M).setIfInBounds (i * 2) (.string (txt b))).setIfInBounds (i * 2 + 1) (.int .i64 ((b.length : Nat) : Int)) = outP (ls ++ [b]) M := by
  apply Array.ext_getElem?
  intro j
  rw [Array.getElem?_setIfInBounds, Array.getElem?_setIfInBounds, Array.size_setIfInBounds, outP_size]
  by_cases hj : j < M * 2
  · rw [outP_get _ _ _ hj, outP_get _ _ _ hj]
    by_cases h1 : i * 2 + 1 = j
    · subst h1
      rw [if_pos rfl, if_pos hj]
      unfold pcell
      rw [if_neg (by omega), show (i * 2 + 1) / 2 = i by omega]
      simp [← hl]
    · rw [if_neg h1]
      by_cases h2 : i * 2 = j
      · subst h2
        rw [if_pos rfl, if_pos hj]
        unfold pcell
        rw [if_pos (by omega), show i * 2 / 2 = i by omega]
        simp [← hl]
      · rw [if_neg h2]
        unfold pcell
        have : (ls ++ [b])[j / 2]? = ls[j / 2]? := by
          rcases Nat.lt_or_ge (j / 2) ls.length with h3 | h3
          · rw [List.getElem?_append_left h3]
          · rw [List.getElem?_eq_none h3, List.getElem?_eq_none (by simp; omega)]
        rw [this]
  · rw [outP_none _ _ _ hj, outP_none _ _ _ hj, if_neg (by omega), if_neg (by omega)]
theorem outP_all (ls : List (List Bool)) : (outP ls ls.length).toList = pairCells (ls.map pairOf) := by
  apply List.ext_getElem?
  intro j
  rw [Array.getElem?_toList]
  by_cases hj : j < ls.length * 2
  · rw [outP_get _ _ _ hj]
    have hl : j / 2 < ls.length := by omega
    have hp : (ls.map pairOf)[j / 2]? = some (pairOf ls[j / 2]) := by simp [hl]
    obtain ⟨h1, h2⟩ := pairCells_at (ls.map pairOf) (j / 2) _ hp
    unfold pcell
    rw [List.getElem?_eq_getElem hl]
    rcases Nat.mod_two_eq_zero_or_one j with h | h
    · rw [if_pos h]
      rw [show j / 2 * 2 = j by omega] at h1
      rw [h1]; rfl
    · rw [if_neg (by omega)]
      rw [show j / 2 * 2 + 1 = j by omega] at h2
      rw [h2]; rfl
  · rw [outP_none _ _ _ hj, List.getElem?_eq_none (by rw [length_pairCells, List.length_map]; omega)]
theorem pairs_of_heap {c : World} {k n : Nat} {ls : List (List Bool)} {t : TypeId} (h : c.heap[k]? = some (.cells (outP ls n) t (0, 0))) (hn : ls.length = n) (hl : n ≤ maxLen) : IsPairs c c.heap.size (.slice (some ⟨k, 0, none⟩) n n) (ls.map pairOf) := by
  subst hn
  unfold IsPairs
  rw [List.length_map]
  have hs := outP_size ls ls.length
  refine ⟨by rw [length_pairCells, List.length_map], _, _, rfl, Nat.le_refl _, hl, fun _ => ⟨k, 0, rfl, lt_of_heap h, fun j hj => ?_⟩⟩
  rw [cell_of_heap h, Nat.zero_add, ← outP_all, Array.getElem?_toList]
  exact id
theorem results_cell_tmp {fn : Func} {p q : Tmp} {ty : TypeId} (h : fn.results = #[.cell p ty, .tmp q]) (tmps : Array Value) (P : Program) (w : World) (a : Addr) (v : Value) (hp : tmps.getD p undef = .pointer (some a)) (hl : (loadVar ty a).run P w = .ok v w) :
    (results fn tmps).run P w = .ok (.tuple #[v, tmps.getD q undef]) w := by
  have hp' : tmps[p]?.getD undef = .pointer (some a) := by simpa using hp
  simp [results, h, hp', asAddr, hl]
theorem loadVar_bits (k : Nat) (w : World) (a b : Value) (h : w.heap[k]? = some (.cells #[a, b] 37 (0, 0))) : (loadVar 37 ⟨k, 0, none⟩).run Try.prog w = .ok (.agg #[a, b]) w := by
  have c0 := (cell_of_heap h 0).trans rfl
  have c1 := (cell_of_heap h 1).trans rfl
  go_simp
theorem bits_info : (Try.prog.info? 37).map (fun i => (i.zero, i.size, i.bytes)) = some (some (.agg #[.string ⟨#[]⟩, .int .i64 0]), 2, 24) := by kernel_rfl
theorem run_make_bits (M : Nat) (hn : M ≤ 1000000) : ∀ W, (Instr.makeSlice 61 (.int .i64 (M : Int)) (.int .i64 (M : Int))).run Try.prog W = .ok (.slice (some ⟨W.heap.size, 0, none⟩) M M) (W.alloc (.cells (outP [] M) 37)) := fun W => by
  obtain ⟨i0, hi, hz0, hz1, hz2⟩ := info_parts bits_info
  have := run_make (P := Try.prog) W 61 37 i0 (.agg #[.string ⟨#[]⟩, .int .i64 0]) Try.underlying61 hi hz0 .i64 .i64 M M (by omega) (by omega) (by rw [hz2]; omega) (by omega)
  rw [hz1, Int.toNat_natCast] at this
  rw [outP_made]
  exact this

/-- what Put answers -/
def codePut (l : List Nat) (m : List Int) : List Bool × Int := if ∀ x ∈ m, 0 ≤ x ∧ x < l.length then (putB l (m.map Int.toNat), 0) else ([], 5)
/-- the words of the first ones -/
def wordsTo (l : List Nat) (m : List Int) (i : Nat) : List (List Bool) := (m.take i).map fun x => wordB l x.toNat
theorem wordsTo_succ (l : List Nat) (m : List Int) (i s : Nat) (h : m[i]? = some (s : Int)) : wordsTo l m (i + 1) = wordsTo l m i ++ [wordB l s] := by
  unfold wordsTo
  rw [List.take_add_one, h]
  simp
theorem length_wordsTo (l : List Nat) (m : List Int) (i : Nat) (h : i ≤ m.length) : (wordsTo l m i).length = i := by simp [wordsTo]; omega
theorem wordsTo_all (l : List Nat) (m : List Int) : (wordsTo l m m.length).flatten = putB l (m.map Int.toNat) := by
  unfold wordsTo putB
  rw [List.take_length, List.flatMap_def, List.map_map]
  rfl

set_option maxRecDepth 100000 in
set_option maxHeartbeats 3200000 in
theorem cput_any (w : World) (v1 v2 : Value) (l : List Nat) (m : List Int) (hv : IsInts w w.heap.size v1 (ints l)) (hl : Code l) (hv2 : IsInts w w.heap.size v2 m) (hm : m.length ≤ 1000000) (hr : I64s m) :
    Calls Try.prog 18 #[v1, v2] w fun e w' => e = .returned (.tuple #[.agg #[.string (txt (codePut l m).1), .int .i64 ((codePut l m).1.length : Nat)], .int .i64 (codePut l m).2]) ∧ Below w.heap.size w w' := by
  obtain ⟨A, ca, rfl, hc1, hc2⟩ := hv.shape
  obtain ⟨A2, ca2, rfl, hc3, hc4⟩ := hv2.shape
  have hli := length_ints l
  obtain ⟨N, hN⟩ : ∃ N, l.length = N := ⟨_, rfl⟩
  obtain ⟨M, hM⟩ : ∃ M, m.length = M := ⟨_, rfl⟩
  have CW : Hid (∀ W, Below w.heap.size w W → Calls Try.prog 13 #[.slice A (ints l).length ca] W fun e w' => ∃ u, e = .returned (.tuple #[u, .int .i64 0]) ∧ IsWords w' u l ∧ Below W.heap.size W w') := fun W hB => words_ok W _ l (ints_up hv hB) hl
  rw [hM] at hm hc3 hv2 ⊢
  rw [hli, hN] at CW hc1 ⊢
  have hN258 : N ≤ 258 := by rw [← hN]; exact hl.most
  have hmk := run_make_bits M hm
  have Hmk := Lib.hid hmk
  have Hv2 := Lib.hid hv2
  have HN := Lib.hid hN
  have HM := Lib.hid hM
  have Hlc := Lib.hid hl
  have Hr := Lib.hid hr
  clear hv hv2 hN hl hli hmk hr hM
  go_enter Try.func18, Try.ntmps18
  go_wp2_with fail
  refine (CW.out _ ((Below.refl _ w).alloc (Nat.le_refl _) _)).mono ?_
  rintro e w1 ⟨_, rfl, ⟨g, cg, rfl, hg⟩, hB1⟩
  have E1 := Lib.hid (((Env.nil w).box #[.string ⟨#[]⟩, .int .i64 0] 37 w.heap.size rfl).fresh hB1 hg)
  rw [HN.out]
  clear hB1 CW hg
  have hmk := Hmk.out
  go_wp2_with fail
  obtain ⟨mb, hmb⟩ : ∃ mb, w1.heap.size = mb := ⟨_, rfl⟩
  have E2 := Lib.hid (E1.out.box (outP [] M) 37 mb hmb.symm)
  have g1 := E1.out.lt 0 rfl
  have g2 := E1.out.lt 1 rfl
  have g3 := E1.out.size
  rw [hmb] at g1 g2 g3 ⊢
  have n1 : ¬ g = mb := by omega
  have n2 : ¬ mb = g := by omega
  clear hmk Hmk E1 hmb
  go_loopw [25] (fun iv wr => ∃ i : Nat, i ≤ M ∧ iv = .int .i64 i ∧ (∀ x ∈ m.take i, 0 ≤ x ∧ x < l.length) ∧ Env w wr [] [(mb, outP (wordsTo l m i) M, 37), (g, outC l fun _ => true, 34), (w.heap.size, #[.string ⟨#[]⟩, .int .i64 0], 37)]) (fun iv _ => M + 1 - (intOf iv).toNat)
  case atStart => exact ⟨0, Nat.zero_le _, rfl, fun x hx => by simp at hx, E2.out⟩
  case round =>
    obtain ⟨i, hi, rfl, hgood, hE⟩ := hrel
    have HE := Lib.hid hE
    have Hgood := Lib.hid hgood
    have hlw := length_wordsTo l m i (by rw [HM.out]; exact hi)
    have b0 := HE.out.cellv 2 rfl 0 _ rfl
    have b1 := HE.out.cellv 2 rfl 1 _ rfl
    have fb0 := HE.out.frozen 2 rfl 0
    have fb1 := HE.out.frozen 2 rfl 1
    have hbl := HE.out.lt 2 rfl
    clear hE hgood E2
    by_cases hit : i < M
    · have hv2 := HE.out.old Hv2.out
      obtain ⟨g4, o4, rfl, hg4, hx⟩ := hv2.at i (by rw [HM.out]; exact hit)
      obtain ⟨x, hxm⟩ : ∃ x, m[i]? = some x := ⟨_, List.getElem?_eq_getElem (by rw [HM.out]; exact hit)⟩
      rw [hxm, Option.getD_some] at hx
      have hrx := Hr.out x (List.mem_of_getElem? hxm)
      clear hv2
      by_cases hbad : 0 ≤ x ∧ x < N
      · obtain ⟨s, rfl⟩ : ∃ s : Nat, x = s := ⟨x.toNat, by omega⟩
        have hsN : s < N := by omega
        obtain ⟨n, hn⟩ : ∃ n, l[s]? = some n := ⟨_, List.getElem?_eq_getElem (by rw [HN.out]; exact hsN)⟩
        have hn20 := Hlc.out.fits n (List.mem_of_getElem? hn)
        have hvlt := wordV_lt Hlc.out hn
        have hp20 : 2 ^ n ≤ 2 ^ 20 := Nat.pow_le_pow_right (by omega) hn20.2
        have h20 : (2 : Nat) ^ 20 = 1048576 := by decide
        have CP : Hid (∀ W, Calls Try.prog 29 #[.agg #[.string ⟨#[]⟩, .int .i64 0], .int .u64 (wordV l s : Nat), .int .i64 (n : Nat)] W fun e w' => e = .returned (.tuple #[.agg #[.string (txt (wordB l s)), .int .i64 ((wordB l s).length : Nat)], .int .i64 0]) ∧ Below W.heap.size W w') := fun W =>
          put_nil W (wordV l s) n (wordB l s) (by unfold wordB; rw [hn]; rfl) (by omega) (by omega)
        have Kc : Hid (∀ {W : World}, Env w W [] [(mb, outP (wordsTo l m i) M, 37), (g, outC l fun _ => true, 34), (w.heap.size, #[.string ⟨#[]⟩, .int .i64 0], 37)] → W.cell? ⟨g, s * 2, none⟩ = some (.int .i64 (n : Nat))) := fun h => by
          refine h.cellv 1 rfl (s * 2) _ ?_
          rw [outC_get _ _ _ (by rw [HN.out]; omega)]
          unfold wcell
          rw [if_pos (by omega), show s * 2 / 2 = s by omega, hn]
          rfl
        have Kd : Hid (∀ {W : World}, Env w W [] [(mb, outP (wordsTo l m i) M, 37), (g, outC l fun _ => true, 34), (w.heap.size, #[.string ⟨#[]⟩, .int .i64 0], 37)] → W.cell? ⟨g, s * 2 + 1, none⟩ = some (.int .u64 (wordV l s : Nat))) := fun h => by
          refine h.cellv 1 rfl (s * 2 + 1) _ ?_
          rw [outC_get _ _ _ (by rw [HN.out]; omega)]
          unfold wcell
          rw [if_neg (by omega), show (s * 2 + 1) / 2 = s by omega]
          rfl
        have hset := outP_set (wordsTo l m i) (wordB l s) M i hit hlw
        rw [← wordsTo_succ l m i s hxm] at hset
        have Hset := Lib.hid hset
        have Hnx : Hid (∀ x ∈ m.take (i + 1), 0 ≤ x ∧ x < l.length) := fun x hx => by
          rw [List.take_add_one, hxm, List.mem_append] at hx
          rcases hx with hx | hx
          · exact Hgood.out x hx
          · simp at hx
            rw [HN.out]
            omega
        have k0 := Kc.out HE.out
        have k1 := Kd.out HE.out
        clear hxm hrx hbad hn hvlt hp20 h20 hset hlw Hgood
        obtain ⟨v, hv⟩ : ∃ v, wordV l s = v := ⟨_, rfl⟩
        rw [hv] at k1 CP Kd
        generalize hwB : wordB l s = wB at *
        clear hv hwB
        go_wp2_with fail
        refine wp_region_noPanic ?_
        refine wp_region_held_drew (S := (fun w' => w'.cell? ⟨g, s * 2, none⟩ = some (.int .i64 (n : Nat)) ∧ w'.cell? ⟨g, s * 2 + 1, none⟩ = some (.int .u64 (v : Nat)))) (by kernel_rfl) ?_ (fun hHeld => ?_)
        · (refine ⟨?_, ?_⟩ <;> (go_simp; try assumption))
        refine held_yes (v := ?_) 0 (by simp only [List.getElem?_toArray, List.getElem?_cons_zero]; rfl) (by kernel_rfl) (fun _ _ _ h => h) (by rfl) (by assumption) ?_ ?_
        rotate_left
        · (intro w hSw; (try dsimp only at hSw); go_simp; try with_reducible rfl)
        try simp only [Act.put, List.setIfInBounds_toArray, List.set_cons_zero, List.set_cons_succ]
        refine held_yes (v := ?_) 1 (by simp only [List.getElem?_toArray, List.getElem?_cons_succ, List.getElem?_cons_zero]; rfl) (by kernel_rfl) (fun _ _ _ h => h) (by rfl) (by assumption) ?_ ?_
        rotate_left
        · (intro w hSw; (try dsimp only at hSw); go_simp; try with_reducible rfl)
        try simp only [Act.put, List.setIfInBounds_toArray, List.set_cons_zero, List.set_cons_succ]
        refine held_yes (v := ?_) 2 (by simp only [List.getElem?_toArray, List.getElem?_cons_succ, List.getElem?_cons_zero]; rfl) (by kernel_rfl) (fun _ _ _ h => h) (by rfl) (by assumption) ?_ ?_
        rotate_left
        · (intro w hSw; (try dsimp only at hSw); go_simp; try with_reducible rfl)
        try simp only [Act.put, List.setIfInBounds_toArray, List.set_cons_zero, List.set_cons_succ]
        refine held_yes (v := ?_) 3 (by simp only [List.getElem?_toArray, List.getElem?_cons_succ, List.getElem?_cons_zero]; rfl) (by kernel_rfl) (fun _ _ _ h => h) (by rfl) (by assumption) ?_ ?_
        rotate_left
        · (intro w hSw; (try dsimp only at hSw); go_simp; try with_reducible rfl)
        try simp only [Act.put, List.setIfInBounds_toArray, List.set_cons_zero, List.set_cons_succ]
        refine held_yes (v := ?_) 4 (by simp only [List.getElem?_toArray, List.getElem?_cons_succ, List.getElem?_cons_zero]; rfl) (by kernel_rfl) (fun _ _ _ h => h) (by rfl) (by assumption) ?_ ?_
        rotate_left
        · (intro w hSw; (try dsimp only at hSw); go_simp; try with_reducible rfl)
        try simp only [Act.put, List.setIfInBounds_toArray, List.set_cons_zero, List.set_cons_succ]
        refine held_yes (v := ?_) 5 (by simp only [List.getElem?_toArray, List.getElem?_cons_succ, List.getElem?_cons_zero]; rfl) (by kernel_rfl) (fun _ _ _ h => h) (by rfl) (by assumption) ?_ ?_
        rotate_left
        · (intro w hSw; (try dsimp only at hSw); go_simp; try with_reducible rfl)
        try simp only [Act.put, List.setIfInBounds_toArray, List.set_cons_zero, List.set_cons_succ]
        refine held_yes (v := ?_) 6 (by simp only [List.getElem?_toArray, List.getElem?_cons_succ, List.getElem?_cons_zero]; rfl) (by kernel_rfl) (fun _ _ _ h => h) (by rfl) (by assumption) ?_ ?_
        rotate_left
        · (intro w hSw; (try dsimp only at hSw); go_simp; try with_reducible rfl)
        try simp only [Act.put, List.setIfInBounds_toArray, List.set_cons_zero, List.set_cons_succ]
        refine held_yes (v := ?_) 7 (by simp only [List.getElem?_toArray, List.getElem?_cons_succ, List.getElem?_cons_zero]; rfl) (by kernel_rfl) (fun _ _ _ h => h) (by rfl) (by assumption) ?_ ?_
        rotate_left
        · (intro w hSw; (try dsimp only at hSw); go_simp; try with_reducible rfl)
        try simp only [Act.put, List.setIfInBounds_toArray, List.set_cons_zero, List.set_cons_succ]
        refine held_yes (v := ?_) 8 (by simp only [List.getElem?_toArray, List.getElem?_cons_succ, List.getElem?_cons_zero]; rfl) (by kernel_rfl) (fun _ _ _ h => h) (by rfl) (by assumption) ?_ ?_
        rotate_left
        · (intro w hSw; (try dsimp only at hSw); go_simp; try with_reducible rfl)
        try simp only [Act.put, List.setIfInBounds_toArray, List.set_cons_zero, List.set_cons_succ]
        refine held_yes (v := ?_) 9 (by simp only [List.getElem?_toArray, List.getElem?_cons_succ, List.getElem?_cons_zero]; rfl) (by kernel_rfl) (fun _ _ _ h => h) (by rfl) (by assumption) ?_ ?_
        rotate_left
        · (intro w hSw; (try dsimp only at hSw); go_simp; try with_reducible rfl)
        try simp only [Act.put, List.setIfInBounds_toArray, List.set_cons_zero, List.set_cons_succ]
        refine held_yes (v := ?_) 10 (by simp only [List.getElem?_toArray, List.getElem?_cons_succ, List.getElem?_cons_zero]; rfl) (by kernel_rfl) (fun _ _ _ h => h) (by rfl) (by assumption) ?_ ?_
        rotate_left
        · (intro w hSw; (try dsimp only at hSw); go_simp; try with_reducible rfl)
        try simp only [Act.put, List.setIfInBounds_toArray, List.set_cons_zero, List.set_cons_succ]
        refine held_yes (v := ?_) 11 (by simp only [List.getElem?_toArray, List.getElem?_cons_succ, List.getElem?_cons_zero]; rfl) (by kernel_rfl) (fun _ _ _ h => h) (by rfl) (by assumption) ?_ ?_
        rotate_left
        · (intro w hSw; (try dsimp only at hSw); go_simp; try with_reducible rfl)
        try simp only [Act.put, List.setIfInBounds_toArray, List.set_cons_zero, List.set_cons_succ]
        refine held_yes (v := ?_) 12 (by simp only [List.getElem?_toArray, List.getElem?_cons_succ, List.getElem?_cons_zero]; rfl) (by kernel_rfl) (fun _ _ _ h => h) (by rfl) (by assumption) ?_ ?_
        rotate_left
        · (intro w hSw; (try dsimp only at hSw); go_simp; try with_reducible rfl)
        try simp only [Act.put, List.setIfInBounds_toArray, List.set_cons_zero, List.set_cons_succ]
        refine held_one 13 (by simp only [List.getElem?_toArray, List.getElem?_cons_succ, List.getElem?_cons_zero]; rfl) (by kernel_rfl) (by rfl) (fun K hK => ?_)
        go_simp
        go_at_call 29
        refine (CP.out _).mono ?_
        rintro e w8 ⟨rfl, hB8⟩
        have E8 := Lib.hid (HE.out.drew.step hB8)
        clear hB8
        have k0 := Kc.out E8.out
        have k1 := Kd.out E8.out
        have c0 := E8.out.cellv 0 rfl (i * 2) _ (outP_get _ _ _ (by omega))
        have c1 := E8.out.cellv 0 rfl (i * 2 + 1) _ (outP_get _ _ _ (by omega))
        have f0 := E8.out.frozen 0 rfl (i * 2)
        have f1 := E8.out.frozen 0 rfl (i * 2 + 1)
        have hml := E8.out.lt 0 rfl
        refine hK.out _ _ ?_ (fun hHeld => ?_)
        · (refine ⟨?_, ?_⟩ <;> (go_simp; try assumption))
        clear hK K
        try simp only [Act.put, List.setIfInBounds_toArray, List.set_cons_zero, List.set_cons_succ]
        refine held_yes (v := ?_) 14 (by simp only [List.getElem?_toArray, List.getElem?_cons_succ, List.getElem?_cons_zero]; rfl) (by kernel_rfl) (fun _ _ _ h => h) (by rfl) (by assumption) ?_ ?_
        rotate_left
        · (intro w hSw; (try dsimp only at hSw); go_simp; try with_reducible rfl)
        try simp only [Act.put, List.setIfInBounds_toArray, List.set_cons_zero, List.set_cons_succ]
        refine held_yes (v := ?_) 15 (by simp only [List.getElem?_toArray, List.getElem?_cons_succ, List.getElem?_cons_zero]; rfl) (by kernel_rfl) (fun _ _ _ h => h) (by rfl) (by assumption) ?_ ?_
        rotate_left
        · (intro w hSw; (try dsimp only at hSw); go_simp; try with_reducible rfl)
        try simp only [Act.put, List.setIfInBounds_toArray, List.set_cons_zero, List.set_cons_succ]
        refine held_yes (v := ?_) 16 (by simp only [List.getElem?_toArray, List.getElem?_cons_succ, List.getElem?_cons_zero]; rfl) (by kernel_rfl) (fun _ _ _ h => h) (by rfl) (by assumption) ?_ ?_
        rotate_left
        · (intro w hSw; (try dsimp only at hSw); go_simp; try with_reducible rfl)
        try simp only [Act.put, List.setIfInBounds_toArray, List.set_cons_zero, List.set_cons_succ]
        refine held_yes (v := ?_) 17 (by simp only [List.getElem?_toArray, List.getElem?_cons_succ, List.getElem?_cons_zero]; rfl) (by kernel_rfl) (fun _ _ _ h => h) (by rfl) (by assumption) ?_ ?_
        rotate_left
        · (intro w hSw; (try dsimp only at hSw); go_simp; try with_reducible rfl)
        try simp only [Act.put, List.setIfInBounds_toArray, List.set_cons_zero, List.set_cons_succ]
        refine held_one 18 (by simp only [List.getElem?_toArray, List.getElem?_cons_succ, List.getElem?_cons_zero]; rfl) (by kernel_rfl) (by rfl) (fun K hK => ?_)
        go_simp
        skip
        refine hK.out _ _ ?_ (fun hHeld => ?_)
        · (refine ⟨?_, ?_⟩ <;> (go_simp; try assumption))
        clear hK K
        try simp only [Act.put, List.setIfInBounds_toArray, List.set_cons_zero, List.set_cons_succ]
        refine wpAnyH_done (by kernel_rfl) ?_ _
        refine NoPanic.normal ?_
        go_wp2_with fail
        go_roundw
        case rel => exact ⟨i + 1, by omega, by go_num, Hnx.out, by
          have h2 := (E8.out.place (by omega) (fun p hp => by simp at hp; rcases hp with rfl | rfl <;> simp <;> omega) (i * 2) (.string (txt wB))).place (by omega) (fun p hp => by simp at hp; rcases hp with rfl | rfl <;> simp <;> omega) (i * 2 + 1) (.int .i64 ((wB.length : Nat) : Int))
          rw [Hset.out] at h2
          exact h2⟩
        case measure => simp [intOf]; omega
      · have hno : Hid (codePut l m = ([], 5)) := by
          show _ = _
          unfold codePut
          rw [if_neg]
          intro h
          have := h x (List.mem_of_getElem? hxm)
          rw [HN.out] at this
          exact hbad this
        clear hxm hlw Hgood
        by_cases hx0 : x < 0
        · clear hbad
          go_wp2_with fail
          refine bodyPost_ret (results_cell_tmp rfl _ _ _ ⟨w.heap.size, 0, none⟩ _ rfl (loadVar_bits _ _ _ _ (heap_set2 (HE.out.blk 2 rfl) _ _))) rfl ?_
          exact ⟨by rw [hno.out]; rfl, (HE.out.bel.setCell (p := ⟨w.heap.size, 0, none⟩) (Nat.le_refl _) _).setCell (p := ⟨w.heap.size, 1, none⟩) (Nat.le_refl _) _⟩
        · have hxN : (N : Int) ≤ x := by omega
          clear hbad
          go_wp2_with fail
          refine bodyPost_ret (results_cell_tmp rfl _ _ _ ⟨w.heap.size, 0, none⟩ _ rfl (loadVar_bits _ _ _ _ (heap_set2 (HE.out.blk 2 rfl) _ _))) rfl ?_
          exact ⟨by rw [hno.out]; rfl, (HE.out.bel.setCell (p := ⟨w.heap.size, 0, none⟩) (Nat.le_refl _) _).setCell (p := ⟨w.heap.size, 1, none⟩) (Nat.le_refl _) _⟩
    · obtain rfl : i = M := by omega
      have hyes : Hid (codePut l m = (putB l (m.map Int.toNat), 0)) := by
        show _ = _
        unfold codePut
        rw [if_pos]
        have := Hgood.out
        rw [← HM.out, List.take_length] at this
        exact this
      have hlp := length_putB_le Hlc.out.fits (m.map Int.toNat)
      rw [List.length_map, HM.out] at hlp
      have hpr := pairs_of_heap (HE.out.blk 0 rfl) hlw (Nat.le_trans hm (by decide))
      have CC : Hid (Calls Try.prog 23 #[.slice (some ⟨mb, 0, none⟩) i i] wr fun e w' =>
        e = .returned (.tuple #[.agg #[.string (txt (putB l (m.map Int.toNat))), .int .i64 ((putB l (m.map Int.toNat)).length : Nat)], .int .i64 0]) ∧ Below wr.heap.size wr w') :=
        cat_is wr _ (wordsTo l m i) _ (by rw [← HM.out]; exact wordsTo_all l m) hpr (by rw [hlw]; omega)
      clear hpr hlw Hgood hlp
      generalize putB l (m.map Int.toNat) = r at *
      go_wp2_with fail
      refine CC.out.mono ?_
      rintro e w8 ⟨rfl, hB8⟩
      have E8 := Lib.hid (HE.out.step hB8)
      have c0 := E8.out.cellv 2 rfl 0 _ rfl
      have c1 := E8.out.cellv 2 rfl 1 _ rfl
      have d0 := E8.out.frozen 2 rfl 0
      have d1 := E8.out.frozen 2 rfl 1
      have dl := E8.out.lt 2 rfl
      clear hB8 CC
      go_wp2_with fail
      refine bodyPost_ret (results_cell_tmp rfl _ _ _ ⟨w.heap.size, 0, none⟩ _ rfl (loadVar_bits _ _ _ _ (heap_set2 (E8.out.blk 2 rfl) _ _))) rfl ?_
      exact ⟨by rw [hyes.out]; rfl, (E8.out.bel.setCell (p := ⟨w.heap.size, 0, none⟩) (Nat.le_refl _) _).setCell (p := ⟨w.heap.size, 1, none⟩) (Nat.le_refl _) _⟩

set_option maxRecDepth 100000 in
set_option maxHeartbeats 1600000 in
theorem cput_er (w : World) (v1 v2 : Value) (l : List Int) (hv : IsInts w w.heap.size v1 l) (hl : l.length ≤ 1000000) (hc : checkF l ≠ 0) :
    Calls Try.prog 18 #[v1, v2] w fun e w' => e = .returned (.tuple #[.agg #[.string (txt []), .int .i64 (([] : List Bool).length : Nat)], .int .i64 (checkF l)]) ∧ Below w.heap.size w w' := by
  have CW : Hid (∀ W, Below w.heap.size w W → Calls Try.prog 13 #[v1] W fun e w' => e = .returned (.tuple #[.slice none 0 0, .int .i64 (checkF l)]) ∧ Below W.heap.size W w') := fun W hB => words_er W _ l (ints_up hv hB) hl hc
  obtain ⟨A, ca, rfl, hc1, hc2⟩ := hv.shape
  generalize checkF l = z at *
  have hz : (z != 0) = true := by rw [bne_iff_ne]; exact hc
  clear hv hc
  go_enter Try.func18, Try.ntmps18
  go_wp2_with fail
  refine (CW.out _ ((Below.refl _ w).alloc (Nat.le_refl _) _)).mono ?_
  rintro e w1 ⟨rfl, hB1⟩
  have E1 := Lib.hid (((Env.nil w).box #[.string ⟨#[]⟩, .int .i64 0] 37 w.heap.size rfl).step hB1)
  have c0 := E1.out.cellv 0 rfl 0 _ rfl
  have c1 := E1.out.cellv 0 rfl 1 _ rfl
  have d0 := E1.out.frozen 0 rfl 0
  have d1 := E1.out.frozen 0 rfl 1
  have dl := E1.out.lt 0 rfl
  clear hB1 CW
  go_wp2_with fail
  refine bodyPost_ret (results_cell_tmp rfl _ _ _ ⟨w.heap.size, 0, none⟩ _ rfl (loadVar_bits _ _ _ _ (heap_set2 (E1.out.blk 0 rfl) _ _))) rfl ?_
  exact ⟨by rfl, (E1.out.bel.setCell (p := ⟨w.heap.size, 0, none⟩) (Nat.le_refl _) _).setCell (p := ⟨w.heap.size, 1, none⟩) (Nat.le_refl _) _⟩
end Go.Proofs.Ytkicaimondpceaa
