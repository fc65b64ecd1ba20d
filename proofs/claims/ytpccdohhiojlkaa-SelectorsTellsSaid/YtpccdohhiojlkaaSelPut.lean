/- selectors.Put: the walk. -/
import Derived.Test.YtpccdohhiojlkaaSelTake
namespace Go.Proofs.Ytpccdohhiojlkaa
open Go.RowKit
set_option linter.unusedVariables false

set_option maxHeartbeats 800000 in
theorem index_any (w : World) (v : Value) (xs : List Int) (x : Int) (k : Nat) (hv : IsInts w w.heap.size v xs) (hlen : xs.length ≤ 281474976710656) (hk : xs[k]? = some x) (hn : ∀ j, j < k → xs[j]?.getD 0 ≠ x) :
    Calls Try.prog 25 #[v, .int .i64 x] w fun e w' => e = .returned (.int .i64 (k : Nat)) ∧ w = w' := by
  obtain ⟨A, ca, rfl, hc1, hc2⟩ := hv.shape
  have hkl : k < xs.length := by
    rcases Nat.lt_or_ge k xs.length with h | h
    · exact h
    · rw [List.getElem?_eq_none h] at hk; cases hk
  obtain ⟨N, hN⟩ : ∃ N, xs.length = N := ⟨_, rfl⟩
  rw [hN] at hv hc1 hkl hlen ⊢
  have HN := Lib.hid hN
  have Hv := Lib.hid hv
  have Hk := Lib.hid hk
  have Hn := Lib.hid hn
  clear hv hk hn hN
  go_enter Try.func25, Try.ntmps25
  go_wp2
  go_loop [8] (fun iv => ∃ i : Nat, i ≤ k ∧ iv = .int .i64 i) (fun iv => N - (intOf iv).toNat)
  case atStart => exact ⟨0, Nat.zero_le _, rfl⟩
  case round =>
    obtain ⟨i, hi, rfl⟩ := hrel
    obtain ⟨g, o, rfl, hg, hc⟩ := Hv.out.at i (by rw [HN.out]; omega)
    by_cases hik : i = k
    · subst hik
      rw [Hk.out, Option.getD_some] at hc
      go_wp2
      go_ret
      exact ⟨rfl, rfl⟩
    · have hne := Hn.out i (by omega)
      obtain ⟨y, hy⟩ : ∃ y, xs[i]?.getD 0 = y := ⟨_, rfl⟩
      rw [hy] at hc hne
      have ht : (x == y) = false := by rw [beq_eq_false_iff_ne]; exact fun e => hne e.symm
      clear hy hne
      go_wp2
      go_round
      case rel => exact ⟨i + 1, by omega, by go_num⟩
      case measure => simp [intOf]; omega
def badF (t n : Int) : Bool := decide (n < 0) || decide (t ≤ n)
theorem sput1_any (n t : Int) (b : Nat) (W : World) (hc : W.cell? ⟨b, 0, none⟩ = some (.int .i64 t)) : Calls Try.prog 23 #[.int .i64 n, .pointer (some ⟨b, 0, none⟩)] W fun e w' => e = .returned (.bool (badF t n)) ∧ W = w' := by
  unfold badF
  rcases h1 : decide (n < 0) with _ | _ <;> rcases h2 : decide (t ≤ n) with _ | _ <;>
  · go_enter Try.func23, Try.ntmps23
    go_wp2
    go_ret
    exact ⟨rfl, rfl⟩
theorem enters_sput : Enters Try.prog 23 := enters_of Try.func23 (by kernel_rfl) rfl
theorem row_ints {w : World} {b : Nat} {p : List Nat} {t : Nat} (h : RowAt w b p t) (hp : p.length = 6) : IsInts w w.heap.size (.slice (some ⟨b, 0, none⟩) 6 6) (ints p) := by
  refine ⟨by rw [length_intCells, Nat.mul_one], _, 6, by rw [length_ints, hp], by rw [length_ints, hp]; omega, by unfold maxLen; omega, fun _ => ⟨b, 0, rfl, lt_of_heap h, fun i u hu => ?_⟩⟩
  rw [getElem?_intCells] at hu
  have hi : i < p.length := by
    rcases Nat.lt_or_ge i p.length with h | h
    · exact h
    · rw [List.getElem?_eq_none (by rw [length_ints]; exact h)] at hu; cases hu
  rw [Nat.zero_add, cell_of_heap h, rowC_cell p t i hp (by omega), ← hu]
  simp [ints, List.getElem?_eq_getElem hi]
/-- what lives in a round -/
structure PutSt (w wr : World) (b : Nat) (p : List Nat) (t : Nat) (v : Value) (ls : List (List Bool)) : Prop where
  bel : Below w.heap.size w wr
  hb : w.heap.size + 1 + 1 ≤ b
  size : b + 1 ≤ wr.heap.size
  out : wr.heap[w.heap.size + 1]? = some (.cells #[.string ⟨#[]⟩, .int .i64 0] 28 (0, 0))
  row : RowAt wr b p t
  own : wr.ownsRow (b + 1) 28 2 v ls.length (pairCells (ls.map pairOf))
section
variable {w wr w' w2 : World} {b : Nat} {p q : List Nat} {t : Nat} {v v' : Value} {ls : List (List Bool)}
theorem PutSt.step (h : PutSt w wr b p t v ls) (hB : Below wr.heap.size wr w') : PutSt w w' b p t v ls :=
  have hs := h.size
  have h2 := h.hb
  ⟨h.bel.trans (hB.mono h.bel.size), h.hb, by have := hB.size; omega, (hB.block _ (by omega)).trans h.out, (hB.block _ (by omega)).trans h.row, ownsRow_below h.own hB⟩
theorem PutSt.only (h : PutSt w wr b p t v ls) (hO : Only b wr w') (hR : RowAt w' b q t) : PutSt w w' b q t v ls :=
  have hs := h.size
  have h2 := h.hb
  ⟨h.bel.trans (hO.below (by omega) (by omega)), h.hb, by have := hO.size; omega, (hO.block _ (by omega) (by omega)).trans h.out, hR, ownsRow_only h.own hO (by omega)⟩
theorem pair_info : (Try.prog.info? 28).map (fun i => (i.zero, i.size, i.bytes)) = some (some (.agg #[.string ⟨#[]⟩, .int .i64 0]), 2, 24) := by kernel_rfl
theorem PutSt.appended {l : List Bool} {o : Obj} (h : PutSt w wr b p t v ls) (hg : (wr.alloc o).grownBy w2 v.ownBlock) (ho : w2.ownsRow (b + 1) 28 2 v' (ls.length + 1) (pairCells (ls.map pairOf) ++ [.string (txt l), .int .i64 (l.length : Nat)])) : PutSt w w2 b p t v' (ls ++ [l]) := by
  have hs := h.size
  have h2 := h.hb
  have hne : ∀ k, k < b + 1 → some k ≠ v.ownBlock := fun k hk e => by have := own_ge h.own e.symm; omega
  refine ⟨(h.bel.alloc (by omega) o).grown hg (by simp; omega) (fun k hk => by have := own_ge h.own hk; omega), h2, by have := hg.size; simp at this; omega, heap_grown hg (heap_up o h.out) (hne _ (by omega)), heap_grown hg (heap_up o h.row) (hne _ (by omega)), ?_⟩
  rw [List.length_append, List.map_append]
  have e : pairCells (ls.map pairOf ++ [l].map pairOf) = pairCells (ls.map pairOf) ++ [.string (txt l), .int .i64 (l.length : Nat)] := by simp [pairCells, pairOf]
  rw [e]
  exact ho
end
theorem pairs_own {w : World} {base : Nat} {v : Value} {ls : List (List Bool)} (h : w.ownsRow base 28 2 v ls.length (pairCells (ls.map pairOf))) : IsPairs w w.heap.size v (ls.map pairOf) := by
  have := Rd.own h
  unfold IsPairs
  rw [List.length_map]
  exact this
theorem length_selL (t : Nat) (ht : t ≤ 6) (ns : List Nat) : ∀ p, Tabs t p → (∀ n ∈ ns, n < t) → (selL p ns).length ≤ 6 * ns.length := by
  induction ns with
  | nil => intro p _ _; simp [selL]
  | cons n ns ih =>
    intro p hp hn
    obtain ⟨h1, _⟩ := tabs_idx hp ht (hn n (by simp))
    have := ih _ (mtf_tabs hp ht h1) fun m hm => hn m (by simp [hm])
    rw [selL, List.length_append, length_unary, List.length_cons]
    omega
theorem rd_of_heap {c : World} {k n sz : Nat} {cs : Array Value} {t : TypeId} (h : c.heap[k]? = some (.cells cs t (0, 0))) (hs : cs.size = n * sz) (hn : n ≤ maxLen) : Rd c c.heap.size sz (.slice (some ⟨k, 0, none⟩) n n) n cs.toList :=
  ⟨by simpa using hs, _, n, rfl, Nat.le_refl _, hn, fun _ => ⟨k, 0, rfl, lt_of_heap h, fun i u hu => by rw [Nat.zero_add, cell_of_heap h, ← hu]; simp⟩⟩
theorem idx_first {t : Nat} {p : List Nat} {n : Nat} (h : Tabs t p) (ht : t ≤ 6) (hn : n < t) : (ints p)[p.idxOf n]? = some (n : Int) ∧ ∀ j, j < p.idxOf n → (ints p)[j]?.getD 0 ≠ (n : Int) := by
  obtain ⟨h1, h2⟩ := tabs_idx h ht hn
  have hl := h.1
  have hlt : p.idxOf n < p.length := by omega
  refine ⟨?_, fun j hj => ?_⟩
  · rw [List.getD_eq_getElem?_getD, List.getElem?_eq_getElem hlt, Option.getD_some] at h2
    simp [ints, List.getElem?_eq_getElem hlt, h2]
  · have hj6 : j < p.length := by omega
    obtain ⟨h3, h4⟩ := tabs_at h ht (show j < t by omega)
    intro e
    have e2 : (ints p)[j]?.getD 0 = ((p.getD j 0 : Nat) : Int) := by simp [ints, List.getD_eq_getElem?_getD, List.getElem?_eq_getElem hj6]
    rw [e2] at e
    have e3 : p.getD j 0 = n := by omega
    rw [e3] at h4
    omega

set_option maxRecDepth 100000 in
set_option maxHeartbeats 3200000 in
theorem selPut_any (w : World) (v : Value) (ns : List Nat) (t : Nat) (hv : IsInts w w.heap.size v (ints ns)) (hl : ns.length ≤ 1048576) (ht : 2 ≤ t) (ht6 : t ≤ 6) (hn : ∀ n ∈ ns, n < t) :
    Calls Try.prog 11 #[v, .int .i64 (t : Nat)] w fun e w' => e = .returned (.tuple #[.agg #[.string (txt (selL (List.range 6) ns)), .int .i64 ((selL (List.range 6) ns).length : Nat)], .int .i64 0]) ∧ Below w.heap.size w w' := by
  obtain ⟨i0, hi0, hz0, hz1, hz2⟩ := info_parts pair_info
  have hmf := hmf
  obtain ⟨A, ca, rfl, hc1, hc2⟩ := hv.shape
  have CF : Hid (∀ W, Calls Try.prog 21 #[.int .i64 (t : Nat)] W fun e w' => e = .returned (.bool true) ∧ W = w') := fun W => by
    have := fits_any (t : Nat) W
    rw [show (decide ((2 : Int) ≤ (t : Nat)) && decide ((t : Int) ≤ 6)) = true by simp; omega] at this
    exact this
  obtain ⟨W1, hW1⟩ : ∃ W1, ((w.alloc (.cells #[.int .i64 (t : Nat)] 3)).alloc (.cells #[.string ⟨#[]⟩, .int .i64 0] 28)) = W1 := ⟨_, rfl⟩
  have hB1 : Below w.heap.size w W1 := by rw [← hW1]; exact ((Below.refl _ _).alloc (Nat.le_refl _) _).alloc (by simp) _
  have hz1' : W1.heap.size = w.heap.size + 1 + 1 := by rw [← hW1]; simp
  have ht0 : W1.heap[w.heap.size]? = some (.cells #[.int .i64 (t : Nat)] 3 (0, 0)) := by rw [← hW1]; exact heap_up _ (heap_new _ _ _ rfl)
  have ho0 : W1.heap[w.heap.size + 1]? = some (.cells #[.string ⟨#[]⟩, .int .i64 0] 28 (0, 0)) := by rw [← hW1]; exact heap_new _ _ _ (by simp)
  have kt : W1.cell? ⟨w.heap.size, 0, none⟩ = some (.int .i64 (t : Nat)) := cell_of_heap ht0 0
  have CC : Hid (Calls Try.prog 22 #[.slice A ns.length ca, .func (.func 23) #[] #[.pointer (some ⟨w.heap.size, 0, none⟩)]] W1 fun e w' => e = .returned (.bool false) ∧ Below W1.heap.size W1 w') := by
    have h := containsFunc_any W1 _ (ints ns) (badF (t : Nat)) 23 #[.pointer (some ⟨w.heap.size, 0, none⟩)] enters_sput ((hv.below hB1 (Nat.le_refl _)).mono hB1.size) (by rw [length_ints]; omega) (fun x _ W' hB => sput1_any x t w.heap.size W' ((hB.cell (p := ⟨w.heap.size, 0, none⟩) (by simp; omega)).trans kt))
    rw [length_ints] at h
    have hf : (ints ns).any (badF (t : Nat)) = false := by
      rw [List.any_eq_false]
      intro x hx
      simp only [ints, List.mem_map] at hx
      obtain ⟨a, ha, rfl⟩ := hx
      have := hn a ha
      simp [badF]
      omega
    rw [hf] at h
    exact h
  obtain ⟨D, hD⟩ : ∃ D, selL (List.range 6) ns = D := ⟨_, rfl⟩
  have hDl : D.length ≤ 6 * ns.length := by rw [← hD]; exact length_selL t ht6 ns _ (tabs_start t ht6) hn
  rw [hD]
  obtain ⟨N, hN⟩ : ∃ N, ns.length = N := ⟨_, rfl⟩
  rw [length_ints] at hc1 ⊢
  rw [hN] at hl CC hc1 hDl ⊢
  have HN := Lib.hid hN
  have HD := Lib.hid hD
  have Hv := Lib.hid hv
  have Hn := Lib.hid hn
  have HW1 := Lib.hid hW1
  have HB1 := Lib.hid hB1
  have HO0 := Lib.hid ho0
  clear hN hD hv hn hW1 hB1 ho0
  go_enter Try.func11, Try.ntmps11
  go_wp2_with fail
  refine (CF.out _).mono ?_
  rintro e w1 ⟨rfl, rfl⟩
  go_wp2_with fail
  rw [HW1.out]
  refine CC.out.mono ?_
  rintro e w2 ⟨rfl, hB2⟩
  have kt2 : w2.cell? ⟨w.heap.size, 0, none⟩ = some (.int .i64 (t : Nat)) := (hB2.cell (p := ⟨w.heap.size, 0, none⟩) (by simp; omega)).trans kt
  have ho2 : w2.heap[w.heap.size + 1]? = _ := (hB2.block (w.heap.size + 1) (by omega)).trans HO0.out
  have hBw2 : Below w.heap.size w w2 := HB1.out.trans (hB2.mono HB1.out.size)
  have hz2' : w.heap.size + 1 + 1 ≤ w2.heap.size := by have := hB2.size; omega
  have HO2 := Lib.hid ho2
  have HBw2 := Lib.hid hBw2
  clear hB2 ho2 hBw2 kt HO0 HB1 CC CF ht0 HW1
  go_wp2_with fail
  refine (of_any' w2 t ht6).mono ?_
  rintro e w3 ⟨rfl, hw3⟩
  have S3 : PutSt w w3 w2.heap.size (List.range 6) t (.slice none 0 0) [] := by
    rw [hw3]
    exact ⟨HBw2.out.alloc (by omega) _, hz2', by simp, heap_up _ HO2.out, heap_new _ _ _ rfl, World.ownsRow_nil _ _ _ _⟩
  have HS3 := Lib.hid S3
  clear S3 hw3 HO2 kt2
  go_wp2_with fail
  go_loopw [7, 25] (fun lv iv wr => ∃ (j : Nat) (p : List Nat) (ls : List (List Bool)), j ≤ N ∧ iv = .int .i64 (j : Nat) ∧ ls.length = j ∧ Tabs t p ∧ ls.flatten ++ selL p (ns.drop j) = D ∧ PutSt w wr w2.heap.size p t lv ls) (fun _ iv _ => N + 1 - (intOf iv).toNat)
  case atStart => exact ⟨0, List.range 6, [], by omega, rfl, rfl, tabs_start t ht6, by rw [List.drop_zero]; exact HD.out, HS3.out⟩
  case round =>
    obtain ⟨j, p, ls, hj, rfl, hll, htp, hfl, hS⟩ := hrel
    have HS := Lib.hid hS
    have HLL := Lib.hid hll
    have HT := Lib.hid htp
    have HFL := Lib.hid hfl
    have hzr := hS.size
    clear hS hll htp hfl HS3
    by_cases hlt : j < N
    · obtain ⟨n, hnj⟩ : ∃ n, ns[j]? = some n := ⟨_, List.getElem?_eq_getElem (by rw [HN.out]; exact hlt)⟩
      obtain ⟨g, o, rfl, hg, hx⟩ := Hv.out.at j (by rw [length_ints, HN.out]; exact hlt)
      have hxn : (ints ns)[j]?.getD 0 = (n : Int) := by simp [ints, hnj]
      rw [hxn] at hx
      have hx' : wr.cell? ⟨g, o + j, none⟩ = some (.int .i64 (n : Int)) := (HS.out.bel.cell (p := ⟨g, o + j, none⟩) hg).trans hx
      have hnt := Hn.out n (List.mem_of_getElem? hnj)
      obtain ⟨hi1, hi2⟩ := idx_first HT.out ht6 hnt
      have hkt := (tabs_idx HT.out ht6 hnt).1
      have hdr : ns.drop j = n :: ns.drop (j + 1) := by
        obtain ⟨hlt', e⟩ := List.getElem?_eq_some_iff.1 hnj
        rw [List.drop_eq_getElem_cons hlt', e]
      have hfl := HFL.out
      rw [hdr, selL] at hfl
      obtain ⟨k, hk⟩ : ∃ k, p.idxOf n = k := ⟨_, rfl⟩
      rw [hk] at hi1 hi2 hkt hfl
      have CI := Lib.hid (index_any wr (.slice (some ⟨w2.heap.size, 0, none⟩) 6 6) (ints p) (n : Int) k (row_ints HS.out.row HT.out.1) (by rw [length_ints, HT.out.1]; omega) hi1 hi2)
      have CP : Hid (∀ W (V : Int), V = ((2 ^ (k + 1) - 2 : Nat) : Int) → Calls Try.prog 18 #[.agg #[.string ⟨#[]⟩, .int .i64 0], .int .u64 V, .int .i64 ((k : Int) + 1)] W fun e w' => e = .returned (.tuple #[.agg #[.string (txt (unary k)), .int .i64 ((unary k).length : Nat)], .int .i64 0]) ∧ Below W.heap.size W w') := fun W V hV => by
        rw [hV, show ((k : Int) + 1) = ((k + 1 : Nat) : Int) by omega]
        refine put_nil W (2 ^ (k + 1) - 2) (k + 1) (unary k) (low_unary k (by omega)) ?_ (by omega)
        have : 2 ^ (k + 1) ≤ 2 ^ 6 := Nat.pow_le_pow_right (by omega) (by omega)
        omega
      have hwr : ∀ V : Int, True := fun _ => trivial
      have HFL2 := Lib.hid hfl
      have hk6 : k = 0 ∨ k = 1 ∨ k = 2 ∨ k = 3 ∨ k = 4 ∨ k = 5 := by omega
      have Hk6 := Lib.hid hk6
      have hul := length_unary k
      have Hul := Lib.hid hul
      obtain ⟨ul, hule⟩ : ∃ u, (unary k).length = u := ⟨_, rfl⟩
      clear hi1 hi2 hdr hfl hx hnj hk hwr hul hxn hk6
      go_wp2_with fail
      refine CI.out.mono ?_
      rintro e w4 ⟨rfl, rfl⟩
      go_wp2_with fail
      refine (front_any wr w2.heap.size p t k HT.out.1 (by omega) HS.out.row).mono ?_
      rintro e w4 ⟨rfl, hO4, hR4⟩
      have HS4 := Lib.hid (HS.out.only hO4 hR4)
      clear hO4 hR4 HS CI
      go_wp2_with fail
      refine (CP.out _ _ (by rcases Hk6.out with rfl | rfl | rfl | rfl | rfl | rfl <;> decide)).mono ?_
      rintro e w5 ⟨rfl, hB5⟩
      have HS5 := Lib.hid (HS4.out.step hB5)
      have hls5 : ls.length ≤ 1048576 := by rw [HLL.out]; omega
      have hz5 := HS5.out.size
      have hoq := HS5.out.own
      clear hB5 HS4 CP
      rw [hule]
      go_wp2_with
        (at_builtin
         refine wpList_append_rd rfl _ _ 51 rfl (w2.heap.size + 1) 28 i0 (.agg #[.string ⟨#[]⟩, .int .i64 0]) 2 24 Try.underlying51 hi0 hz0 hz1 hz2 rfl (by decide) _ ls.length (pairCells (ls.map pairOf)) rfl ((HS5.out.own.alloc _).alloc _) _ 1 _ [.string (txt (unary k)), .int .i64 ((ul : Nat) : Int)] rfl (rd_of_heap (heap_new1 w5 _ (.cells #[.string (txt (unary k)), .int .i64 ((ul : Nat) : Int)] 28)) rfl (by simp [maxLen])) (by simp [Value.oneCell']) (by unfold maxLen; omega) (by omega) (by simp; omega) ?_
         intro v' w6 hown hg hat1
         have HS6 := Lib.hid ((HS5.out.step ((Below.refl _ w5).alloc (Nat.le_refl _) (.cells #[.string (txt (unary k)), .int .i64 ((ul : Nat) : Int)] 28))).appended (l := unary k) hg (by rw [hule]; exact hown))
         clear hown hg hat1)
      go_roundw
      case rel => exact ⟨j + 1, mtf p k, ls ++ [unary k], by omega, by go_num, by rw [List.length_append, HLL.out]; rfl, mtf_tabs HT.out ht6 hkt, by rw [List.flatten_append, List.append_assoc]; simpa using HFL2.out, HS6.out⟩
      case measure => simp [intOf]; omega
    · obtain rfl : j = N := by omega
      have hfl := HFL.out
      rw [List.drop_of_length_le (by rw [HN.out]; exact Nat.le_refl _), selL, List.append_nil] at hfl
      have hlen : D.length + 8 * ls.length < 1099511627776 := by have := HLL.out; omega
      have CC := Lib.hid (cat_is wr _ ls D hfl (pairs_own HS.out.own) hlen)
      have HSs := HS.out.size
      have HSb := HS.out.hb
      clear hfl hlen
      go_wp2_with fail
      refine CC.out.mono ?_
      rintro e w4 ⟨rfl, hB4⟩
      have HS4 := Lib.hid (HS.out.step hB4)
      have k0 : w4.cell? ⟨w.heap.size + 1, 0, none⟩ = some (.string ⟨#[]⟩) := cell_of_heap HS4.out.out 0
      have k1 : w4.cell? ⟨w.heap.size + 1, 1, none⟩ = some (.int .i64 0) := cell_of_heap HS4.out.out 1
      have f0 := frozen_of_heap HS4.out.out
      have hbel : Below w.heap.size w ((w4.setCell ⟨w.heap.size + 1, 0, none⟩ (.string (txt D))).setCell ⟨w.heap.size + 1, 1, none⟩ (.int .i64 (D.length : Nat))) := (HS4.out.bel.setCell (p := ⟨w.heap.size + 1, 0, none⟩) (by simp) _).setCell (p := ⟨w.heap.size + 1, 1, none⟩) (by simp) _
      clear hB4 HS
      go_wp2_with fail
      refine bodyPost_ret (v := .tuple #[.agg #[.string (txt D), .int .i64 (D.length : Nat)], .int .i64 0]) ?_ rfl ⟨rfl, hbel⟩
      simp [results, Try.results11, go_sem, k0, k1]
set_option maxRecDepth 100000 in
set_option maxHeartbeats 1600000 in
/-- too few tables, or too many -/
theorem selPut_arg (w : World) (v : Value) (t : Int) (h : (decide (2 ≤ t) && decide (t ≤ 6)) = false) :
    Calls Try.prog 11 #[v, .int .i64 t] w fun e w' => e = .returned (.tuple #[.agg #[.string ⟨#[]⟩, .int .i64 0], .int .i64 1]) ∧ Below w.heap.size w w' := by
  have CF := Lib.hid (fits_any t)
  rw [h] at CF
  have hbel : Below w.heap.size w ((w.alloc (.cells #[.int .i64 t] 3)).alloc (.cells #[.string ⟨#[]⟩, .int .i64 0] 28)) := ((Below.refl _ _).alloc (Nat.le_refl _) _).alloc (by simp) _
  clear h
  go_enter Try.func11, Try.ntmps11
  go_wp2_with fail
  refine (CF.out _).mono ?_
  rintro e w1 ⟨rfl, rfl⟩
  go_wp2_with fail
  refine bodyPost_ret (v := .tuple #[.agg #[.string ⟨#[]⟩, .int .i64 0], .int .i64 1]) ?_ rfl ⟨rfl, hbel⟩
  simp [results, Try.results11, go_sem]
set_option maxRecDepth 100000 in
set_option maxHeartbeats 1600000 in
/-- a table that there is not -/
theorem selPut_none (w : World) (v : Value) (xs : List Int) (t : Nat) (hv : IsInts w w.heap.size v xs) (hl : xs.length ≤ 1048576) (ht : 2 ≤ t) (ht6 : t ≤ 6) (hn : xs.any (badF (t : Nat)) = true) :
    Calls Try.prog 11 #[v, .int .i64 (t : Nat)] w fun e w' => e = .returned (.tuple #[.agg #[.string ⟨#[]⟩, .int .i64 0], .int .i64 5]) ∧ Below w.heap.size w w' := by
  have hmf := hmf
  have CF : Hid (∀ W, Calls Try.prog 21 #[.int .i64 (t : Nat)] W fun e w' => e = .returned (.bool true) ∧ W = w') := fun W => by
    have := fits_any (t : Nat) W
    rw [show (decide ((2 : Int) ≤ (t : Nat)) && decide ((t : Int) ≤ 6)) = true by simp; omega] at this
    exact this
  obtain ⟨A, ca, rfl, hc1, hc2⟩ := hv.shape
  obtain ⟨W1, hW1⟩ : ∃ W1, ((w.alloc (.cells #[.int .i64 (t : Nat)] 3)).alloc (.cells #[.string ⟨#[]⟩, .int .i64 0] 28)) = W1 := ⟨_, rfl⟩
  have hB1 : Below w.heap.size w W1 := by rw [← hW1]; exact ((Below.refl _ _).alloc (Nat.le_refl _) _).alloc (by simp) _
  have hz1' : W1.heap.size = w.heap.size + 1 + 1 := by rw [← hW1]; simp
  have ht0 : W1.heap[w.heap.size]? = some (.cells #[.int .i64 (t : Nat)] 3 (0, 0)) := by rw [← hW1]; exact heap_up _ (heap_new _ _ _ rfl)
  have ho0 : W1.heap[w.heap.size + 1]? = some (.cells #[.string ⟨#[]⟩, .int .i64 0] 28 (0, 0)) := by rw [← hW1]; exact heap_new _ _ _ (by simp)
  have kt : W1.cell? ⟨w.heap.size, 0, none⟩ = some (.int .i64 (t : Nat)) := cell_of_heap ht0 0
  have CC : Hid (Calls Try.prog 22 #[.slice A xs.length ca, .func (.func 23) #[] #[.pointer (some ⟨w.heap.size, 0, none⟩)]] W1 fun e w' => e = .returned (.bool true) ∧ Below W1.heap.size W1 w') := by
    have h := containsFunc_any W1 _ xs (badF (t : Nat)) 23 #[.pointer (some ⟨w.heap.size, 0, none⟩)] enters_sput ((hv.below hB1 (Nat.le_refl _)).mono hB1.size) (by omega) (fun x _ W' hB => sput1_any x t w.heap.size W' ((hB.cell (p := ⟨w.heap.size, 0, none⟩) (by simp; omega)).trans kt))
    rw [hn] at h
    exact h
  have HW1 := Lib.hid hW1
  have HB1 := Lib.hid hB1
  have HO0 := Lib.hid ho0
  clear hv hW1 hB1 ho0 hn
  go_enter Try.func11, Try.ntmps11
  go_wp2_with fail
  refine (CF.out _).mono ?_
  rintro e w1 ⟨rfl, rfl⟩
  go_wp2_with fail
  rw [HW1.out]
  refine CC.out.mono ?_
  rintro e w2 ⟨rfl, hB2⟩
  have ho2 := (hB2.block (w.heap.size + 1) (by omega)).trans HO0.out
  have hBw2 : Below w.heap.size w w2 := HB1.out.trans (hB2.mono HB1.out.size)
  have k0 : w2.cell? ⟨w.heap.size + 1, 0, none⟩ = some (.string ⟨#[]⟩) := cell_of_heap ho2 0
  have k1 : w2.cell? ⟨w.heap.size + 1, 1, none⟩ = some (.int .i64 0) := cell_of_heap ho2 1
  have f0 := frozen_of_heap ho2
  have l0 := lt_of_heap ho2
  have hbel : Below w.heap.size w ((w2.setCell ⟨w.heap.size + 1, 0, none⟩ (.string ⟨#[]⟩)).setCell ⟨w.heap.size + 1, 1, none⟩ (.int .i64 0)) := (hBw2.setCell (p := ⟨w.heap.size + 1, 0, none⟩) (by simp) _).setCell (p := ⟨w.heap.size + 1, 1, none⟩) (by simp) _
  clear hB2 ho2 hBw2 kt HO0 HB1 CC CF ht0 HW1
  go_wp2_with fail
  refine bodyPost_ret (v := .tuple #[.agg #[.string ⟨#[]⟩, .int .i64 0], .int .i64 5]) ?_ rfl ⟨rfl, hbel⟩
  simp [results, Try.results11, go_sem, k0, k1]
set_option maxRecDepth 100000 in
set_option maxHeartbeats 1600000 in
/-- what is no place, no count, no number of tables -/
theorem selTake_arg (w : World) (s : ByteArray) (a c t : Int) (h : ((decide (2 ≤ t) && decide (t ≤ 6)) && !(decide (a < 0)) && !(decide (c < 0)) && !(decide (1048576 < c))) = false) :
    Calls Try.prog 13 #[.string s, .int .i64 a, .int .i64 c, .int .i64 t] w fun e w' => e = .returned (.tuple #[.slice none 0 0, .int .i64 0, .int .i64 1]) ∧ Below w.heap.size w w' := by
  have CF := Lib.hid (fits_any t)
  generalize (decide (2 ≤ t) && decide (t ≤ 6)) = bt at *
  rcases h1 : decide (a < 0) with _ | _ <;> rcases h2 : decide (c < 0) with _ | _ <;> rcases h3 : decide (1048576 < c) with _ | _ <;> cases bt <;> first
    | (exfalso; rw [h1, h2, h3] at h; simp at h; done)
    | (clear h
       go_enter Try.func13, Try.ntmps13
       go_wp2_with fail
       refine (CF.out _).mono ?_
       rintro e w1 ⟨rfl, rfl⟩
       go_wp2_with fail
       go_ret3
       exact ⟨rfl, Below.refl _ _⟩)
end Go.Proofs.Ytpccdohhiojlkaa
