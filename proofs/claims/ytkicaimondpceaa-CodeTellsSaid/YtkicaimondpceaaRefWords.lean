/- The document's words: the walk. -/
import Derived.Test.YtkicaimondpceaaRefChk
import Derived.Test.YtkicaimondpceaaCodeWords
namespace Go.Proofs.Ytkicaimondpceaa
open Go.RowKit
set_option linter.unusedVariables false

/-- the number that the next word of n bits has, behind the first i symbols -/
def nxt (l : List Nat) (n i : Nat) : Nat := 2 * nextV l (n - 1) + (l.take i).count n
theorem nxt_all (l : List Nat) (n : Nat) (hn : 1 ≤ n) : nxt l n l.length = nextV l n := by
  obtain ⟨k, rfl⟩ : ∃ k, n = k + 1 := ⟨n - 1, by omega⟩
  unfold nxt
  rw [List.take_length, Nat.add_sub_cancel, nextV]
theorem nxt_up (l : List Nat) (n : Nat) (hn : 1 ≤ n) : nxt l (n + 1) 0 = 2 * nxt l n l.length := by
  rw [nxt_all l n hn]
  unfold nxt
  simp
theorem nxt_hit (l : List Nat) (n i : Nat) (h : l[i]? = some n) : nxt l n (i + 1) = nxt l n i + 1 ∧ wordV l i = nxt l n i := by
  unfold nxt wordV
  rw [List.take_add_one, h, List.count_append]
  simp
  omega
theorem nxt_miss (l : List Nat) (n i x : Nat) (h : l[i]? = some x) (hx : x ≠ n) : nxt l n (i + 1) = nxt l n i := by
  unfold nxt
  rw [List.take_add_one, h, List.count_append]
  simp [hx]
theorem nxt_le (l : List Nat) (hl : Code l) (n i : Nat) (h1 : 1 ≤ n) (h2 : n ≤ 20) : nxt l n i ≤ 1048576 := by
  have h3 := nextV_le l hl.fits hl.room n h2
  have h4 : (l.take i).count n ≤ l.count n := (List.take_sublist i l).count_le n
  have h5 := nxt_all l n h1
  unfold nxt at h5 ⊢
  rw [List.take_length] at h5
  have h6 : (2 : Nat) ^ n ≤ 2 ^ 20 := Nat.pow_le_pow_right (by omega) h2
  have h7 : (2 : Nat) ^ 20 = 1048576 := by decide
  omega
/-- what the last word says of the next one's number -/
def Stand (V last next n : Nat) : Prop := last = 0 ∧ V = 0 ∧ next = 0 ∨ 1 ≤ last ∧ last ≤ n ∧ V = (next + 1) * 2 ^ (n - last)
theorem Stand.up {V last next n : Nat} (h : Stand V last next n) : Stand (2 * V) last next (n + 1) := by
  rcases h with ⟨h1, h2, h3⟩ | ⟨h1, h2, h3⟩
  · exact .inl ⟨h1, by omega, h3⟩
  · refine .inr ⟨h1, by omega, ?_⟩
    rw [show n + 1 - last = (n - last) + 1 by omega, Nat.pow_succ, h3, Nat.mul_comm 2, Nat.mul_assoc]
/-- the words that are there -/
def upTo (l : List Nat) (n i s : Nat) : Bool := decide (l[s]?.getD 0 < n) || (decide (l[s]?.getD 0 = n) && decide (s < i))
theorem upTo_none (l : List Nat) (hf : Fits l) : outC l (fun _ => false) = outC l (upTo l 1 0) := outC_congr fun s hs => by
  have := hf (l[s]) (List.getElem_mem hs)
  simp [upTo, List.getElem?_eq_getElem hs]
  omega
theorem upTo_up (l : List Nat) (n : Nat) : outC l (upTo l n l.length) = outC l (upTo l (n + 1) 0) := outC_congr fun s hs => by
  rw [Bool.eq_iff_iff]
  simp [upTo, hs]
  omega
theorem upTo_hit (l : List Nat) (n i : Nat) (h : l[i]? = some n) : outC l (fun t => upTo l n i t || t == i) = outC l (upTo l n (i + 1)) := outC_congr fun s hs => by
  rw [Bool.eq_iff_iff]
  simp only [upTo, Bool.or_eq_true, Bool.and_eq_true, decide_eq_true_eq, beq_iff_eq]
  constructor
  · rintro ((h1 | ⟨h1, h2⟩) | rfl)
    · exact .inl h1
    · exact .inr ⟨h1, by omega⟩
    · exact .inr ⟨by rw [h]; rfl, by omega⟩
  · rintro (h1 | ⟨h1, h2⟩)
    · exact .inl (.inl h1)
    · by_cases e : s = i
      · exact .inr e
      · exact .inl (.inr ⟨h1, by omega⟩)
theorem upTo_miss (l : List Nat) (n i x : Nat) (h : l[i]? = some x) (hx : x ≠ n) : outC l (upTo l n i) = outC l (upTo l n (i + 1)) := outC_congr fun s hs => by
  rw [Bool.eq_iff_iff]
  simp only [upTo, Bool.or_eq_true, Bool.and_eq_true, decide_eq_true_eq]
  constructor
  · rintro (h1 | ⟨h1, h2⟩)
    · exact .inl h1
    · exact .inr ⟨h1, by omega⟩
  · rintro (h1 | ⟨h1, h2⟩)
    · exact .inl h1
    · by_cases e : s = i
      · subst e; rw [h] at h1; exact absurd h1 hx
      · exact .inr ⟨h1, by omega⟩
theorem upTo_full (l : List Nat) (hf : Fits l) : outC l (upTo l 21 0) = outC l (fun _ => true) := outC_congr fun s hs => by
  have := hf (l[s]) (List.getElem_mem hs)
  simp [upTo, List.getElem?_eq_getElem hs]
  omega
set_option maxRecDepth 100000 in
set_option maxHeartbeats 4000000 in
theorem rwords_ok (w : World) (v : Value) (l : List Nat) (hv : IsInts w w.heap.size v (ints l)) (hl : Code l) :
    Calls Try.prog 14 #[v] w fun e w' => ∃ u, e = .returned (.tuple #[u, .int .i64 0]) ∧ IsWords w' u l ∧ Below w.heap.size w w' := by
  obtain ⟨A, ca, rfl, hc1, hc2⟩ := hv.shape
  have hli := length_ints l
  obtain ⟨N, hN⟩ : ∃ N, l.length = N := ⟨_, rfl⟩
  rw [hli, hN] at hc1 hv ⊢
  have hN258 : N ≤ 258 := by rw [← hN]; exact hl.most
  have CC : Hid (Calls Try.prog 16 #[.slice A N ca] w fun e w' => e = .returned (.int .i64 0) ∧ w = w') := by
    have := rcheck_any w _ _ hv (by rw [hli]; omega)
    rw [hl.ok] at this
    exact this
  have hmk := run_make_words l N hN (by omega)
  have hn0 := upTo_none l hl.fits
  rw [hn0] at hmk
  have Hv := Lib.hid hv
  have HN := Lib.hid hN
  have Hlc := Lib.hid hl
  clear hv hN hl hli hn0
  go_enter Try.func14, Try.ntmps14
  go_wp2_with fail
  refine CC.out.mono ?_
  rintro e w1 ⟨rfl, rfl⟩
  go_wp2_with fail
  have h0 : (w.alloc (.cells (outC l (upTo l 1 0)) 34)).heap[w.heap.size]? = some (.cells (outC l (upTo l 1 0)) 34 (0, 0)) := heap_new _ _ _ rfl
  have hB0 : Below w.heap.size w (w.alloc (.cells (outC l (upTo l 1 0)) 34)) := (Below.refl _ w).alloc (Nat.le_refl _) _
  generalize w.alloc (.cells (outC l (upTo l 1 0)) 34) = W0 at *
  obtain ⟨g, hg⟩ : ∃ g, w.heap.size = g := ⟨_, rfl⟩
  rw [hg] at h0 ⊢
  have Hg := Lib.hid hg
  have H0 := Lib.hid h0
  have HB0 := Lib.hid hB0
  clear hg h0 hB0 hmk CC
  go_loopw [6, 7, 8] (fun xv lv nv wr => ∃ n last next : Nat, 1 ≤ n ∧ n ≤ 21 ∧ nv = .int .i64 n ∧ lv = .int .i64 last ∧ xv = .int .u64 next ∧ Hid (Stand (nxt l n 0) last next n) ∧ Hid (wr.heap[g]? = some (.cells (outC l (upTo l n 0)) 34 (0, 0))) ∧ Hid (Below w.heap.size w wr)) (fun _ _ nv _ => 22 - (intOf nv).toNat)
  case atStart => exact ⟨1, 0, 0, by omega, by omega, rfl, rfl, rfl, .inl ⟨rfl, by simp [nxt, nextV], rfl⟩, H0.out, HB0.out⟩
  case round =>
    clear H0 HB0
    obtain ⟨n, last, next, hn1, hn2, rfl, rfl, rfl, HS, HO, HB⟩ := hrel
    by_cases hn20 : n ≤ 20
    · go_wp2_with fail
      go_loopw [6, 7, 9] (fun xv lv iv wr => ∃ i last next : Nat, i ≤ N ∧ iv = .int .i64 i ∧ lv = .int .i64 last ∧ xv = .int .u64 next ∧ Hid (Stand (nxt l n i) last next n) ∧ Hid (wr.heap[g]? = some (.cells (outC l (upTo l n i)) 34 (0, 0))) ∧ Hid (Below w.heap.size w wr)) (fun _ _ iv _ => N + 1 - (intOf iv).toNat)
      case atStart => exact ⟨0, last, next, Nat.zero_le _, rfl, rfl, rfl, HS, HO, HB⟩
      case round =>
        clear HS HO HB
        obtain ⟨i, last, next, hi, rfl, rfl, rfl, HS, HO, HB⟩ := hrel
        by_cases hlt : i < N
        · obtain ⟨g2, o2, rfl, hg2, hc⟩ := (Hv.out.below HB.out (Nat.le_refl _)).at i (by rw [length_ints, HN.out]; exact hlt)
          obtain ⟨x, hx⟩ : ∃ x, l[i]? = some x := ⟨_, List.getElem?_eq_getElem (by rw [HN.out]; exact hlt)⟩
          have hxe : (ints l)[i]?.getD 0 = (x : Int) := by simp [ints, hx]
          rw [hxe] at hc
          clear hxe
          by_cases hxn : x = n
          · subst hxn
            obtain ⟨hh1, hh2⟩ := nxt_hit l x i hx
            have hil : i < l.length := by rw [HN.out]; exact hlt
            have hst := outC_set l (upTo l x i) i hil
            rw [upTo_hit l x i hx] at hst
            have hset := heap_set_ (heap_set_ HO.out (i * 2) (.int .i64 ((l[i]?.getD 0 : Nat) : Int))) (i * 2 + 1) (.int .u64 (wordV l i : Int))
            rw [hst, hh2, show l[i]?.getD 0 = x by rw [hx]; rfl] at hset
            have c0 := (cell_of_heap HO.out (i * 2)).trans (outC_get _ _ _ (by omega))
            have c1 := (cell_of_heap HO.out (i * 2 + 1)).trans (outC_get _ _ _ (by omega))
            have f0 := frozen_of_heap HO.out (i * 2)
            have f1 := frozen_of_heap HO.out (i * 2 + 1)
            have hgl := lt_of_heap HO.out
            have hV := nxt_le l Hlc.out x i hn1 hn20
            generalize wcell l (upTo l x i) (i * 2) = cv0 at *
            generalize wcell l (upTo l x i) (i * 2 + 1) = cv1 at *
            have hNS : Hid (Stand (nxt l x (i + 1)) x (nxt l x i) x) := .inr ⟨hn1, Nat.le_refl _, by rw [Nat.sub_self, hh1]; omega⟩
            have hs := HS.out
            have hgw := Nat.le_of_eq Hg.out
            clear hh1 hh2 hst hx HS
            generalize nxt l x i = V at *
            have Hset := Lib.hid hset
            clear hset
            rcases hs with ⟨rfl, rfl, rfl⟩ | ⟨hs1, hs2, hs3⟩
            · go_wp2_with fail
              go_roundw
              case rel => exact ⟨i + 1, x, 0, by omega, by go_num, rfl, rfl, hNS, Hset.out, (HB.out.setCell (p := ⟨g, _, none⟩) hgw _).setCell (p := ⟨g, _, none⟩) hgw _⟩
              case measure => simp [intOf]; omega
            · have hs4 : Hid ((next + 1) * 2 ^ (x - last) = V) := hs3.symm
              have hle : next + 1 ≤ V := by
                have : 1 ≤ 2 ^ (x - last) := Nat.one_le_two_pow
                rw [hs3]
                exact Nat.le_mul_of_pos_right _ this
              clear hs3
              go_wp2_with fail
              go_loop [6, 10] (fun xv kv => ∃ k m : Nat, kv = .int .i64 k ∧ xv = .int .u64 m ∧ last ≤ k ∧ k ≤ x ∧ m ≤ V ∧ Hid (m * 2 ^ (x - k) = V)) (fun _ kv => x + 1 - (intOf kv).toNat)
              case atStart => exact ⟨last, next + 1, rfl, by go_num, Nat.le_refl _, hs2, hle, hs4⟩
              case round =>
                obtain ⟨k, m, rfl, rfl, hk1, hk2, hm, HM⟩ := hrel
                clear hs4
                by_cases hkx : k < x
                · have HM2 : Hid (2 * m * 2 ^ (x - (k + 1)) = V) := by
                    show _ = _
                    rw [← HM.out, show x - k = (x - (k + 1)) + 1 by omega, Nat.pow_succ, Nat.mul_comm 2 m, Nat.mul_assoc, Nat.mul_comm 2]
                  have hm2 : 2 * m ≤ V := by
                    rw [← HM2.out]
                    exact Nat.le_mul_of_pos_right _ Nat.one_le_two_pow
                  clear HM
                  go_wp2_with fail
                  go_round
                  case rel => exact ⟨k + 1, 2 * m, by go_num, by go_num, by omega, by omega, hm2, HM2⟩
                  case measure => simp [intOf]; omega
                · obtain rfl : k = x := by omega
                  obtain rfl : m = V := by
                    have := HM.out
                    rw [Nat.sub_self] at this
                    omega
                  have hd : decide (k < k) = false := by simp
                  clear HM hm
                  go_wp2_with fail
                  go_roundw
                  case rel => exact ⟨i + 1, k, m, by omega, by go_num, rfl, rfl, hNS, Hset.out, (HB.out.setCell (p := ⟨g, _, none⟩) hgw _).setCell (p := ⟨g, _, none⟩) hgw _⟩
                  case measure => simp [intOf]; omega
          · have HS2 : Hid (Stand (nxt l n (i + 1)) last next n) := by
              show Stand _ _ _ _
              rw [nxt_miss l n i x hx hxn]; exact HS.out
            have HO2 : Hid (wr.heap[g]? = some (.cells (outC l (upTo l n (i + 1))) 34 (0, 0))) := by
              show _ = _
              rw [← upTo_miss l n i x hx hxn]; exact HO.out
            clear hx HS HO
            go_wp2_with fail
            go_roundw
            case rel => exact ⟨i + 1, last, next, by omega, by go_num, rfl, rfl, HS2, HO2, HB⟩
            case measure => simp [intOf]; omega
        · obtain rfl : i = N := by omega
          have HS2 : Hid (Stand (nxt l (n + 1) 0) last next (n + 1)) := by
            show Stand _ _ _ _
            rw [nxt_up l n hn1, HN.out]; exact HS.out.up
          have HO2 : Hid (wr.heap[g]? = some (.cells (outC l (upTo l (n + 1) 0)) 34 (0, 0))) := by
            show _ = _
            rw [← upTo_up l n, HN.out]; exact HO.out
          clear HS HO
          go_wp2_with fail
          go_roundw
          case rel => exact ⟨n + 1, last, next, by omega, by omega, by go_num, rfl, rfl, HS2, HO2, HB⟩
          case measure => simp [intOf]; omega
    · obtain rfl : n = 21 := by omega
      have ho := HO.out
      rw [upTo_full l Hlc.out.fits] at ho
      have Ho := Lib.hid ho
      clear ho HO HS
      go_wp2_with fail
      go_ret2
      exact ⟨_, rfl, ⟨g, N, by rw [HN.out]; rfl, Ho.out⟩, HB.out⟩
set_option maxHeartbeats 1600000 in
theorem rwords_er (w : World) (v : Value) (l : List Int) (hv : IsInts w w.heap.size v l) (hl : l.length ≤ 1000000) (hc : checkF l ≠ 0) :
    Calls Try.prog 14 #[v] w fun e w' => e = .returned (.tuple #[.slice none 0 0, .int .i64 (checkF l)]) ∧ w = w' := by
  have CC : Hid (Calls Try.prog 16 #[v] w fun e w' => e = .returned (.int .i64 (checkF l)) ∧ w = w') := rcheck_any w _ _ hv hl
  obtain ⟨A, ca, rfl, hc1, hc2⟩ := hv.shape
  generalize checkF l = z at *
  have hz : (z != 0) = true := by rw [bne_iff_ne]; exact hc
  clear hv hc
  go_enter Try.func14, Try.ntmps14
  go_wp2_with fail
  refine CC.out.mono ?_
  rintro e w1 ⟨rfl, rfl⟩
  go_wp2_with fail
  go_ret2
  exact ⟨rfl, rfl⟩
end Go.Proofs.Ytkicaimondpceaa
