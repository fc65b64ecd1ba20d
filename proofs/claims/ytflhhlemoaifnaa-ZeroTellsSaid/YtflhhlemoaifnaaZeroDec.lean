/- The program's Decode: its contract. -/
import Derived.Test.YtflhhlemoaifnaaZeroEnc
namespace Go.Proofs.Ytflhhlemoaifnaa
open Go.RowKit
set_option linter.unusedVariables false

def decE (m : List Int) (most : Int) : Int := if negF m then 1 else if most < (dec m).length then 4 else 0
def decV (m : List Int) (most : Int) : List Int := if negF m then [] else if most < (dec m).length then [] else dec m
theorem dec_nil : dec [] = [] := rfl
theorem dig_row {rest : List Int} (h : ∀ x ∈ rest, 0 ≤ x) : Dig (rest.take (rowLen 1 rest)) := by
  intro x hx
  obtain ⟨i, hi⟩ := List.getElem?_of_mem hx
  rw [List.getElem?_take] at hi
  split at hi
  · rename_i hlt
    have h1 := rowLen_mem hlt hi
    have h0 := h x (List.mem_of_getElem? hi)
    omega
  · cases hi

set_option maxRecDepth 100000 in
set_option maxHeartbeats 4000000 in
theorem decode_any (w : World) (v : Value) (xs : List Int) (most : Int) (hv : IsInts w w.heap.size v xs) (hlen : xs.length ≤ 1099511627776) (hi : I64s xs) (hm0 : -9223372036854775808 ≤ most) (hm : most ≤ 1099511627776) :
    Calls Try.prog 19 #[v, .int .i64 most] w fun e w' => ∃ u, e = .returned (.tuple #[u, .int .i64 (decE xs most)]) ∧ OwnInts w' w.heap.size u (decV xs most) ∧ Below w.heap.size w w' := by
  have hmf := hmf
  have C1 := Lib.hid (below_any w v xs hv (by omega))
  obtain ⟨A, ca, rfl, hc1, hc2⟩ := hv.shape
  obtain ⟨b1, hb1⟩ : ∃ b, negF xs = b := ⟨_, rfl⟩
  rw [hb1] at C1
  have Hb1 := Lib.hid hb1
  obtain ⟨N, hN⟩ : ∃ N, xs.length = N := ⟨_, rfl⟩
  have hXl : xs.length ≤ 1099511627776 := hlen
  rw [hN] at hv hc1 hlen C1 ⊢
  have HN := Lib.hid hN
  have Hv := Lib.hid hv
  clear hb1 hv hN
  cases b1 with
  | true =>
    go_enter Try.func19, Try.ntmps19
    go_wp2_with fail
    refine C1.out.mono ?_
    rintro e w1 ⟨rfl, hB1⟩
    go_wp2_with fail
    go_ret2
    exact ⟨_, by rw [decE, Hb1.out]; rfl, by rw [decV, Hb1.out]; exact OwnInts.nil _ _, hB1⟩
  | false =>
    have hels : ∀ x ∈ xs, x ≤ 9223372036854775807 ∧ 0 ≤ x := by
      intro x hx
      have h1 := Hb1.out
      unfold negF at h1
      rw [List.any_eq_false] at h1
      have h1 := h1 x hx
      have h2 := hi x hx
      simp at h1
      omega
    have HE : Hid (decE xs most = if most < (dec xs).length then 4 else 0) := by show _ = _; rw [decE, Hb1.out]; rfl
    have HV : Hid (decV xs most = if most < (dec xs).length then [] else dec xs) := by show _ = _; rw [decV, Hb1.out]; rfl
    go_enter Try.func19, Try.ntmps19
    go_wp2_with fail
    refine C1.out.mono ?_
    rintro e w1 ⟨rfl, hB1⟩
    have hz1 := hB1.size
    obtain ⟨b, hb⟩ : ∃ b, w1.heap.size = b := ⟨_, rfl⟩
    obtain ⟨w2, hw2⟩ : ∃ w2, w1.alloc (.cells #[.slice none 0 0] 44) = w2 := ⟨_, rfl⟩
    have hL : LB w2 b [] := ⟨_, by rw [← hw2]; exact heap_new _ _ _ hb.symm, OwnInts.nil _ _⟩
    have hB : Below w.heap.size w w2 := by rw [← hw2]; exact hB1.alloc hz1 _
    have hbw : w.heap.size ≤ b := by omega
    have HW := Lib.hid hw2
    have HBB := Lib.hid hb
    have HL := Lib.hid hL
    clear hw2 hb hL C1 hB1
    go_wp2
    rw [HBB.out, HW.out]
    go_loopw [0] (fun mv wr => ∃ (v : Value) (rest done : List Int), mv = v ∧ IsInts w w.heap.size v rest ∧ LB wr b done ∧ Hid (done ++ dec rest = dec xs) ∧ Below w.heap.size w wr ∧ Hid (∀ x ∈ rest, x ≤ 9223372036854775807 ∧ 0 ≤ x) ∧ rest.length ≤ 1099511627776 ∧ done.length ≤ 1099511627777) (fun mv _ => lenV mv)
    case atStart => exact ⟨_, xs, [], rfl, Hv.out, HL.out, rfl, hB, hels, by have := HN.out; omega, by simp⟩
    case round =>
      obtain ⟨v, rest, done, rfl, hv, hL, heq, hBr, hels2, hrl, hdl⟩ := hrel
      obtain ⟨A, ca, rfl, hc1, hc2⟩ := hv.shape
      obtain ⟨N, hN⟩ : ∃ N, rest.length = N := ⟨_, rfl⟩
      rw [hN] at hv hc1 hrl ⊢
      have HNr := Lib.hid hN
      have HLr := Lib.hid hL
      have hbz := hL.lt
      have hBz := hBr.size
      clear hN HL Hv hels hL
      by_cases hpos : 0 < N
      · obtain ⟨k, hk⟩ : ∃ k, rowLen 1 rest = k := ⟨_, rfl⟩
        have hkN := rowLen_le 1 rest
        have hdrow := dec_row rest
        have hdg := dig_row (rest := rest) fun x hx => (hels2.out x hx).2
        rw [hk] at hkN hdrow hdg
        rw [HNr.out] at hkN
        have CR := Lib.hid (row_any wr _ rest 1 ((hv.below hBr (Nat.le_refl _)).mono hBr.size) (by have := HNr.out; omega))
        rw [hk] at CR
        obtain ⟨v1, hv1, ⟨q1, c1, rfl⟩, _, _, hsl1⟩ := hv.cut 0 k (by omega) hkN
        obtain ⟨v2, hv2, ⟨q2, c2, rfl⟩, _, hsl2, _⟩ := hv.cut k N hkN (Nat.le_refl _)
        have hsl1 := hsl1 rfl
        have hsl2 := hsl2 rfl
        rw [Nat.sub_zero] at hv1 hsl1
        rw [show ((rest.take N).drop k) = rest.drop k by rw [← HNr.out, List.take_length]] at hv2
        rw [List.drop_zero] at hv1
        have hnE : numE (rest.take k) = if 1099511627776 < numD (rest.take k) then 4 else 0 := by rw [numE, oddF_of_dig hdg]; rfl
        have hnV : numV (rest.take k) = if 1099511627776 < numD (rest.take k) then (0 : Int) else (numD (rest.take k) : Nat) := by rw [numV, oddF_of_dig hdg]; rfl
        obtain ⟨n, hn⟩ : ∃ n, numD (rest.take k) = n := ⟨_, rfl⟩
        rw [hn] at hnE hnV hdrow
        have HnE := Lib.hid hnE
        have HnV := Lib.hid hnV
        have Hdrow := Lib.hid hdrow
        have Hv1 := Lib.hid hv1
        have Hv2 := Lib.hid hv2
        have hl1 : (rest.take k).length ≤ 1099511627776 := by rw [List.length_take]; omega
        clear hk hdg hn hnE hnV hdrow hv1 hv2
        have hpos' : (0 : Int) < (N : Int) := by omega
        go_wp2_with fail
        refine CR.out.mono ?_
        rintro e w3 ⟨rfl, hB3⟩
        have HL3 : Hid (LB w3 b done) := HLr.out.below hB3
        have hBw3 : Below w.heap.size w w3 := hBr.trans (hB3.mono hBz)
        have hz3 := hB3.size
        clear hBr hB3 HLr CR
        go_wp2_with fail
        refine (number_any _ (rest.take k) w3 ((Hv1.out.below hBw3 (Nat.le_refl _)).mono hBw3.size) (by omega)).mono ?_
        rintro e w4 ⟨rfl, hB4⟩
        have HL4 : Hid (LB w4 b done) := HL3.out.below hB4
        have hBw4 : Below w.heap.size w w4 := hBw3.trans (hB4.mono hBw3.size)
        have hz4 := hB4.size
        clear hBw3 hB4 HL3
        rw [HnE.out, HnV.out]
        obtain ⟨vl, hvl, hol⟩ := HL4.out
        obtain ⟨q, c, rfl⟩ := hol.shape
        have hcl : w4.cell? ⟨b, 0, none⟩ = some (.slice q done.length c) := cell_of_heap hvl 0
        clear hvl hol
        by_cases hbig : 1099511627776 < n
        · rw [if_pos hbig, if_pos hbig]
          have hlong : most < ((dec xs).length : Int) := by
            have h2 := congrArg List.length heq.out
            rw [Hdrow.out] at h2
            simp only [List.length_append, length_zeros] at h2
            omega
          have hE : Hid (decE xs most = 4) := by show _ = _; rw [HE.out, if_pos hlong]
          have hV : Hid (decV xs most = []) := by show _ = _; rw [HV.out, if_pos hlong]
          clear HnE HnV Hdrow hlong
          go_wp2
          go_ret2
          exact ⟨.slice none 0 0, by rw [hE.out]; rfl, by rw [hV.out]; exact OwnInts.nil _ _, hBw4⟩
        · rw [if_neg hbig, if_neg hbig]
          by_cases hneg : most < 0
          · by_cases hgt : -(done.length : Int) < (n : Int)
            · have hlong : most < ((dec xs).length : Int) := by
                have h2 := congrArg List.length heq.out
                rw [Hdrow.out] at h2
                simp only [List.length_append, length_zeros] at h2
                omega
              have hE : Hid (decE xs most = 4) := by show _ = _; rw [HE.out, if_pos hlong]
              have hV : Hid (decV xs most = []) := by show _ = _; rw [HV.out, if_pos hlong]
              clear HnE HnV Hdrow hlong
              go_wp2
              go_ret2
              exact ⟨.slice none 0 0, by rw [hE.out]; rfl, by rw [hV.out]; exact OwnInts.nil _ _, hBw4⟩
            · clear HnE HnV
              obtain ⟨cs, hcs, hmk⟩ := run_make_ints n (by omega)
              have Hcs := Lib.hid hcs
              have hlm : (List.replicate n (0 : Int)).length = n := List.length_replicate
              have hmade : Hid (IsInts (w4.alloc (.cells cs 3)) (w4.heap.size + 1) (.slice (some ⟨w4.heap.size, 0, none⟩) n n) (zeros n)) := IsInts.new w4 (List.replicate n 0) cs _ _ rfl hlm.symm hcs (by rw [hlm]; simp only [maxLen]; omega)
              have hmk2 := hmk w4
              clear hcs hlm hmk
              go_wp2_with fail
              refine (lay_any _ b done (zeros n) _ (HL4.out.below ((Below.refl _ _).alloc (Nat.le_refl _) _)) (hmade.out.mono (by simp)) (by rw [length_zeros]; omega)).mono ?_
              rintro e w5 ⟨rfl, hL5, hB5⟩
              have HL5 := Lib.hid hL5
              have hBw5 : Below w.heap.size w w5 := (hBw4.alloc (by omega) _).trans (hB5.mono hbw)
              have hz5 := hL5.lt
              have hz5' := hB5.size
              simp at hz5'
              have hd5 : (done ++ zeros n).length ≤ 1099511627776 := by rw [List.length_append, length_zeros]; omega
              clear hBw4 hB5 HL4 hL5 hmade hmk2 Hcs hcl
              by_cases hkn : k < N
              · have hx0 : (0 : Int) < ((N - k : Nat) : Int) := by omega
                have hN0 : 0 < N - k := by omega
                obtain ⟨g, o, rfl, hg, hc⟩ := Hv2.out.at 0 (by rw [List.length_drop]; have := HNr.out; omega)
                obtain ⟨x, hx⟩ : ∃ x, (rest.drop k)[0]?.getD 0 = x := ⟨_, rfl⟩
                rw [hx] at hc
                obtain ⟨r', hr'⟩ : ∃ r', rest.drop k = x :: r' := by
                  have hl : k < rest.length := by have := HNr.out; omega
                  refine ⟨rest.drop (k + 1), ?_⟩
                  rw [List.drop_eq_getElem_cons hl]
                  rw [List.getElem?_drop, Nat.add_zero, List.getElem?_eq_getElem hl] at hx
                  simp only [Option.getD_some] at hx
                  rw [hx]
                have hxb : x ≤ 9223372036854775807 ∧ 0 ≤ x := hels2.out x (List.mem_of_mem_drop (i := k) (by rw [hr']; exact List.mem_cons_self))
                have hcell : w5.cell? ⟨g, o, none⟩ = some (.int .i64 x) := (hBw5.cell (p := ⟨g, o, none⟩) hg).trans (by simpa using hc)
                obtain ⟨v3, hv3, ⟨q3, c3, rfl⟩, _, hsl3, _⟩ := Hv2.out.cut 1 (N - k) (by omega) (Nat.le_refl _)
                have hsl3 := hsl3 rfl
                simp only [Int.natCast_one] at hsl3
                have hlx : (x :: r').length = N - k := by rw [← hr', List.length_drop, HNr.out]
                have hv3' : IsInts w w.heap.size (.slice q3 (N - k - 1) c3) r' := by
                  rw [hr'] at hv3
                  have e : ((x :: r').take (N - k)).drop 1 = r' := by rw [← hlx, List.take_length]; rfl
                  rw [e] at hv3; exact hv3
                have Hv3 := Lib.hid hv3'
                have hlr : r'.length = N - k - 1 := by simp at hlx; omega
                have Hlr := Lib.hid hlr
                have hels' : Hid (∀ y ∈ r', y ≤ 9223372036854775807 ∧ 0 ≤ y) := fun y hy => hels2.out y (List.mem_of_mem_drop (i := k) (by rw [hr']; exact List.mem_cons_of_mem _ hy))
                have heq' : Hid ((done ++ zeros n) ++ [x - 1] ++ dec r' = dec xs) := by
                  show _ = _
                  rw [← heq.out, Hdrow.out, hr']
                  simp [decRest]
                have hxx : -9223372036854775808 ≤ x - 1 := by omega
                clear Hdrow hx hc hr' hv3 hv3' hlr hlx heq hels2 hkN
                go_wp2_with fail
                refine (lay_any _ b (done ++ zeros n) [x - 1] _ (HL5.out.below ((Below.refl _ _).alloc (Nat.le_refl _) _)) ((IsInts.new w5 [x - 1] _ _ _ rfl rfl rfl (by simp [maxLen])).mono (by simp)) (by simp only [List.length_cons, List.length_nil]; omega)).mono ?_
                rintro e w6 ⟨rfl, hL6, hB6⟩
                have HL6 := Lib.hid hL6
                have hBw6 : Below w.heap.size w w6 := (hBw5.alloc (by omega) _).trans (hB6.mono hbw)
                clear hL6 hB6 hBw5 HL5
                go_wp2
                go_roundw
                case rel => exact ⟨_, r', _, rfl, Hv3.out, HL6.out, heq', hBw6, hels', by have := Hlr.out; omega, by rw [List.length_append]; simp only [List.length_cons, List.length_nil]; omega⟩
                case measure => simp [lenV]; omega
              · have hr0 : rest.drop k = [] := List.drop_eq_nil_of_le (by have := HNr.out; omega)
                have heq' : Hid ((done ++ zeros n) ++ dec [] = dec xs) := by
                  show _ = _
                  rw [← heq.out, Hdrow.out, hr0]
                  simp [decRest, dec_nil]
                have Hv3 := Hv2
                have hkn' : N - k = 0 := by omega
                rw [hkn'] at Hv3 hsl2
                rw [hr0] at Hv3
                clear Hdrow hr0 heq hels2 hkN Hv2
                go_wp2
                go_roundw
                case rel => exact ⟨_, [], _, rfl, Hv3.out, HL5.out, heq', hBw5, fun y hy => (by simp at hy), by simp, by omega⟩
                case measure => simp [lenV]; omega
          · by_cases hgt : most - (done.length : Int) < (n : Int)
            · have hlong : most < ((dec xs).length : Int) := by
                have h2 := congrArg List.length heq.out
                rw [Hdrow.out] at h2
                simp only [List.length_append, length_zeros] at h2
                omega
              have hE : Hid (decE xs most = 4) := by show _ = _; rw [HE.out, if_pos hlong]
              have hV : Hid (decV xs most = []) := by show _ = _; rw [HV.out, if_pos hlong]
              clear HnE HnV Hdrow hlong
              go_wp2
              go_ret2
              exact ⟨.slice none 0 0, by rw [hE.out]; rfl, by rw [hV.out]; exact OwnInts.nil _ _, hBw4⟩
            · clear HnE HnV
              obtain ⟨cs, hcs, hmk⟩ := run_make_ints n (by omega)
              have Hcs := Lib.hid hcs
              have hlm : (List.replicate n (0 : Int)).length = n := List.length_replicate
              have hmade : Hid (IsInts (w4.alloc (.cells cs 3)) (w4.heap.size + 1) (.slice (some ⟨w4.heap.size, 0, none⟩) n n) (zeros n)) := IsInts.new w4 (List.replicate n 0) cs _ _ rfl hlm.symm hcs (by rw [hlm]; simp only [maxLen]; omega)
              have hmk2 := hmk w4
              clear hcs hlm hmk
              go_wp2_with fail
              refine (lay_any _ b done (zeros n) _ (HL4.out.below ((Below.refl _ _).alloc (Nat.le_refl _) _)) (hmade.out.mono (by simp)) (by rw [length_zeros]; omega)).mono ?_
              rintro e w5 ⟨rfl, hL5, hB5⟩
              have HL5 := Lib.hid hL5
              have hBw5 : Below w.heap.size w w5 := (hBw4.alloc (by omega) _).trans (hB5.mono hbw)
              have hz5 := hL5.lt
              have hz5' := hB5.size
              simp at hz5'
              have hd5 : (done ++ zeros n).length ≤ 1099511627776 := by rw [List.length_append, length_zeros]; omega
              clear hBw4 hB5 HL4 hL5 hmade hmk2 Hcs hcl
              by_cases hkn : k < N
              · have hx0 : (0 : Int) < ((N - k : Nat) : Int) := by omega
                have hN0 : 0 < N - k := by omega
                obtain ⟨g, o, rfl, hg, hc⟩ := Hv2.out.at 0 (by rw [List.length_drop]; have := HNr.out; omega)
                obtain ⟨x, hx⟩ : ∃ x, (rest.drop k)[0]?.getD 0 = x := ⟨_, rfl⟩
                rw [hx] at hc
                obtain ⟨r', hr'⟩ : ∃ r', rest.drop k = x :: r' := by
                  have hl : k < rest.length := by have := HNr.out; omega
                  refine ⟨rest.drop (k + 1), ?_⟩
                  rw [List.drop_eq_getElem_cons hl]
                  rw [List.getElem?_drop, Nat.add_zero, List.getElem?_eq_getElem hl] at hx
                  simp only [Option.getD_some] at hx
                  rw [hx]
                have hxb : x ≤ 9223372036854775807 ∧ 0 ≤ x := hels2.out x (List.mem_of_mem_drop (i := k) (by rw [hr']; exact List.mem_cons_self))
                have hcell : w5.cell? ⟨g, o, none⟩ = some (.int .i64 x) := (hBw5.cell (p := ⟨g, o, none⟩) hg).trans (by simpa using hc)
                obtain ⟨v3, hv3, ⟨q3, c3, rfl⟩, _, hsl3, _⟩ := Hv2.out.cut 1 (N - k) (by omega) (Nat.le_refl _)
                have hsl3 := hsl3 rfl
                simp only [Int.natCast_one] at hsl3
                have hlx : (x :: r').length = N - k := by rw [← hr', List.length_drop, HNr.out]
                have hv3' : IsInts w w.heap.size (.slice q3 (N - k - 1) c3) r' := by
                  rw [hr'] at hv3
                  have e : ((x :: r').take (N - k)).drop 1 = r' := by rw [← hlx, List.take_length]; rfl
                  rw [e] at hv3; exact hv3
                have Hv3 := Lib.hid hv3'
                have hlr : r'.length = N - k - 1 := by simp at hlx; omega
                have Hlr := Lib.hid hlr
                have hels' : Hid (∀ y ∈ r', y ≤ 9223372036854775807 ∧ 0 ≤ y) := fun y hy => hels2.out y (List.mem_of_mem_drop (i := k) (by rw [hr']; exact List.mem_cons_of_mem _ hy))
                have heq' : Hid ((done ++ zeros n) ++ [x - 1] ++ dec r' = dec xs) := by
                  show _ = _
                  rw [← heq.out, Hdrow.out, hr']
                  simp [decRest]
                have hxx : -9223372036854775808 ≤ x - 1 := by omega
                clear Hdrow hx hc hr' hv3 hv3' hlr hlx heq hels2 hkN
                go_wp2_with fail
                refine (lay_any _ b (done ++ zeros n) [x - 1] _ (HL5.out.below ((Below.refl _ _).alloc (Nat.le_refl _) _)) ((IsInts.new w5 [x - 1] _ _ _ rfl rfl rfl (by simp [maxLen])).mono (by simp)) (by simp only [List.length_cons, List.length_nil]; omega)).mono ?_
                rintro e w6 ⟨rfl, hL6, hB6⟩
                have HL6 := Lib.hid hL6
                have hBw6 : Below w.heap.size w w6 := (hBw5.alloc (by omega) _).trans (hB6.mono hbw)
                clear hL6 hB6 hBw5 HL5
                go_wp2
                go_roundw
                case rel => exact ⟨_, r', _, rfl, Hv3.out, HL6.out, heq', hBw6, hels', by have := Hlr.out; omega, by rw [List.length_append]; simp only [List.length_cons, List.length_nil]; omega⟩
                case measure => simp [lenV]; omega
              · have hr0 : rest.drop k = [] := List.drop_eq_nil_of_le (by have := HNr.out; omega)
                have heq' : Hid ((done ++ zeros n) ++ dec [] = dec xs) := by
                  show _ = _
                  rw [← heq.out, Hdrow.out, hr0]
                  simp [decRest, dec_nil]
                have Hv3 := Hv2
                have hkn' : N - k = 0 := by omega
                rw [hkn'] at Hv3 hsl2
                rw [hr0] at Hv3
                clear Hdrow hr0 heq hels2 hkN Hv2
                go_wp2
                go_roundw
                case rel => exact ⟨_, [], _, rfl, Hv3.out, HL5.out, heq', hBw5, fun y hy => (by simp at hy), by simp, by omega⟩
                case measure => simp [lenV]; omega
      · have hr0 : rest = [] := List.eq_nil_of_length_eq_zero (by have := HNr.out; omega)
        have hfin : Hid (done = dec xs) := by
          show _ = _
          have h := heq.out
          rw [hr0, dec_nil, List.append_nil] at h
          exact h
        obtain ⟨vl, hvl, hol⟩ := HLr.out
        obtain ⟨q, c, rfl⟩ := hol.shape
        have hcl : wr.cell? ⟨b, 0, none⟩ = some (.slice q done.length c) := cell_of_heap hvl 0
        have Hol := Lib.hid hol
        clear hvl hol hr0 heq hels2 HLr
        by_cases hgt : most < (done.length : Int)
        · have hE : Hid (decE xs most = 4) := by show _ = _; rw [HE.out, ← hfin.out, if_pos hgt]
          have hV : Hid (decV xs most = []) := by show _ = _; rw [HV.out, ← hfin.out, if_pos hgt]
          go_wp2
          go_ret2
          exact ⟨.slice none 0 0, by rw [hE.out]; rfl, by rw [hV.out]; exact OwnInts.nil _ _, hBr⟩
        · have hE : Hid (decE xs most = 0) := by show _ = _; rw [HE.out, ← hfin.out, if_neg hgt]
          have hV : Hid (decV xs most = done) := by show _ = _; rw [HV.out, ← hfin.out, if_neg hgt]
          go_wp2
          go_ret2
          exact ⟨.slice q done.length c, by rw [hE.out]; rfl, by rw [hV.out]; exact Hol.out.mono (by omega), hBr⟩
end Go.Proofs.Ytflhhlemoaifnaa
