/- The program's Encode: its contract. -/
import Derived.Test.YtflhhlemoaifnaaZeroNum
import Derived.Test.YtflhhlemoaifnaaZeroLay
import Derived.ScopeJumps
import Derived.WalkMore
namespace Go.Proofs.Ytflhhlemoaifnaa
open Go.RowKit
set_option linter.unusedVariables false

def bigF (l : List Int) : Bool := l.any fun x => decide (1099511627776 < x)
def encE (l : List Int) : Int := if negF l || bigF l then 1 else 0
def encV (l : List Int) : List Int := if negF l || bigF l then [] else enc l
def lenV : Value → Nat
  | .slice _ n _ => n
  | _ => 0

set_option maxRecDepth 100000 in
set_option maxHeartbeats 4000000 in
theorem encode_any (w : World) (v : Value) (xs : List Int) (hv : IsInts w w.heap.size v xs) (hlen : xs.length ≤ 1099511627776) :
    Calls Try.prog 14 #[v] w fun e w' => ∃ u, e = .returned (.tuple #[u, .int .i64 (encE xs)]) ∧ OwnInts w' w.heap.size u (encV xs) ∧ Below w.heap.size w w' := by
  have hmf := hmf
  have C1 := Lib.hid (below_any w v xs hv (by omega))
  have C2 : Hid (∀ W, Below w.heap.size w W → Calls Try.prog 22 #[v, .func (.func 23) #[] #[]] W fun e w' => e = .returned (.bool (bigF xs)) ∧ Below W.heap.size W w') := fun W hB =>
    containsFunc_any W v xs _ 23 #[] enters_enc1 ((hv.below hB (Nat.le_refl _)).mono hB.size) (by omega) (fun x _ W _ => enc1_any x W)
  obtain ⟨A, ca, rfl, hc1, hc2⟩ := hv.shape
  obtain ⟨b1, hb1⟩ : ∃ b, negF xs = b := ⟨_, rfl⟩
  obtain ⟨b2, hb2⟩ : ∃ b, bigF xs = b := ⟨_, rfl⟩
  rw [hb1] at C1
  rw [hb2] at C2
  have Hb1 := Lib.hid hb1
  have Hb2 := Lib.hid hb2
  obtain ⟨N, hN⟩ : ∃ N, xs.length = N := ⟨_, rfl⟩
  have hXl : xs.length ≤ 1099511627776 := hlen
  rw [hN] at hv hc1 hlen C1 C2 ⊢
  have HN := Lib.hid hN
  have Hv := Lib.hid hv
  clear hb1 hb2 hv hN
  cases b1 with
  | true =>
    go_enter Try.func14, Try.ntmps14
    go_wp2
    refine wp_scope_straight ?_
    go_wp2_with fail
    refine C1.out.mono ?_
    rintro e w1 ⟨rfl, hB1⟩
    go_wp2_with fail
    simp only [Exit.noGoto_ret]
    go_ret2
    exact ⟨_, by rw [encE, Hb1.out]; rfl, by rw [encV, Hb1.out]; exact OwnInts.nil _ _, hB1⟩
  | false =>
    cases b2 with
    | true =>
      go_enter Try.func14, Try.ntmps14
      go_wp2
      refine wp_scope_straight ?_
      go_wp2_with fail
      refine C1.out.mono ?_
      rintro e w1 ⟨rfl, hB1⟩
      go_wp2_with fail
      refine (C2.out _ hB1).mono ?_
      rintro e w2 ⟨rfl, hB2⟩
      go_wp2_with fail
      simp only [Exit.noGoto_ret]
      go_ret2
      exact ⟨_, by rw [encE, Hb1.out, Hb2.out]; rfl, by rw [encV, Hb1.out, Hb2.out]; exact OwnInts.nil _ _, hB1.trans (hB2.mono hB1.size)⟩
    | false =>
      have HE : Hid (encE xs = 0) := by show _ = _; rw [encE, Hb1.out, Hb2.out]; rfl
      have HV : Hid (encV xs = enc xs) := by show _ = _; rw [encV, Hb1.out, Hb2.out]; rfl
      have hels : ∀ x ∈ xs, x ≤ 1099511627776 ∧ 0 ≤ x := by
        intro x hx
        have h1 := Hb1.out
        have h2 := Hb2.out
        unfold negF at h1
        unfold bigF at h2
        rw [List.any_eq_false] at h1 h2
        have h1 := h1 x hx
        have h2 := h2 x hx
        simp at h1 h2
        omega
      go_enter Try.func14, Try.ntmps14
      go_wp2
      refine wp_scope_jumps 0 (fun a' W => ∃ (b : Nat) (v : Value) (rest done : List Int) (u6 u7 u8 u9 u10 u11 u12 u13 u14 u15 u16 u17 u18 u19 u20 u21 u22 u23 u24 u25 u26 u27 u28 u29 u30 u31 u32 u33 u34 u35 u36 : Value), a' = { tmps := #[v, undef, .slice none 0 0, .int .i64 0, .pointer (some ⟨b, 0, none⟩), .func (.func 24) #[.pointer (some ⟨b, 0, none⟩)] #[], u6, u7, u8, u9, u10, u11, u12, u13, u14, u15, u16, u17, u18, u19, u20, u21, u22, u23, u24, u25, u26, u27, u28, u29, u30, u31, u32, u33, u34, u35, u36], defers := [] } ∧ w.heap.size ≤ b ∧ IsInts w w.heap.size v rest ∧ LB W b done ∧ done ++ enc rest = enc xs ∧ Below w.heap.size w W ∧ (∀ x ∈ rest, x ≤ 1099511627776 ∧ 0 ≤ x) ∧ rest.length ≤ 1099511627776)
        (fun a' _ => lenV (a'.tmps.getD 0 undef)) rfl ?_ ?_
      · go_wp2_with fail
        refine C1.out.mono ?_
        rintro e w1 ⟨rfl, hB1⟩
        go_wp2_with fail
        refine (C2.out _ hB1).mono ?_
        rintro e w2 ⟨rfl, hB2⟩
        have hBw : Below w.heap.size w w2 := hB1.trans (hB2.mono hB1.size)
        have hzw := hBw.size
        clear hB1 hB2 C1 C2
        obtain ⟨b, hb⟩ : ∃ b, w2.heap.size = b := ⟨_, rfl⟩
        obtain ⟨wr, hwr⟩ : ∃ wr, w2.alloc (.cells #[.slice none 0 0] 44) = wr := ⟨_, rfl⟩
        have hL : LB wr b [] := ⟨_, by rw [← hwr]; exact heap_new _ _ _ hb.symm, OwnInts.nil _ _⟩
        have hB : Below w.heap.size w wr := by rw [← hwr]; exact hBw.alloc hzw _
        have hbw : w.heap.size ≤ b := by omega
        have hv := Hv.out
        have heq : [] ++ enc xs = enc xs := rfl
        obtain ⟨rest, hrest⟩ : ∃ rest, xs = rest := ⟨_, rfl⟩
        obtain ⟨done, hdone0⟩ : ∃ done : List Int, [] = done := ⟨_, rfl⟩
        have HNr : Hid (rest.length = N) := by rw [← hrest]; exact HN.out
        have heq : done ++ enc rest = enc xs := by rw [← hdone0, ← hrest]; rfl
        rw [hdone0] at hL
        rw [hrest] at hv hels
        have HW := Lib.hid hwr
        have HBB := Lib.hid hb
        clear hwr hb hrest hdone0 hBw Hv HN
        rename Hid (rest.length = N) => HN
        go_wp2
        rw [HBB.out, HW.out]
        go_step3
        obtain ⟨k, hk⟩ : ∃ k, rowLen 0 rest = k := ⟨_, rfl⟩
        have hkN := rowLen_le 0 rest
        have herow := enc_row rest
        rw [hk] at hkN herow
        rw [HN.out] at hkN
        have hdl : done.length ≤ 1099511627776 := by
          have h1 := enc_len xs
          have h2 := congrArg List.length heq
          simp only [List.length_append] at h2
          omega
        have CR := Lib.hid (row_any wr _ rest 0 ((hv.below hB (Nat.le_refl _)).mono hB.size) (by have := HN.out; omega))
        rw [hk] at CR
        obtain ⟨v2, hv2, ⟨q2, c2, rfl⟩, _, hsl, _⟩ := hv.cut k N hkN (Nat.le_refl _)
        have hsl := hsl rfl
        rw [show ((rest.take N).drop k) = rest.drop k by rw [← HN.out, List.take_length]] at hv2
        have Hv2 := Lib.hid hv2
        have Herow := Lib.hid herow
        have HL := Lib.hid hL
        have Heq := Lib.hid heq
        have hbz := hL.lt
        have hBz := hB.size
        clear hk herow hv2 hL heq
        go_wp2_with fail
        refine CR.out.mono ?_
        rintro e w3 ⟨rfl, hB3⟩
        have HL3 : Hid (LB w3 b done) := HL.out.below hB3
        have hBw3 : Below w.heap.size w w3 := hB.trans (hB3.mono hBz)
        have hz3 := hB3.size
        clear hB hB3 HL CR
        go_wp2_with fail
        refine (digits_any (k : Int) w3 (by omega) (by omega)).mono ?_
        rintro e w4 ⟨vd, rfl, hd, hB4⟩
        rw [Int.toNat_natCast] at hd
        have hdk := length_digs_64 k (by omega)
        have HL4 : Hid (LB w4 b done) := HL3.out.below hB4
        have hBw4 : Below w.heap.size w w4 := hBw3.trans (hB4.mono hBw3.size)
        have hz4 := hB4.size
        have Hd := Lib.hid hd
        clear hBw3 hB4 HL3 hd
        go_wp2_with fail
        refine (lay_any w4 b done (digs k) vd HL4.out Hd.out.is (by omega)).mono ?_
        rintro e w5 ⟨rfl, hL5, hB5⟩
        have HL5 := Lib.hid hL5
        have hBw5 : Below w.heap.size w w5 := hBw4.trans (hB5.mono hbw)
        have hz5 := hL5.lt
        have hz5' := hB5.size
        clear hBw4 hB5 HL4 hL5 Hd
        by_cases hkn : k < N
        · have hx0 : (0 : Int) < ((N - k : Nat) : Int) := by omega
          have hN0 : 0 < N - k := by omega
          obtain ⟨g, o, rfl, hg, hc⟩ := Hv2.out.at 0 (by rw [List.length_drop]; have := HN.out; omega)
          obtain ⟨x, hx⟩ : ∃ x, (rest.drop k)[0]?.getD 0 = x := ⟨_, rfl⟩
          rw [hx] at hc
          obtain ⟨r', hr'⟩ : ∃ r', rest.drop k = x :: r' := by
            have hl : k < rest.length := by have := HN.out; omega
            refine ⟨rest.drop (k + 1), ?_⟩
            rw [List.drop_eq_getElem_cons hl]
            rw [List.getElem?_drop, Nat.add_zero, List.getElem?_eq_getElem hl] at hx
            simp only [Option.getD_some] at hx
            rw [hx]
          have hxb : x ≤ 1099511627776 ∧ 0 ≤ x := hels x (List.mem_of_mem_drop (i := k) (by rw [hr']; exact List.mem_cons_self))
          have hcell : w5.cell? ⟨g, o, none⟩ = some (.int .i64 x) := (hBw5.cell (p := ⟨g, o, none⟩) hg).trans (by simpa using hc)
          obtain ⟨v3, hv3, ⟨q3, c3, rfl⟩, _, hsl3, _⟩ := Hv2.out.cut 1 (N - k) (by omega) (Nat.le_refl _)
          have hsl3 := hsl3 rfl
          simp only [Int.natCast_one] at hsl3
          have hv3' : IsInts w w.heap.size (.slice q3 (N - k - 1) c3) r' := by
            rw [hr'] at hv3
            have e : ((x :: r').take (N - k)).drop 1 = r' := by
              have hl : (x :: r').length = N - k := by rw [← hr', List.length_drop, HN.out]
              rw [← hl, List.take_length]; rfl
            rw [e] at hv3; exact hv3
          have Hv3 := Lib.hid hv3'
          have hlr : r'.length = N - k - 1 := by
            have hl : (x :: r').length = N - k := by rw [← hr', List.length_drop, HN.out]
            simp at hl; omega
          have Hlr := Lib.hid hlr
          have hels' : Hid (∀ y ∈ r', y ≤ 1099511627776 ∧ 0 ≤ y) := fun y hy => hels y (List.mem_of_mem_drop (i := k) (by rw [hr']; exact List.mem_cons_of_mem _ hy))
          have heq' : Hid ((done ++ digs k) ++ [x + 1] ++ enc r' = enc xs) := by
            show _ = _
            rw [← Heq.out, Herow.out, hr']
            simp [encRest]
          have hdone : (done ++ digs k).length ≤ 2199023255552 := by simp only [List.length_append]; omega
          clear Herow hx hc hr' hv3 hv3' hlr Heq hels
          go_wp2_with fail
          refine (lay_any _ b (done ++ digs k) [x + 1] _ (HL5.out.below ((Below.refl _ _).alloc (Nat.le_refl _) _)) ((IsInts.new w5 [x + 1] _ _ _ rfl rfl rfl (by simp [maxLen])).mono (by simp)) (by simp only [List.length_cons, List.length_nil]; omega)).mono ?_
          rintro e w6 ⟨rfl, hL6, hB6⟩
          have HL6 := Lib.hid hL6
          have hBw6 : Below w.heap.size w w6 := (hBw5.alloc (by omega) _).trans (hB6.mono hbw)
          clear hL6 hB6 hBw5 HL5
          go_wp2
          go_step3
          refine ⟨rfl, b, _, r', _, _, _, _, _, _, _, _, _, _, _, _, _, _, _, _, _, _, _, _, _, _, _, _, _, _, _, _, _, _, _, _, rfl, hbw, Hv3.out, HL6.out, heq'.out, hBw6, hels'.out, by have := Hlr.out; omega⟩
        · have hkn' : N - k = 0 := by omega
          have hr0 : rest.drop k = [] := List.drop_eq_nil_of_le (by have := HN.out; omega)
          rw [hkn'] at hsl
          have hfin : Hid (done ++ digs k = enc xs) := by
            show _ = _
            rw [← Heq.out, Herow.out, hr0]; simp [encRest]
          obtain ⟨vl, hvl, hol⟩ := HL5.out
          obtain ⟨q, c, rfl⟩ := hol.shape
          have hcl : w5.cell? ⟨b, 0, none⟩ = some (.slice q (done ++ digs k).length c) := cell_of_heap hvl 0
          have Hol := Lib.hid hol
          clear Heq Herow hr0 hvl hol HL5
          go_wp2
          simp only [Exit.jump]
          go_ret2
          have Hol2 := OwnInts.mono Hol.out (b2 := w.heap.size) (by omega)
          rw [List.length_append] at Hol2
          exact ⟨.slice q (done.length + (digs k).length) c, by rw [HE.out]; rfl, by rw [HV.out, ← hfin.out]; exact Hol2, hBw5⟩
      · rintro a' wr ⟨b, v, rest, done, u6, u7, u8, u9, u10, u11, u12, u13, u14, u15, u16, u17, u18, u19, u20, u21, u22, u23, u24, u25, u26, u27, u28, u29, u30, u31, u32, u33, u34, u35, u36, rfl, hbw, hv, hL, heq, hB, hels, hN1⟩
        obtain ⟨A, ca, rfl, hc1, hc2⟩ := hv.shape
        obtain ⟨N, hN⟩ : ∃ N, rest.length = N := ⟨_, rfl⟩
        rw [hN] at hv hc1 hN1 ⊢
        have HN := Lib.hid hN
        clear hN C1 C2 Hv
        obtain ⟨k, hk⟩ : ∃ k, rowLen 0 rest = k := ⟨_, rfl⟩
        have hkN := rowLen_le 0 rest
        have herow := enc_row rest
        rw [hk] at hkN herow
        rw [HN.out] at hkN
        have hdl : done.length ≤ 1099511627776 := by
          have h1 := enc_len xs
          have h2 := congrArg List.length heq
          simp only [List.length_append] at h2
          omega
        have CR := Lib.hid (row_any wr _ rest 0 ((hv.below hB (Nat.le_refl _)).mono hB.size) (by have := HN.out; omega))
        rw [hk] at CR
        obtain ⟨v2, hv2, ⟨q2, c2, rfl⟩, _, hsl, _⟩ := hv.cut k N hkN (Nat.le_refl _)
        have hsl := hsl rfl
        rw [show ((rest.take N).drop k) = rest.drop k by rw [← HN.out, List.take_length]] at hv2
        have Hv2 := Lib.hid hv2
        have Herow := Lib.hid herow
        have HL := Lib.hid hL
        have Heq := Lib.hid heq
        have hbz := hL.lt
        have hBz := hB.size
        clear hk herow hv2 hL heq
        go_wp2_with fail
        refine CR.out.mono ?_
        rintro e w3 ⟨rfl, hB3⟩
        have HL3 : Hid (LB w3 b done) := HL.out.below hB3
        have hBw3 : Below w.heap.size w w3 := hB.trans (hB3.mono hBz)
        have hz3 := hB3.size
        clear hB hB3 HL CR
        go_wp2_with fail
        refine (digits_any (k : Int) w3 (by omega) (by omega)).mono ?_
        rintro e w4 ⟨vd, rfl, hd, hB4⟩
        rw [Int.toNat_natCast] at hd
        have hdk := length_digs_64 k (by omega)
        have HL4 : Hid (LB w4 b done) := HL3.out.below hB4
        have hBw4 : Below w.heap.size w w4 := hBw3.trans (hB4.mono hBw3.size)
        have hz4 := hB4.size
        have Hd := Lib.hid hd
        clear hBw3 hB4 HL3 hd
        go_wp2_with fail
        refine (lay_any w4 b done (digs k) vd HL4.out Hd.out.is (by omega)).mono ?_
        rintro e w5 ⟨rfl, hL5, hB5⟩
        have HL5 := Lib.hid hL5
        have hBw5 : Below w.heap.size w w5 := hBw4.trans (hB5.mono hbw)
        have hz5 := hL5.lt
        have hz5' := hB5.size
        clear hBw4 hB5 HL4 hL5 Hd
        by_cases hkn : k < N
        · have hx0 : (0 : Int) < ((N - k : Nat) : Int) := by omega
          have hN0 : 0 < N - k := by omega
          obtain ⟨g, o, rfl, hg, hc⟩ := Hv2.out.at 0 (by rw [List.length_drop]; have := HN.out; omega)
          obtain ⟨x, hx⟩ : ∃ x, (rest.drop k)[0]?.getD 0 = x := ⟨_, rfl⟩
          rw [hx] at hc
          obtain ⟨r', hr'⟩ : ∃ r', rest.drop k = x :: r' := by
            have hl : k < rest.length := by have := HN.out; omega
            refine ⟨rest.drop (k + 1), ?_⟩
            rw [List.drop_eq_getElem_cons hl]
            rw [List.getElem?_drop, Nat.add_zero, List.getElem?_eq_getElem hl] at hx
            simp only [Option.getD_some] at hx
            rw [hx]
          have hxb : x ≤ 1099511627776 ∧ 0 ≤ x := hels x (List.mem_of_mem_drop (i := k) (by rw [hr']; exact List.mem_cons_self))
          have hcell : w5.cell? ⟨g, o, none⟩ = some (.int .i64 x) := (hBw5.cell (p := ⟨g, o, none⟩) hg).trans (by simpa using hc)
          obtain ⟨v3, hv3, ⟨q3, c3, rfl⟩, _, hsl3, _⟩ := Hv2.out.cut 1 (N - k) (by omega) (Nat.le_refl _)
          have hsl3 := hsl3 rfl
          simp only [Int.natCast_one] at hsl3
          have hv3' : IsInts w w.heap.size (.slice q3 (N - k - 1) c3) r' := by
            rw [hr'] at hv3
            have e : ((x :: r').take (N - k)).drop 1 = r' := by
              have hl : (x :: r').length = N - k := by rw [← hr', List.length_drop, HN.out]
              rw [← hl, List.take_length]; rfl
            rw [e] at hv3; exact hv3
          have Hv3 := Lib.hid hv3'
          have hlr : r'.length = N - k - 1 := by
            have hl : (x :: r').length = N - k := by rw [← hr', List.length_drop, HN.out]
            simp at hl; omega
          have Hlr := Lib.hid hlr
          have hels' : Hid (∀ y ∈ r', y ≤ 1099511627776 ∧ 0 ≤ y) := fun y hy => hels y (List.mem_of_mem_drop (i := k) (by rw [hr']; exact List.mem_cons_of_mem _ hy))
          have heq' : Hid ((done ++ digs k) ++ [x + 1] ++ enc r' = enc xs) := by
            show _ = _
            rw [← Heq.out, Herow.out, hr']
            simp [encRest]
          have hdone : (done ++ digs k).length ≤ 2199023255552 := by simp only [List.length_append]; omega
          clear Herow hx hc hr' hv3 hv3' hlr Heq hels
          go_wp2_with fail
          refine (lay_any _ b (done ++ digs k) [x + 1] _ (HL5.out.below ((Below.refl _ _).alloc (Nat.le_refl _) _)) ((IsInts.new w5 [x + 1] _ _ _ rfl rfl rfl (by simp [maxLen])).mono (by simp)) (by simp only [List.length_cons, List.length_nil]; omega)).mono ?_
          rintro e w6 ⟨rfl, hL6, hB6⟩
          have HL6 := Lib.hid hL6
          have hBw6 : Below w.heap.size w w6 := (hBw5.alloc (by omega) _).trans (hB6.mono hbw)
          clear hL6 hB6 hBw5 HL5
          go_wp2
          go_step3
          refine ⟨rfl, ⟨b, _, r', _, _, _, _, _, _, _, _, _, _, _, _, _, _, _, _, _, _, _, _, _, _, _, _, _, _, _, _, _, _, _, _, rfl, hbw, Hv3.out, HL6.out, heq'.out, hBw6, hels'.out, by have := Hlr.out; omega⟩, by simp [lenV]; omega⟩
        · have hkn' : N - k = 0 := by omega
          have hr0 : rest.drop k = [] := List.drop_eq_nil_of_le (by have := HN.out; omega)
          rw [hkn'] at hsl
          have hfin : Hid (done ++ digs k = enc xs) := by
            show _ = _
            rw [← Heq.out, Herow.out, hr0]; simp [encRest]
          obtain ⟨vl, hvl, hol⟩ := HL5.out
          obtain ⟨q, c, rfl⟩ := hol.shape
          have hcl : w5.cell? ⟨b, 0, none⟩ = some (.slice q (done ++ digs k).length c) := cell_of_heap hvl 0
          have Hol := Lib.hid hol
          clear Heq Herow hr0 hvl hol HL5
          go_wp2
          simp only [Exit.jump]
          go_ret2
          have Hol2 := OwnInts.mono Hol.out (b2 := w.heap.size) (by omega)
          rw [List.length_append] at Hol2
          exact ⟨.slice q (done.length + (digs k).length) c, by rw [HE.out]; rfl, by rw [HV.out, ← hfin.out]; exact Hol2, hBw5⟩
end Go.Proofs.Ytflhhlemoaifnaa

