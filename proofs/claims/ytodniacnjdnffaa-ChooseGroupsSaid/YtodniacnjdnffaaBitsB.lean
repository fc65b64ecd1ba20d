/- Merged: BitsPut, BitsCat, OfP, BitsCore. -/
import Derived.Test.YtodniacnjdnffaaBitsA
import Derived.Deep.QuietTactic
import Derived.BigQuiet
import Derived.Test.YtodniacnjdnffaaLift
/- Put and Cat of the program: contracts. -/
namespace Go.Proofs.Ytodniacnjdnffaa
open Go.RowKit
set_option linter.unusedVariables false

/-- what is put -/
def putL (s : List UInt8) (m : Int) (v : Nat) (n : Int) : Option (List Bool) :=
  if rightB s m then (if 0 ≤ n ∧ n ≤ 64 then some (B.slice s 0 m.toNat ++ B.low v n.toNat) else none) else none

set_option maxHeartbeats 400000 in
theorem put1_any (w : World) (b : Nat) (a1 a2 a3 : Nat) (s : ByteArray) (m : Int) (v : Nat) (n : Int) (h : Wr w b []) (hs : 8 * s.size < 562949953421248) (hv : v < 18446744073709551616)
    (hm : -9223372036854775808 ≤ m) (hm' : m ≤ 9223372036854775807) (h1 : a1 < b) (h2 : a2 < b) (h3 : a3 < b)
    (c1 : w.heap[a1]? = some (.cells #[.string s, .int .i64 m] 41 (0, 0))) (c2 : w.heap[a2]? = some (.cells #[.int .u64 v] 59 (0, 0))) (c3 : w.heap[a3]? = some (.cells #[.int .i64 n] 3 (0, 0))) :
    Calls Try.prog 42 #[.pointer (some ⟨b, 0, none⟩), .pointer (some ⟨a1, 0, none⟩), .pointer (some ⟨a2, 0, none⟩), .pointer (some ⟨a3, 0, none⟩)] w (Laid w b (putL s.data.toList m v n)) := by
  have q0 : w.cell? ⟨a1, 0, none⟩ = some (.string s) := cell_of_heap c1 0
  have q1 : w.cell? ⟨a1, 1, none⟩ = some (.int .i64 m) := cell_of_heap c1 1
  have hb := bits_any w b [] s m h (by simpa using by omega) hm hm'
  have Hb := Lib.hid hb
  have C1 := Lib.hid c1
  have C2 := Lib.hid c2
  have C3 := Lib.hid c3
  clear hb c1 c2 c3
  cases hr : rightB s.data.toList m with
  | false =>
    have hp : putL s.data.toList m v n = none := by unfold putL; rw [hr]; rfl
    rw [hp]
    rw [hr] at Hb
    clear hr hp
    go_enter Try.func42, Try.ntmps42
    go_wp2_with (go_at_call 43; refine Hb.out.mono ?_; rintro e w' ⟨hB, rfl⟩)
    exact ⟨rfl, hB, rfl⟩
  | true =>
    have hp : putL s.data.toList m v n = if 0 ≤ n ∧ n ≤ 64 then some (B.slice s.data.toList 0 m.toNat ++ B.low v n.toNat) else none := by unfold putL; rw [hr]; rfl
    rw [hp]
    rw [hr, if_pos rfl, List.nil_append] at Hb
    have hl : (B.slice s.data.toList 0 m.toNat).length ≤ 8 * s.size := by
      rw [B.length_slice]
      unfold rightB at hr
      simp only [Bool.and_eq_true, decide_eq_true_eq] at hr
      have : s.data.toList.length = s.size := by simp
      omega
    clear hr hp
    generalize B.slice s.data.toList 0 m.toNat = l at *
    by_cases hn : 0 ≤ n ∧ n ≤ 64
    · have e : (if 0 ≤ n ∧ n ≤ 64 then some (l ++ B.low v n.toNat) else none) = some (l ++ B.low v n.toNat) := if_pos hn
      rw [e]
      clear e
      go_enter Try.func42, Try.ntmps42
      go_wp2_with
        (first
         | (go_at_call 43
            refine Hb.out.mono ?_
            rintro e w1 ⟨hB, rfl, hW⟩
            have q2 : w1.cell? ⟨a2, 0, none⟩ = some (.int .u64 v) := cell_of_heap ((hB.block _ h2).trans C2.out) 0
            have q3 : w1.cell? ⟨a3, 0, none⟩ = some (.int .i64 n) := cell_of_heap ((hB.block _ h3).trans C3.out) 0)
         | (go_at_call 44
            refine (number_any _ b l v n hW hv (by omega)).mono ?_
            rintro e w2 ⟨hB2, hL⟩
            rw [if_pos hn] at hL
            obtain ⟨rfl, hW2⟩ := hL))
      go_end0
      exact ⟨hB.trans hB2, rfl, hW2⟩
    · have e : (if 0 ≤ n ∧ n ≤ 64 then some (l ++ B.low v n.toNat) else none) = none := if_neg hn
      rw [e]
      clear e
      go_enter Try.func42, Try.ntmps42
      go_wp2_with
        (first
         | (go_at_call 43
            refine Hb.out.mono ?_
            rintro e w1 ⟨hB, rfl, hW⟩
            have q2 : w1.cell? ⟨a2, 0, none⟩ = some (.int .u64 v) := cell_of_heap ((hB.block _ h2).trans C2.out) 0
            have q3 : w1.cell? ⟨a3, 0, none⟩ = some (.int .i64 n) := cell_of_heap ((hB.block _ h3).trans C3.out) 0)
         | (go_at_call 44
            refine (number_any _ b l v n hW hv (by omega)).mono ?_
            rintro e w2 ⟨hB2, hL⟩
            rw [if_neg hn] at hL
            obtain rfl := hL))
      exact ⟨rfl, hB.trans hB2, rfl⟩

theorem enters_put1 : Enters Try.prog 42 := enters_of Try.func42 (by kernel_rfl) rfl

/-- bits that are no result -/
def noBits : Value := .agg #[.string ⟨#[]⟩, .int .i64 0]

set_option maxHeartbeats 400000 in
theorem put_any (w : World) (s : ByteArray) (m : Int) (v : Nat) (n : Int) (hs : 8 * s.size < 562949953421248) (hv : v < 18446744073709551616) (hm : -9223372036854775808 ≤ m) (hm' : m ≤ 9223372036854775807) :
    Calls Try.prog 31 #[.agg #[.string s, .int .i64 m], .int .u64 v, .int .i64 n] w fun e w' => e = .returned (laidVal (putL s.data.toList m v n)) ∧ Below w.heap.size w w' := by
  have hmf := hmf
  have hz : (((w.alloc (.cells #[.string s, .int .i64 m] 41)).alloc (.cells #[.int .u64 v] 59)).alloc (.cells #[.int .i64 n] 3)).heap.size = w.heap.size + 3 := by simp
  obtain ⟨W, hW⟩ : ∃ W, W = ((((w.alloc (.cells #[.string s, .int .i64 m] 41)).alloc (.cells #[.int .u64 v] 59)).alloc (.cells #[.int .i64 n] 3)).alloc (.cells #[.string ⟨#[]⟩, .int .i64 0] 41)) := ⟨_, rfl⟩
  have a0 : W.heap[w.heap.size]? = some (.cells #[.string s, .int .i64 m] 41 (0, 0)) := by rw [hW]; exact heap_up _ (heap_up _ (heap_up _ (heap_alloc_new w _)))
  have a1 : W.heap[w.heap.size + 1]? = some (.cells #[.int .u64 v] 59 (0, 0)) := by rw [hW]; exact heap_up _ (heap_up _ (heap_new _ _ _ (by simp)))
  have a2 : W.heap[w.heap.size + 1 + 1]? = some (.cells #[.int .i64 n] 3 (0, 0)) := by rw [hW]; exact heap_up _ (heap_new _ _ _ (by simp))
  have a3 : W.heap[w.heap.size + 1 + 1 + 1]? = some (.cells #[.string ⟨#[]⟩, .int .i64 0] 41 (0, 0)) := by rw [hW]; exact heap_new _ _ _ (by simp)
  have hWs : W.heap.size = w.heap.size + 4 := by rw [hW]; simp
  have hWB : Below w.heap.size w W := by rw [hW]; exact ((((Below.refl _ _).alloc (Nat.le_refl _) _).alloc (by simp) _).alloc (by simp; omega) _).alloc (by simp; omega) _
  have HW := Lib.hid hW
  clear hW hz
  have C := Lib.hid (laid_any W 42 #[.pointer (some ⟨w.heap.size, 0, none⟩), .pointer (some ⟨w.heap.size + 1, 0, none⟩), .pointer (some ⟨w.heap.size + 1 + 1, 0, none⟩)] (putL s.data.toList m v n) enters_put1
    (fun W' b hB hb hw => put1_any W' b w.heap.size (w.heap.size + 1) (w.heap.size + 1 + 1) s m v n hw hs hv hm hm' (by omega) (by omega) (by omega) ((hB.block _ (by omega)).trans a0) ((hB.block _ (by omega)).trans a1) ((hB.block _ (by omega)).trans a2)))
  have A3 := Lib.hid a3
  clear a0 a1 a2 a3
  generalize putL s.data.toList m v n = ls at *
  go_enter Try.func31, Try.ntmps31
  go_wp2_with fail
  rw [← HW.out]
  refine C.out.mono ?_
  rintro e w1 ⟨rfl, hB⟩
  have hb3 := (hB.block _ (by omega)).trans A3.out
  have q0 : w1.cell? ⟨w.heap.size + 1 + 1 + 1, 0, none⟩ = some (.string ⟨#[]⟩) := cell_of_heap hb3 0
  have q1 : w1.cell? ⟨w.heap.size + 1 + 1 + 1, 1, none⟩ = some (.int .i64 0) := cell_of_heap hb3 1
  have qf := frozen_of_heap hb3
  have hBw := hWB.trans (hB.mono (by omega))
  clear hb3 C HW A3
  cases ls with
  | none =>
    simp only [laidVal]
    go_wp2
    exact bodyPost_ret (v := .tuple #[noBits, .int .i64 1]) (by simp [results, Try.results31, go_sem, q0, q1, noBits]) rfl ⟨rfl, (hBw.setCell (p := ⟨w.heap.size + 1 + 1 + 1, 0, none⟩) (by simp; omega) _).setCell (p := ⟨w.heap.size + 1 + 1 + 1, 1, none⟩) (by simp; omega) _⟩
  | some l =>
    simp only [laidVal, bitsVal]
    go_wp2
    exact bodyPost_ret (v := .tuple #[bitsVal l, .int .i64 0]) (by simp [results, Try.results31, go_sem, q0, q1, bitsVal]) rfl ⟨rfl, (hBw.setCell (p := ⟨w.heap.size + 1 + 1 + 1, 0, none⟩) (by simp; omega) _).setCell (p := ⟨w.heap.size + 1 + 1 + 1, 1, none⟩) (by simp; omega) _⟩

end Go.Proofs.Ytodniacnjdnffaa
/- Cat of the program: its contract. -/
namespace Go.Proofs.Ytodniacnjdnffaa
open Go.RowKit
set_option linter.unusedVariables false

/-- rows of bits, as the program has them -/
abbrev Pair := ByteArray × Int
def pairCells (ps : List Pair) : List Value := ps.flatMap fun p => [.string p.1, .int .i64 p.2]
theorem length_pairCells (ps : List Pair) : (pairCells ps).length = ps.length * 2 := by
  induction ps with
  | nil => rfl
  | cons p ps ih => simp only [pairCells, List.flatMap_cons, List.length_append, List.length_cons, List.length_nil] at ih ⊢; omega
theorem pairCells_at (ps : List Pair) : ∀ (i : Nat) (p : Pair), ps[i]? = some p → (pairCells ps)[i * 2]? = some (.string p.1) ∧ (pairCells ps)[i * 2 + 1]? = some (.int .i64 p.2) := by
  induction ps with
  | nil => intro i p h; simp at h
  | cons q ps ih =>
    intro i p h
    cases i with
    | zero => simp at h; subst h; simp [pairCells]
    | succ i =>
      have := ih i p (by simpa using h)
      simp only [pairCells, List.flatMap_cons] at this ⊢
      constructor
      · rw [List.getElem?_append_right (by simp; omega)]
        simpa [show (i + 1) * 2 - 2 = i * 2 by omega] using this.1
      · rw [List.getElem?_append_right (by simp; omega)]
        simpa [show (i + 1) * 2 + 1 - 2 = i * 2 + 1 by omega] using this.2
def IsPairs (w : World) (B : Nat) (v : Value) (ps : List Pair) : Prop := Rd w B 2 v ps.length (pairCells ps)
/-- all of rows of bits, if each is right -/
def catFrom (l : List Bool) : List Pair → Option (List Bool)
  | [] => some l
  | p :: ps => if rightB p.1.data.toList p.2 then catFrom (l ++ B.slice p.1.data.toList 0 p.2.toNat) ps else none
/-- how many bits they have at most -/
def pairBits : List Pair → Nat
  | [] => 0
  | p :: ps => 8 * p.1.size + pairBits ps
def PairsOk (ps : List Pair) : Prop := ∀ p ∈ ps, -9223372036854775808 ≤ p.2 ∧ p.2 ≤ 9223372036854775807
theorem pairBits_drop (ps : List Pair) (k : Nat) (p : Pair) (h : ps[k]? = some p) : pairBits (ps.drop k) = 8 * p.1.size + pairBits (ps.drop (k + 1)) := by
  have hk : k < ps.length := by
    rcases Nat.lt_or_ge k ps.length with h' | h'
    · exact h'
    · rw [List.getElem?_eq_none h'] at h; cases h
  rw [List.drop_eq_getElem_cons hk]
  rw [List.getElem?_eq_getElem hk] at h
  injection h with h
  rw [h]; rfl
theorem catFrom_drop (l : List Bool) (ps : List Pair) (k : Nat) (p : Pair) (h : ps[k]? = some p) :
    catFrom l (ps.drop k) = if rightB p.1.data.toList p.2 then catFrom (l ++ B.slice p.1.data.toList 0 p.2.toNat) (ps.drop (k + 1)) else none := by
  have hk : k < ps.length := by
    rcases Nat.lt_or_ge k ps.length with h' | h'
    · exact h'
    · rw [List.getElem?_eq_none h'] at h; cases h
  rw [List.drop_eq_getElem_cons hk]
  rw [List.getElem?_eq_getElem hk] at h
  injection h with h
  rw [h]; rfl
theorem slice_len_right (s : ByteArray) (n : Int) (h : rightB s.data.toList n = true) : (B.slice s.data.toList 0 n.toNat).length ≤ 8 * s.size := by
  rw [B.length_slice]
  unfold rightB at h
  simp only [Bool.and_eq_true, decide_eq_true_eq] at h
  have : s.data.toList.length = s.size := by simp
  omega

set_option maxHeartbeats 400000 in
theorem cat1_any (w : World) (b a : Nat) (v : Value) (ps : List Pair) (h : Wr w b []) (hab : a < b) (hv : IsPairs w b v ps) (hp : PairsOk ps) (hbits : pairBits ps < 562949953421312)
    (c1 : w.heap[a]? = some (.cells #[v] 57 (0, 0))) :
    Calls Try.prog 45 #[.pointer (some ⟨b, 0, none⟩), .pointer (some ⟨a, 0, none⟩)] w (Laid w b (catFrom [] ps)) := by
  have q0 : w.cell? ⟨a, 0, none⟩ = some v := cell_of_heap c1 0
  have hv' := hv
  obtain ⟨hlc, A, cap, rfl, hcap, hmax, hmore⟩ := hv'
  clear hlc hmore
  have hbl := h.lt
  clear c1
  generalize hls : catFrom [] ps = ls at *
  have Hls := Lib.hid hls
  clear hls
  unfold maxLen at hmax
  go_enter Try.func45, Try.ntmps45
  go_wp2
  go_loopw [7] (fun i wr => ∃ k : Nat, k ≤ ps.length ∧ i = .int .i64 k ∧ Below b w wr ∧ ∃ l, Wr wr b l ∧ l.length + pairBits (ps.drop k) < 562949953421312 ∧ catFrom l (ps.drop k) = ls) (fun i _ => ps.length - (intOf i).toNat)
  case atStart => exact ⟨0, Nat.zero_le _, rfl, Below.refl _ _, [], h, by simpa using hbits, Hls.out⟩
  case round =>
    obtain ⟨k, hk, rfl, hB, l, hw, hlen, hcat⟩ := hrel
    by_cases hlt : k < ps.length
    · have hx : ps[k]? = some (ps[k]) := List.getElem?_eq_getElem hlt
      generalize ps[k] = p at hx
      obtain ⟨s, n⟩ := p
      obtain ⟨g, o, rfl, hg, hc⟩ := (hv.below hB (Nat.le_refl _)).addr (by omega)
      have hpc := pairCells_at ps k _ hx
      have r1 : wr.cell? ⟨g, o + k * 2, none⟩ = some (.string s) := hc _ _ hpc.1
      have r2 : wr.cell? ⟨g, o + k * 2 + 1, none⟩ = some (.int .i64 n) := hc _ _ hpc.2
      have q0r : wr.cell? ⟨a, 0, none⟩ = some (.slice (some ⟨g, o, none⟩) ps.length cap) := (hB.cell (p := ⟨a, 0, none⟩) hab).trans q0
      have hpd := pairBits_drop ps k _ hx
      have hcd := catFrom_drop l ps k _ hx
      have hpr := hp _ (List.mem_of_getElem? hx)
      simp only at hpd hcd hpr
      have hwa : Wr (wr.alloc (.cells #[.string s, .int .i64 n] 41)) b l := hw.above ((Below.refl _ _).alloc (Nat.le_refl _) _) (Below.refl _ _)
      have hb := bits_any (wr.alloc (.cells #[.string s, .int .i64 n] 41)) b l s n hwa (by omega) hpr.1 hpr.2
      have hBa : Below b w (wr.alloc (.cells #[.string s, .int .i64 n] 41)) := hB.alloc (by have := hB.size; omega) _
      have hsl := slice_len_right s n
      clear hc hpc hx hw hwa
      cases hr : rightB s.data.toList n with
      | false =>
        rw [hr] at hcd hb
        rw [hcat] at hcd
        have Hb := Lib.hid hb
        have Hcd := Lib.hid hcd
        clear hb hcd hcat hr hsl
        go_wp2_with (go_at_call 43; refine Hb.out.mono ?_; rintro e w' ⟨hB', rfl⟩)
        refine ⟨rfl, hBa.trans hB', ?_⟩
        rw [Hcd.out]; rfl
      | true =>
        have hsl := hsl hr
        rw [hr] at hcd hb
        rw [hcat, if_pos rfl] at hcd
        rw [if_pos rfl] at hb
        generalize B.slice s.data.toList 0 n.toNat = m at *
        have Hb := Lib.hid hb
        have Hcd := Lib.hid hcd
        have Hpd := Lib.hid hpd
        have hlen2 : (l ++ m).length + pairBits (ps.drop (k + 1)) < 562949953421312 := by rw [List.length_append]; omega
        clear hb hcd hcat hr hpd hlen
        go_wp2_with (go_at_call 43; refine Hb.out.mono ?_; rintro e w' ⟨hB', rfl, hW'⟩)
        go_roundw
        case rel => exact ⟨k + 1, by omega, by go_num, hBa.trans hB', l ++ m, hW', hlen2, Hcd.out.symm⟩
        case measure => simp [intOf]; omega
    · obtain rfl : k = ps.length := by omega
      rw [List.drop_of_length_le (Nat.le_refl _)] at hcat
      have Hcat := Lib.hid hcat
      clear hcat
      go_wp2
      go_end0
      refine ⟨hB, ?_⟩
      rw [← Hcat.out]
      exact ⟨rfl, hw⟩
theorem enters_cat1 : Enters Try.prog 45 := enters_of Try.func45 (by kernel_rfl) rfl

set_option maxHeartbeats 400000 in
theorem cat_any (w : World) (v : Value) (ps : List Pair) (hv : IsPairs w w.heap.size v ps) (hp : PairsOk ps) (hbits : pairBits ps < 562949953421312) :
    Calls Try.prog 32 #[v] w fun e w' => e = .returned (laidVal (catFrom [] ps)) ∧ Below w.heap.size w w' := by
  have hmf := hmf
  have hv' := hv
  obtain ⟨hlc, A, cap, rfl, hcap, hmax, hmore⟩ := hv'
  clear hlc hmore hcap hmax
  obtain ⟨W, hW⟩ : ∃ W, W = ((w.alloc (.cells #[.slice A ps.length cap] 57)).alloc (.cells #[.string ⟨#[]⟩, .int .i64 0] 41)) := ⟨_, rfl⟩
  have a0 : W.heap[w.heap.size]? = some (.cells #[.slice A ps.length cap] 57 (0, 0)) := by rw [hW]; exact heap_up _ (heap_alloc_new w _)
  have a3 : W.heap[w.heap.size + 1]? = some (.cells #[.string ⟨#[]⟩, .int .i64 0] 41 (0, 0)) := by rw [hW]; exact heap_new _ _ _ (by simp)
  have hWs : W.heap.size = w.heap.size + 2 := by rw [hW]; simp
  have hWB : Below w.heap.size w W := by rw [hW]; exact ((Below.refl _ _).alloc (Nat.le_refl _) _).alloc (by simp) _
  have HW := Lib.hid hW
  clear hW
  have C := Lib.hid (laid_any W 45 #[.pointer (some ⟨w.heap.size, 0, none⟩)] (catFrom [] ps) enters_cat1
    (fun W' b hB hb hw => cat1_any W' b w.heap.size _ ps hw (by omega) ((hv.below (hWB.trans (hB.mono (by omega))) (Nat.le_refl _)).mono (by omega)) hp hbits ((hB.block _ (by omega)).trans a0)))
  have A3 := Lib.hid a3
  clear a0 a3
  generalize catFrom [] ps = ls at *
  go_enter Try.func32, Try.ntmps32
  go_wp2_with fail
  rw [← HW.out]
  refine C.out.mono ?_
  rintro e w1 ⟨rfl, hB⟩
  have hb3 := (hB.block _ (by omega)).trans A3.out
  have q0 : w1.cell? ⟨w.heap.size + 1, 0, none⟩ = some (.string ⟨#[]⟩) := cell_of_heap hb3 0
  have q1 : w1.cell? ⟨w.heap.size + 1, 1, none⟩ = some (.int .i64 0) := cell_of_heap hb3 1
  have qf := frozen_of_heap hb3
  have hBw := hWB.trans (hB.mono (by omega))
  clear hb3 C HW A3
  cases ls with
  | none =>
    simp only [laidVal]
    go_wp2
    exact bodyPost_ret (v := .tuple #[noBits, .int .i64 1]) (by simp [results, Try.results32, go_sem, q0, q1, noBits]) rfl ⟨rfl, (hBw.setCell (p := ⟨w.heap.size + 1, 0, none⟩) (by simp) _).setCell (p := ⟨w.heap.size + 1, 1, none⟩) (by simp) _⟩
  | some l =>
    simp only [laidVal, bitsVal]
    go_wp2
    exact bodyPost_ret (v := .tuple #[bitsVal l, .int .i64 0]) (by simp [results, Try.results32, go_sem, q0, q1, bitsVal]) rfl ⟨rfl, (hBw.setCell (p := ⟨w.heap.size + 1, 0, none⟩) (by simp) _).setCell (p := ⟨w.heap.size + 1, 1, none⟩) (by simp) _⟩

end Go.Proofs.Ytodniacnjdnffaa
/- Rows of ints as bits: plain. -/
namespace Go.Proofs.Ytodniacnjdnffaa
open Go.RowKit
set_option linter.unusedVariables false


theorem int_info : (Try.prog.info? 3).map (fun i => (i.zero, i.size, i.bytes)) = some (some (.int .i64 0), 1, 8) := by kernel_rfl

/-- numbers, each 0 or 1, as bits -/
def asBits (xs : List Int) : List Bool := xs.map fun x => decide (x = 1)
def Bin (xs : List Int) : Prop := ∀ x ∈ xs, x = 0 ∨ x = 1
/-- eight bits of a row, from a place on, 0 where there is none -/
def eight (l : List Bool) (i k : Nat) : List Bool := (List.range k).map fun t => l.getD (i + t) false
def bytesOf (l : List Bool) (j : Nat) : List UInt8 := (List.range j).map fun t => UInt8.ofNat (B.num (eight l (8 * t) 8))
theorem eight_succ (l : List Bool) (i k : Nat) : eight l i (k + 1) = eight l i k ++ [l.getD (i + k) false] := by
  unfold eight; rw [List.range_succ, List.map_append]; rfl
theorem length_eight (l : List Bool) (i k : Nat) : (eight l i k).length = k := by simp [eight]
theorem num_eight_lt (l : List Bool) (i k : Nat) (hk : k ≤ 8) : B.num (eight l i k) < 256 := by
  have := B.num_lt (eight l i k)
  rw [length_eight] at this
  exact Nat.lt_of_lt_of_le this (Nat.pow_le_pow_right (by omega) hk)
theorem bytesOf_succ (l : List Bool) (j : Nat) : bytesOf l (j + 1) = bytesOf l j ++ [UInt8.ofNat (B.num (eight l (8 * j) 8))] := by
  unfold bytesOf; rw [List.range_succ, List.map_append]; rfl
theorem length_bytesOf (l : List Bool) (j : Nat) : (bytesOf l j).length = j := by simp [bytesOf]
theorem bytesOf_pack (l : List Bool) (j : Nat) (hj : j = (l.length + 7) / 8) : bytesOf l j = B.pack l := by
  apply B.text_ext
  · rw [length_bytesOf, B.length_pack, hj]
  · intro i hi
    rw [length_bytesOf] at hi
    rw [B.bitAt_pack]
    unfold B.bitAt bytesOf
    have h8 : i / 8 < j := by omega
    rw [List.getD_eq_getElem?_getD, List.getElem?_map, List.getElem?_range h8]
    simp only [Option.map_some, Option.getD_some]
    rw [UInt8.toNat_ofNat_of_lt' (by have := num_eight_lt l (8 * (i / 8)) 8 (Nat.le_refl _); simpa using this)]
    have hlow := B.low_num (eight l (8 * (i / 8)) 8)
    rw [length_eight] at hlow
    have h1 : (B.low (B.num (eight l (8 * (i / 8)) 8)) 8)[i % 8]? = some ((B.num (eight l (8 * (i / 8)) 8)).testBit (7 - i % 8)) := by
      unfold B.low
      rw [List.getElem?_map, List.getElem?_range (Nat.mod_lt _ (by omega))]
      simp
    have h2 : (eight l (8 * (i / 8)) 8)[i % 8]? = some (l.getD i false) := by
      unfold eight
      rw [List.getElem?_map, List.getElem?_range (Nat.mod_lt _ (by omega))]
      simp only [Option.map_some]
      rw [show 8 * (i / 8) + i % 8 = i by omega]
    rw [hlow, h2] at h1
    injection h1 with h1
    exact h1.symm
theorem getD_asBits (xs : List Int) (i : Nat) (x : Int) (h : xs[i]? = some x) : (asBits xs).getD i false = decide (x = 1) := by
  simp [asBits, List.getD_eq_getElem?_getD, h]
theorem getD_asBits_none (xs : List Int) (i : Nat) (h : xs.length ≤ i) : (asBits xs).getD i false = false := by
  simp [asBits, List.getD_eq_getElem?_getD, List.getElem?_eq_none h]

def rawInts (raw : List Int) (m : Nat) : List Int := (raw.take m).map fun c => pickF c 2
/-- raw numbers, at most so many, as bits -/
def rawBits (raw : List Int) (m : Nat) : List Bool := asBits (rawInts raw m)
theorem rawInts_succ (raw : List Int) (m : Nat) (x : Int) (h : raw[m]? = some x) : rawInts raw (m + 1) = rawInts raw m ++ [pickF x 2] := by
  unfold rawInts
  rw [List.take_add_one, h]
  simp
theorem length_rawInts (raw : List Int) (m : Nat) (h : m ≤ raw.length) : (rawInts raw m).length = m := by simp [rawInts]; omega
theorem rawInts_all (raw : List Int) (m : Nat) (h : raw.length ≤ m) : rawInts raw m = rawInts raw raw.length := by
  unfold rawInts; rw [List.take_of_length_le h, List.take_length]
theorem bin_rawInts (raw : List Int) (m : Nat) : Bin (rawInts raw m) := by
  intro x hx
  simp only [rawInts, List.mem_map] at hx
  obtain ⟨c, _, rfl⟩ := hx
  have := pickF_lt c 2 (by omega)
  omega
theorem own_ints {w : World} {base e : Nat} {v : Value} {xs : List Int} (h : w.ownsRow base e 1 v xs.length (intCells xs)) : IsInts w w.heap.size v xs := Rd.own h

end Go.Proofs.Ytodniacnjdnffaa
/- Bits as rows of Bools: facts; Put, Cat at what may be. -/
namespace Go.Proofs.Ytodniacnjdnffaa
open Go.RowKit
set_option linter.unusedVariables false

/-- the text of bits -/
def txt (l : List Bool) : ByteArray := ⟨(B.pack l).toArray⟩
theorem txt_list (l : List Bool) : (txt l).data.toList = B.pack l := rfl
theorem txt_size (l : List Bool) : (txt l).size = (l.length + 7) / 8 := by
  rw [← B.length_pack]; rfl
theorem bitsVal_txt (l : List Bool) : bitsVal l = .agg #[.string (txt l), .int .i64 (l.length : Nat)] := rfl
theorem rightB_pack (l : List Bool) : rightB (B.pack l) (l.length : Nat) = true := by
  have := B.right_pack l
  unfold rightB
  simp only [Bool.and_eq_true, decide_eq_true_eq]
  refine ⟨⟨by omega, by rw [Int.toNat_natCast]; exact this.1⟩, fun i hi hn => this.2 i (by omega) hi⟩
theorem putL_pack (l : List Bool) (v : Nat) (n : Nat) (hn : n ≤ 64) : putL (B.pack l) (l.length : Nat) v n = some (l ++ B.low v n) := by
  unfold putL
  rw [rightB_pack, if_pos rfl, if_pos ⟨by omega, by omega⟩, Int.toNat_natCast, Int.toNat_natCast, B.slice_pack]
theorem getE_ok (s : List UInt8) (a n : Nat) (h : a + n ≤ 8 * s.length) (hn : n ≤ 64) : getE s a n = 0 := by
  unfold getE
  rw [if_neg (by omega), if_neg (by omega)]
theorem getV_ok (s : List UInt8) (a n : Nat) (h : a + n ≤ 8 * s.length) (hn : n ≤ 64) : getV s a n = (B.num (B.slice s a n) : Nat) := by
  unfold getV
  rw [if_neg (by omega), if_neg (by omega), Int.toNat_natCast, Int.toNat_natCast]
theorem len8_pack (l : List Bool) : l.length ≤ 8 * (B.pack l).length := by rw [B.length_pack]; omega
theorem getE_pack (l : List Bool) (a n : Nat) (h : a + n ≤ l.length) (hn : n ≤ 64) : getE (B.pack l) a n = 0 :=
  getE_ok _ _ _ (Nat.le_trans h (len8_pack l)) hn
theorem getV_pack (l : List Bool) (a n : Nat) (h : a + n ≤ l.length) (hn : n ≤ 64) : getV (B.pack l) a n = (B.num ((l.drop a).take n) : Nat) := by
  rw [getV_ok _ _ _ (Nat.le_trans h (len8_pack l)) hn, B.slice_pack_at _ _ _ h]
/-- rows of bits that are right -/
def pairOf (l : List Bool) : Pair := (txt l, (l.length : Nat))
theorem catFrom_pairs (ls : List (List Bool)) : ∀ l : List Bool, catFrom l (ls.map pairOf) = some (l ++ ls.flatten) := by
  induction ls with
  | nil => intro l; simp [catFrom]
  | cons m ls ih =>
    intro l
    rw [List.map_cons]
    unfold catFrom
    rw [show (pairOf m).1.data.toList = B.pack m from rfl, show (pairOf m).2 = ((m.length : Nat) : Int) from rfl, rightB_pack, if_pos rfl, Int.toNat_natCast, B.slice_pack, ih]
    simp
theorem pairBits_pairs (ls : List (List Bool)) : pairBits (ls.map pairOf) ≤ ls.flatten.length + 8 * ls.length := by
  induction ls with
  | nil => simp [pairBits]
  | cons m ls ih =>
    rw [List.map_cons]
    unfold pairBits
    rw [show (pairOf m).1.size = (m.length + 7) / 8 from txt_size m]
    simp only [List.flatten_cons, List.length_append, List.length_cons]
    omega
theorem pairsOk_pairs (ls : List (List Bool)) (h : ls.flatten.length < 9223372036854775807) : PairsOk (ls.map pairOf) := by
  intro p hp
  simp only [List.mem_map] at hp
  obtain ⟨l, hl, rfl⟩ := hp
  have : l.length ≤ ls.flatten.length := by
    clear h
    induction ls with
    | nil => simp at hl
    | cons m ls ih =>
      simp only [List.flatten_cons, List.length_append]
      rcases List.mem_cons.1 hl with rfl | h
      · omega
      · have := ih h; omega
  simp only [pairOf]
  omega
theorem length_rawBits (raw : List Int) (m : Nat) : (rawBits raw m).length ≤ m := by simp [rawBits, asBits, rawInts]; omega
theorem pow_cast (k : Nat) : ((2 : Int) ^ k) = ((2 ^ k : Nat) : Int) := by push_cast; rfl
theorem wrap_pow (k : Nat) (h : k < 64) : IntKind.u64.wrap (2 ^ k) = (2 : Int) ^ k := by
  have h1 : 2 ^ k < 18446744073709551616 := by
    have : 2 ^ k < 2 ^ 64 := Nat.pow_lt_pow_right (by omega) h
    simpa using this
  rw [IntKind.wrap_u64, pow_cast]
  generalize 2 ^ k = p at *
  omega
theorem pow_ne (k : Nat) : ¬ ((2 : Int) ^ k = 0) := by
  have := Nat.two_pow_pos k
  rw [pow_cast]; omega
theorem IsPairs.new (w : World) (k : Nat) (hk : k = w.heap.size) (ps : List Pair) (cs : Array Value) (h : cs.toList = pairCells ps) (hn : ps.length ≤ maxLen) :
    IsPairs (w.alloc (.cells cs 41)) (w.alloc (.cells cs 41)).heap.size (.slice (some ⟨k, 0, none⟩) ps.length ps.length) ps := by
  subst hk
  have hs : cs.size = ps.length * 2 := by rw [← Array.length_toList, h, length_pairCells]
  have := Rd.new w cs 41 2 ps.length hs hn
  unfold IsPairs
  rw [← h]
  simpa using this
/-- the program's value of bits -/
abbrev bv (l : List Bool) : Value := .agg #[.string (txt l), .int .i64 (l.length : Nat)]

theorem put_ok (w : World) (l : List Bool) (v n : Nat) (hl : l.length < 1099511627776) (hv : v < 18446744073709551616) (hn : n ≤ 64) :
    Calls Try.prog 31 #[.agg #[.string (txt l), .int .i64 (l.length : Nat)], .int .u64 v, .int .i64 n] w fun e w' =>
      e = .returned (.tuple #[.agg #[.string (txt (l ++ B.low v n)), .int .i64 ((l ++ B.low v n).length : Nat)], .int .i64 0]) ∧ Below w.heap.size w w' := by
  have hs := txt_size l
  refine (put_any w (txt l) (l.length : Nat) v n (by omega) hv (by omega) (by omega)).mono fun e w' h => ?_
  rw [txt_list, putL_pack _ _ _ hn] at h
  exact h

theorem right_ok (w : World) (l : List Bool) (hl : l.length < 1099511627776) :
    Calls Try.prog 49 #[.agg #[.string (txt l), .int .i64 (l.length : Nat)]] w fun e w' => e = .returned (.bool true) ∧ Below w.heap.size w w' := by
  have hs := txt_size l
  refine (right_any (txt l) (l.length : Nat) w (by omega) (by omega) (by omega)).mono fun e w' h => ?_
  rw [txt_list, rightB_pack] at h
  exact h

theorem cat_ok (w : World) (v : Value) (ls : List (List Bool)) (hv : IsPairs w w.heap.size v (ls.map pairOf)) (hl : ls.flatten.length + 8 * ls.length < 1099511627776) :
    Calls Try.prog 32 #[v] w fun e w' =>
      e = .returned (.tuple #[.agg #[.string (txt ls.flatten), .int .i64 (ls.flatten.length : Nat)], .int .i64 0]) ∧ Below w.heap.size w w' := by
  have hb := pairBits_pairs ls
  refine (cat_any w v _ hv (pairsOk_pairs ls (by omega)) (by omega)).mono fun e w' h => ?_
  rw [catFrom_pairs, List.nil_append] at h
  exact h
theorem cat_is (w : World) (v : Value) (ls : List (List Bool)) (r : List Bool) (hr : ls.flatten = r) (hv : IsPairs w w.heap.size v (ls.map pairOf)) (hl : r.length + 8 * ls.length < 1099511627776) :
    Calls Try.prog 32 #[v] w fun e w' =>
      e = .returned (.tuple #[.agg #[.string (txt r), .int .i64 (r.length : Nat)], .int .i64 0]) ∧ Below w.heap.size w w' := by
  subst hr
  exact cat_ok w v ls hv hl
theorem put_is (w : World) (l : List Bool) (v n : Nat) (r : List Bool) (hr : l ++ B.low v n = r) (hl : l.length < 1099511627776) (hv : v < 18446744073709551616) (hn : n ≤ 64) :
    Calls Try.prog 31 #[.agg #[.string (txt l), .int .i64 (l.length : Nat)], .int .u64 v, .int .i64 n] w fun e w' =>
      e = .returned (.tuple #[.agg #[.string (txt r), .int .i64 (r.length : Nat)], .int .i64 0]) ∧ Below w.heap.size w w' := by
  subst hr
  exact put_ok w l v n hl hv hn
theorem put_nil (w : World) (v n : Nat) (r : List Bool) (hr : B.low v n = r) (hv : v < 18446744073709551616) (hn : n ≤ 64) :
    Calls Try.prog 31 #[.agg #[.string ⟨#[]⟩, .int .i64 0], .int .u64 v, .int .i64 n] w fun e w' =>
      e = .returned (.tuple #[.agg #[.string (txt r), .int .i64 (r.length : Nat)], .int .i64 0]) ∧ Below w.heap.size w w' := by
  subst hr
  exact put_ok w [] v n (by simp) hv hn
end Go.Proofs.Ytodniacnjdnffaa
