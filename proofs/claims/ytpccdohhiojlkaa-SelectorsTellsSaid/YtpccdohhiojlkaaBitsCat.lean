/- Cat of the program: its contract. -/
import Derived.Test.YtpccdohhiojlkaaBitsPut
import Derived.Deep.QuietTactic
import Derived.BigQuiet
namespace Go.Proofs.Ytpccdohhiojlkaa
open Go.RowKit
set_option linter.unusedVariables false

/-- rows of bits, as the program has them -/
abbrev Pair := ByteArray × Int
def pairCells (ps : List Pair) : List Value := ps.flatMap fun p => [.string p.1, .int .i64 p.2]
theorem length_pairCells (ps : List Pair) : (pairCells ps).length = ps.length * 2 := by
  induction ps with
  | nil => rfl
  | cons p ps ih => simp only [pairCells, List.flatMap_cons, List.length_append, List.length_cons, List.length_nil] at ih ⊢; omega
theorem pairCells_at (ps : List Pair) : ∀ (i : Nat) (p : Pair), ps[i]? = some p → (pairCells ps)[i * 2]? = some (.string p.1) ∧ (pairCells ps)[i * 2 + 1]? = some (.int .i64 p.2) := by
  induction ps with
  | nil => intro i p h; simp at h
  | cons q ps ih =>
    intro i p h
    cases i with
    | zero => simp at h; subst h; simp [pairCells]
    | succ i =>
      have := ih i p (by simpa using h)
      simp only [pairCells, List.flatMap_cons] at this ⊢
      constructor
      · rw [List.getElem?_append_right (by simp; omega)]
        simpa [show (i + 1) * 2 - 2 = i * 2 by omega] using this.1
      · rw [List.getElem?_append_right (by simp; omega)]
        simpa [show (i + 1) * 2 + 1 - 2 = i * 2 + 1 by omega] using this.2
def IsPairs (w : World) (B : Nat) (v : Value) (ps : List Pair) : Prop := Rd w B 2 v ps.length (pairCells ps)
/-- all of rows of bits, if each is right -/
def catFrom (l : List Bool) : List Pair → Option (List Bool)
  | [] => some l
  | p :: ps => if rightB p.1.data.toList p.2 then catFrom (l ++ B.slice p.1.data.toList 0 p.2.toNat) ps else none
/-- how many bits they have at most -/
def pairBits : List Pair → Nat
  | [] => 0
  | p :: ps => 8 * p.1.size + pairBits ps
def PairsOk (ps : List Pair) : Prop := ∀ p ∈ ps, -9223372036854775808 ≤ p.2 ∧ p.2 ≤ 9223372036854775807
theorem pairBits_drop (ps : List Pair) (k : Nat) (p : Pair) (h : ps[k]? = some p) : pairBits (ps.drop k) = 8 * p.1.size + pairBits (ps.drop (k + 1)) := by
  have hk : k < ps.length := by
    rcases Nat.lt_or_ge k ps.length with h' | h'
    · exact h'
    · rw [List.getElem?_eq_none h'] at h; cases h
  rw [List.drop_eq_getElem_cons hk]
  rw [List.getElem?_eq_getElem hk] at h
  injection h with h
  rw [h]; rfl
theorem catFrom_drop (l : List Bool) (ps : List Pair) (k : Nat) (p : Pair) (h : ps[k]? = some p) :
    catFrom l (ps.drop k) = if rightB p.1.data.toList p.2 then catFrom (l ++ B.slice p.1.data.toList 0 p.2.toNat) (ps.drop (k + 1)) else none := by
  have hk : k < ps.length := by
    rcases Nat.lt_or_ge k ps.length with h' | h'
    · exact h'
    · rw [List.getElem?_eq_none h'] at h; cases h
  rw [List.drop_eq_getElem_cons hk]
  rw [List.getElem?_eq_getElem hk] at h
  injection h with h
  rw [h]; rfl
theorem slice_len_right (s : ByteArray) (n : Int) (h : rightB s.data.toList n = true) : (B.slice s.data.toList 0 n.toNat).length ≤ 8 * s.size := by
  rw [B.length_slice]
  unfold rightB at h
  simp only [Bool.and_eq_true, decide_eq_true_eq] at h
  have : s.data.toList.length = s.size := by simp
  omega

set_option maxHeartbeats 400000 in
theorem cat1_any (w : World) (b a : Nat) (v : Value) (ps : List Pair) (h : Wr w b []) (hab : a < b) (hv : IsPairs w b v ps) (hp : PairsOk ps) (hbits : pairBits ps < 562949953421312)
    (c1 : w.heap[a]? = some (.cells #[v] 51 (0, 0))) :
    Calls Try.prog 35 #[.pointer (some ⟨b, 0, none⟩), .pointer (some ⟨a, 0, none⟩)] w (Laid w b (catFrom [] ps)) := by
  have q0 : w.cell? ⟨a, 0, none⟩ = some v := cell_of_heap c1 0
  have hv' := hv
  obtain ⟨hlc, A, cap, rfl, hcap, hmax, hmore⟩ := hv'
  clear hlc hmore
  have hbl := h.lt
  clear c1
  generalize hls : catFrom [] ps = ls at *
  have Hls := Lib.hid hls
  clear hls
  unfold maxLen at hmax
  go_enter Try.func35, Try.ntmps35
  go_wp2
  go_loopw [7] (fun i wr => ∃ k : Nat, k ≤ ps.length ∧ i = .int .i64 k ∧ Below b w wr ∧ ∃ l, Wr wr b l ∧ l.length + pairBits (ps.drop k) < 562949953421312 ∧ catFrom l (ps.drop k) = ls) (fun i _ => ps.length - (intOf i).toNat)
  case atStart => exact ⟨0, Nat.zero_le _, rfl, Below.refl _ _, [], h, by simpa using hbits, Hls.out⟩
  case round =>
    obtain ⟨k, hk, rfl, hB, l, hw, hlen, hcat⟩ := hrel
    by_cases hlt : k < ps.length
    · have hx : ps[k]? = some (ps[k]) := List.getElem?_eq_getElem hlt
      generalize ps[k] = p at hx
      obtain ⟨s, n⟩ := p
      obtain ⟨g, o, rfl, hg, hc⟩ := (hv.below hB (Nat.le_refl _)).addr (by omega)
      have hpc := pairCells_at ps k _ hx
      have r1 : wr.cell? ⟨g, o + k * 2, none⟩ = some (.string s) := hc _ _ hpc.1
      have r2 : wr.cell? ⟨g, o + k * 2 + 1, none⟩ = some (.int .i64 n) := hc _ _ hpc.2
      have q0r : wr.cell? ⟨a, 0, none⟩ = some (.slice (some ⟨g, o, none⟩) ps.length cap) := (hB.cell (p := ⟨a, 0, none⟩) hab).trans q0
      have hpd := pairBits_drop ps k _ hx
      have hcd := catFrom_drop l ps k _ hx
      have hpr := hp _ (List.mem_of_getElem? hx)
      simp only at hpd hcd hpr
      have hwa : Wr (wr.alloc (.cells #[.string s, .int .i64 n] 28)) b l := hw.above ((Below.refl _ _).alloc (Nat.le_refl _) _) (Below.refl _ _)
      have hb := bits_any (wr.alloc (.cells #[.string s, .int .i64 n] 28)) b l s n hwa (by omega) hpr.1 hpr.2
      have hBa : Below b w (wr.alloc (.cells #[.string s, .int .i64 n] 28)) := hB.alloc (by have := hB.size; omega) _
      have hsl := slice_len_right s n
      clear hc hpc hx hw hwa
      cases hr : rightB s.data.toList n with
      | false =>
        rw [hr] at hcd hb
        rw [hcat] at hcd
        have Hb := Lib.hid hb
        have Hcd := Lib.hid hcd
        clear hb hcd hcat hr hsl
        go_wp2_with (go_at_call 36; refine Hb.out.mono ?_; rintro e w' ⟨hB', rfl⟩)
        refine ⟨rfl, hBa.trans hB', ?_⟩
        rw [Hcd.out]; rfl
      | true =>
        have hsl := hsl hr
        rw [hr] at hcd hb
        rw [hcat, if_pos rfl] at hcd
        rw [if_pos rfl] at hb
        generalize B.slice s.data.toList 0 n.toNat = m at *
        have Hb := Lib.hid hb
        have Hcd := Lib.hid hcd
        have Hpd := Lib.hid hpd
        have hlen2 : (l ++ m).length + pairBits (ps.drop (k + 1)) < 562949953421312 := by rw [List.length_append]; omega
        clear hb hcd hcat hr hpd hlen
        go_wp2_with (go_at_call 36; refine Hb.out.mono ?_; rintro e w' ⟨hB', rfl, hW'⟩)
        go_roundw
        case rel => exact ⟨k + 1, by omega, by go_num, hBa.trans hB', l ++ m, hW', hlen2, Hcd.out.symm⟩
        case measure => simp [intOf]; omega
    · obtain rfl : k = ps.length := by omega
      rw [List.drop_of_length_le (Nat.le_refl _)] at hcat
      have Hcat := Lib.hid hcat
      clear hcat
      go_wp2
      go_end0
      refine ⟨hB, ?_⟩
      rw [← Hcat.out]
      exact ⟨rfl, hw⟩
theorem enters_cat1 : Enters Try.prog 35 := enters_of Try.func35 (by kernel_rfl) rfl

set_option maxHeartbeats 400000 in
theorem cat_any (w : World) (v : Value) (ps : List Pair) (hv : IsPairs w w.heap.size v ps) (hp : PairsOk ps) (hbits : pairBits ps < 562949953421312) :
    Calls Try.prog 17 #[v] w fun e w' => e = .returned (laidVal (catFrom [] ps)) ∧ Below w.heap.size w w' := by
  have hmf := hmf
  have hv' := hv
  obtain ⟨hlc, A, cap, rfl, hcap, hmax, hmore⟩ := hv'
  clear hlc hmore hcap hmax
  obtain ⟨W, hW⟩ : ∃ W, W = ((w.alloc (.cells #[.slice A ps.length cap] 51)).alloc (.cells #[.string ⟨#[]⟩, .int .i64 0] 28)) := ⟨_, rfl⟩
  have a0 : W.heap[w.heap.size]? = some (.cells #[.slice A ps.length cap] 51 (0, 0)) := by rw [hW]; exact heap_up _ (heap_alloc_new w _)
  have a3 : W.heap[w.heap.size + 1]? = some (.cells #[.string ⟨#[]⟩, .int .i64 0] 28 (0, 0)) := by rw [hW]; exact heap_new _ _ _ (by simp)
  have hWs : W.heap.size = w.heap.size + 2 := by rw [hW]; simp
  have hWB : Below w.heap.size w W := by rw [hW]; exact ((Below.refl _ _).alloc (Nat.le_refl _) _).alloc (by simp) _
  have HW := Lib.hid hW
  clear hW
  have C := Lib.hid (laid_any W 35 #[.pointer (some ⟨w.heap.size, 0, none⟩)] (catFrom [] ps) enters_cat1
    (fun W' b hB hb hw => cat1_any W' b w.heap.size _ ps hw (by omega) ((hv.below (hWB.trans (hB.mono (by omega))) (Nat.le_refl _)).mono (by omega)) hp hbits ((hB.block _ (by omega)).trans a0)))
  have A3 := Lib.hid a3
  clear a0 a3
  generalize catFrom [] ps = ls at *
  go_enter Try.func17, Try.ntmps17
  go_wp2_with fail
  rw [← HW.out]
  refine C.out.mono ?_
  rintro e w1 ⟨rfl, hB⟩
  have hb3 := (hB.block _ (by omega)).trans A3.out
  have q0 : w1.cell? ⟨w.heap.size + 1, 0, none⟩ = some (.string ⟨#[]⟩) := cell_of_heap hb3 0
  have q1 : w1.cell? ⟨w.heap.size + 1, 1, none⟩ = some (.int .i64 0) := cell_of_heap hb3 1
  have qf := frozen_of_heap hb3
  have hBw := hWB.trans (hB.mono (by omega))
  clear hb3 C HW A3
  cases ls with
  | none =>
    simp only [laidVal]
    go_wp2
    exact bodyPost_ret (v := .tuple #[noBits, .int .i64 1]) (by simp [results, Try.results17, go_sem, q0, q1, noBits]) rfl ⟨rfl, (hBw.setCell (p := ⟨w.heap.size + 1, 0, none⟩) (by simp) _).setCell (p := ⟨w.heap.size + 1, 1, none⟩) (by simp) _⟩
  | some l =>
    simp only [laidVal, bitsVal]
    go_wp2
    exact bodyPost_ret (v := .tuple #[bitsVal l, .int .i64 0]) (by simp [results, Try.results17, go_sem, q0, q1, bitsVal]) rfl ⟨rfl, (hBw.setCell (p := ⟨w.heap.size + 1, 0, none⟩) (by simp) _).setCell (p := ⟨w.heap.size + 1, 1, none⟩) (by simp) _⟩

end Go.Proofs.Ytpccdohhiojlkaa
