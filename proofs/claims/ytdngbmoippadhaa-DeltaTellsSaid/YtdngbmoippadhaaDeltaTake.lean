/- delta.Take: the walk. -/
import Derived.Test.YtdngbmoippadhaaDeltaDoor
import Derived.Test.YtdngbmoippadhaaDeltaParse
import Derived.Test.YtdngbmoippadhaaKit2
import Derived.StillTailTactics
namespace Go.Proofs.Ytdngbmoippadhaa
open Go.RowKit
set_option linter.unusedVariables false

/-- how it ends -/
def TakeEnds (w : World) (r : TakeR) (e : Ending) (w' : World) : Prop :=
  match r with
  | .ok (l, x) => ∃ v, e = .returned (.tuple #[v, .int .i64 (x : Nat), .int .i64 0]) ∧ OwnInts w' w.heap.size v (ints l) ∧ Below w.heap.size w w'
  | .error c => e = .returned (.tuple #[.slice none 0 0, .int .i64 0, .int .i64 c]) ∧ Below w.heap.size w w'
/-- what lives in a round -/
structure TakeSt (w wr : World) (s : ByteArray) (v : Value) (l : List Nat) (a : Nat) : Prop where
  bel : Below w.heap.size w wr
  size : w.heap.size + 4 ≤ wr.heap.size
  b0 : Boxed wr w.heap.size 22 v
  b1 : Boxed wr (w.heap.size + 1) 3 (.int .i64 0)
  b2 : Boxed wr (w.heap.size + 1 + 1) 28 (.int .i64 0)
  rd : Reads wr (w.heap.size + 1 + 1 + 1) s a
  own : OwnInts wr (w.heap.size + 4) v (ints l)
theorem ownsRow_only {k : Nat} {W W' : World} {base e size n : Nat} {v : Value} {xs : List Value} (h : W.ownsRow base e size v n xs) (hO : Only k W W') (hk : k < base) : W'.ownsRow base e size v n xs := by
  refine ⟨h.1, ?_⟩
  rcases h.2 with h0 | ⟨g, cap, cur, e1, e2, e3, e4⟩
  · exact .inl h0
  · exact .inr ⟨g, cap, cur, e1, e2, (hO.block g (lt_of_heap e3) (by omega)).trans e3, e4⟩
theorem TakeSt.only {w wr w' : World} {s : ByteArray} {v : Value} {l : List Nat} {a a' : Nat} (h : TakeSt w wr s v l a) (hO : Only (w.heap.size + 1 + 1 + 1) wr w') (hR : Reads w' (w.heap.size + 1 + 1 + 1) s a') : TakeSt w w' s v l a' :=
  have hs := h.size
  ⟨h.bel.trans (hO.below (by omega) (by omega)), by have := hO.size; omega, (hO.block _ (by omega) (by omega)).trans h.b0, (hO.block _ (by omega) (by omega)).trans h.b1, (hO.block _ (by omega) (by omega)).trans h.b2, hR, ownsRow_only h.own hO (by omega)⟩
theorem TakeSt.blocks {w wr w' : World} {s : ByteArray} {v : Value} {l : List Nat} {a : Nat} (h : TakeSt w wr s v l a) (hO : Only (w.heap.size + 1 + 1 + 1) wr w') :
    Below w.heap.size w w' ∧ w.heap.size + 4 ≤ w'.heap.size ∧ Boxed w' w.heap.size 22 v ∧ Boxed w' (w.heap.size + 1) 3 (.int .i64 0) ∧ Boxed w' (w.heap.size + 1 + 1) 28 (.int .i64 0) :=
  have hs := h.size
  ⟨h.bel.trans (hO.below (by omega) (by omega)), by have := hO.size; omega, (hO.block _ (by omega) (by omega)).trans h.b0, (hO.block _ (by omega) (by omega)).trans h.b1, (hO.block _ (by omega) (by omega)).trans h.b2⟩
/-- the world behind the closure -/
def doorW (w w' : World) (why : Int) : World := ((((w'.setCell ⟨w.heap.size, 0, none⟩ (.slice none 0 0)).setCell ⟨w.heap.size + 1, 0, none⟩ (.int .i64 0)).setCell ⟨w.heap.size + 1 + 1, 0, none⟩ (.int .i64 why)).alloc (.cells #[.int .i64 why] 52)).drew
theorem doorW_facts {w w' : World} {v : Value} {why : Int} (hB : Below w.heap.size w w') (hs : w.heap.size + 4 ≤ w'.heap.size) (b0 : Boxed w' w.heap.size 22 v) (b1 : Boxed w' (w.heap.size + 1) 3 (.int .i64 0)) (b2 : Boxed w' (w.heap.size + 1 + 1) 28 (.int .i64 0)) :
    Below w.heap.size w (doorW w w' why) ∧ (doorW w w' why).cell? ⟨w.heap.size, 0, none⟩ = some (.slice none 0 0) ∧ (doorW w w' why).cell? ⟨w.heap.size + 1, 0, none⟩ = some (.int .i64 0) ∧ (doorW w w' why).cell? ⟨w.heap.size + 1 + 1, 0, none⟩ = some (.int .i64 why) := by
  have s0 := heap_set_ (w := w') b0 0 (.slice none 0 0)
  have t0 := (Below.heap_setCell (w'.setCell ⟨w.heap.size, 0, none⟩ (.slice none 0 0)) ⟨w.heap.size + 1, 0, none⟩ (.int .i64 0) w.heap.size (by simp <;> omega)).trans s0
  have u0 := (Below.heap_setCell _ ⟨w.heap.size + 1 + 1, 0, none⟩ (.int .i64 why) w.heap.size (by simp <;> omega)).trans t0
  have v0 := heap_up (.cells #[.int .i64 why] 52) u0
  have s1 := (Below.heap_setCell w' ⟨w.heap.size, 0, none⟩ (.slice none 0 0) (w.heap.size + 1) (by simp <;> omega)).trans b1
  have t1 := heap_set_ (w := w'.setCell ⟨w.heap.size, 0, none⟩ (.slice none 0 0)) s1 0 (.int .i64 0)
  have u1 := (Below.heap_setCell _ ⟨w.heap.size + 1 + 1, 0, none⟩ (.int .i64 why) (w.heap.size + 1) (by simp <;> omega)).trans t1
  have v1 := heap_up (.cells #[.int .i64 why] 52) u1
  have s2 := (Below.heap_setCell w' ⟨w.heap.size, 0, none⟩ (.slice none 0 0) (w.heap.size + 1 + 1) (by simp <;> omega)).trans b2
  have t2 := (Below.heap_setCell (w'.setCell ⟨w.heap.size, 0, none⟩ (.slice none 0 0)) ⟨w.heap.size + 1, 0, none⟩ (.int .i64 0) (w.heap.size + 1 + 1) (by simp <;> omega)).trans s2
  have u2 := heap_set_ (w := (w'.setCell ⟨w.heap.size, 0, none⟩ (.slice none 0 0)).setCell ⟨w.heap.size + 1, 0, none⟩ (.int .i64 0)) t2 0 (.int .i64 why)
  have v2 := heap_up (.cells #[.int .i64 why] 52) u2
  refine ⟨?_, cell_of_heap v0 0, cell_of_heap v1 0, cell_of_heap v2 0⟩
  unfold doorW
  exact ((((hB.setCell (p := ⟨w.heap.size, 0, none⟩) (Nat.le_refl _) _).setCell (p := ⟨w.heap.size + 1, 0, none⟩) (by simp <;> omega) _).setCell (p := ⟨w.heap.size + 1 + 1, 0, none⟩) (by simp <;> omega) _).alloc (by simp; omega) _).drew

/-- the world at the end -/
def endW (w w' : World) (v : Value) (a : Nat) : World := (((w'.setCell ⟨w.heap.size, 0, none⟩ v).setCell ⟨w.heap.size + 1, 0, none⟩ (.int .i64 (a : Nat))).setCell ⟨w.heap.size + 1 + 1, 0, none⟩ (.int .i64 0)).drew
theorem endW_facts {w w' : World} {s : ByteArray} {v : Value} {l : List Nat} {a : Nat} (h : TakeSt w w' s v l a) :
    Below w.heap.size w (endW w w' v a) ∧ (endW w w' v a).cell? ⟨w.heap.size, 0, none⟩ = some v ∧ (endW w w' v a).cell? ⟨w.heap.size + 1, 0, none⟩ = some (.int .i64 (a : Nat)) ∧ (endW w w' v a).cell? ⟨w.heap.size + 1 + 1, 0, none⟩ = some (.int .i64 0) ∧ OwnInts (endW w w' v a) w.heap.size v (ints l) := by
  have hs := h.size
  have s0 := heap_set_ (w := w') h.b0 0 v
  have t0 := (Below.heap_setCell (w'.setCell ⟨w.heap.size, 0, none⟩ v) ⟨w.heap.size + 1, 0, none⟩ (.int .i64 (a : Nat)) w.heap.size (by simp)).trans s0
  have u0 := (Below.heap_setCell _ ⟨w.heap.size + 1 + 1, 0, none⟩ (.int .i64 0) w.heap.size (by simp <;> omega)).trans t0
  have s1 := (Below.heap_setCell w' ⟨w.heap.size, 0, none⟩ v (w.heap.size + 1) (by simp)).trans h.b1
  have t1 := heap_set_ (w := w'.setCell ⟨w.heap.size, 0, none⟩ v) s1 0 (.int .i64 (a : Nat))
  have u1 := (Below.heap_setCell _ ⟨w.heap.size + 1 + 1, 0, none⟩ (.int .i64 0) (w.heap.size + 1) (by simp)).trans t1
  have s2 := (Below.heap_setCell w' ⟨w.heap.size, 0, none⟩ v (w.heap.size + 1 + 1) (by simp <;> omega)).trans h.b2
  have t2 := (Below.heap_setCell (w'.setCell ⟨w.heap.size, 0, none⟩ v) ⟨w.heap.size + 1, 0, none⟩ (.int .i64 (a : Nat)) (w.heap.size + 1 + 1) (by simp)).trans s2
  have u2 := heap_set_ (w := (w'.setCell ⟨w.heap.size, 0, none⟩ v).setCell ⟨w.heap.size + 1, 0, none⟩ (.int .i64 (a : Nat))) t2 0 (.int .i64 0)
  refine ⟨?_, cell_of_heap u0 0, cell_of_heap u1 0, cell_of_heap u2 0, ?_⟩
  · unfold endW
    exact (((h.bel.setCell (p := ⟨w.heap.size, 0, none⟩) (Nat.le_refl _) _).setCell (p := ⟨w.heap.size + 1, 0, none⟩) (by simp) _).setCell (p := ⟨w.heap.size + 1 + 1, 0, none⟩) (by simp <;> omega) _).drew
  · refine ⟨h.own.1, ?_⟩
    rcases h.own.2 with h0 | ⟨g, cap, cur, e1, e2, e3, e4⟩
    · exact .inl h0
    · refine .inr ⟨g, cap, cur, e1, by omega, ?_, e4⟩
      unfold endW
      show (((w'.setCell _ _).setCell _ _).setCell _ _).heap[g]? = _
      rw [Below.heap_setCell _ _ _ _ (by simp <;> omega), Below.heap_setCell _ _ _ _ (by simp <;> omega), Below.heap_setCell _ _ _ _ (by simp <;> omega)]
      exact e3
theorem lengthR_ok {s : List UInt8} {F n a m b : Nat} (h : lengthR s F n a = .ok (m, b)) (hF : 8 * s.length < a + F) (h1 : 1 ≤ n) (h2 : n ≤ 20) : 1 ≤ m ∧ m ≤ 20 ∧ b ≤ 8 * s.length := by
  rw [lengthR_lenP s F n a hF] at h
  cases hl : lenP n (rest s a) with
  | error e => rw [hl] at h; cases h
  | ok q =>
    obtain ⟨m', r⟩ := q
    rw [hl] at h
    simp only [placed, Except.ok.injEq, Prod.mk.injEq] at h
    obtain ⟨rfl, rfl⟩ := h
    have := lenP_range _ _ _ _ h1 h2 hl
    exact ⟨this.1, this.2, by omega⟩
theorem ints_snoc (l : List Nat) (m : Nat) : ints (l ++ [m]) = ints l ++ [(m : Int)] := by simp [ints]

set_option maxRecDepth 100000 in
set_option maxHeartbeats 1600000 in
theorem take_any (w : World) (s : ByteArray) (at0 n : Nat) (hs : s.size ≤ 1099511627776) (hat : at0 ≤ 9223372036854775807) (hn : 2 ≤ n) (hn' : n ≤ 258) :
    Calls Try.prog 14 #[.string s, .int .i64 at0, .int .i64 n] w fun e w' => TakeEnds w (takeR s.data.toList at0 n) e w' := by
  have hmf := hmf
  have CM : Hid (∀ W, Calls Try.prog 20 #[.int .i64 (n : Nat)] W fun e w' => e = .returned (.bool true) ∧ W = w') := fun W => by
    have := many_any (n : Nat) W
    rw [show manyF (n : Nat) = true by simp [manyF]; omega] at this
    exact this
  have hl : s.data.toList.length = s.size := by simp
  have HL := Lib.hid hl
  obtain ⟨r, hr⟩ : ∃ r, takeR s.data.toList at0 n = r := ⟨_, rfl⟩
  rw [hr]
  unfold takeR at hr
  have HR := Lib.hid hr
  clear hr hl
  have hd : decide ((at0 : Int) < 0) = false := by simp
  obtain ⟨W0, hW0⟩ : ∃ W0, W0 = ((((w.alloc (.cells #[.slice none 0 0] 22)).alloc (.cells #[.int .i64 0] 3)).alloc (.cells #[.int .i64 0] 28)).alloc (.cells #[.string s, .int .i64 at0] 55)) := ⟨_, rfl⟩
  have S0 : TakeSt w W0 s (.slice none 0 0) [] at0 := by
    rw [hW0]
    exact ⟨((((Below.refl _ _).alloc (Nat.le_refl _) _).alloc (by simp) _).alloc (by simp; omega) _).alloc (by simp; omega) _, by simp, (((Boxed.new w _ _).alloc _).alloc _).alloc _, ((boxed_new _ _ _ _ (by simp)).alloc _).alloc _, (boxed_new _ _ _ _ (by simp)).alloc _, heap_new _ _ _ (by simp), OwnInts.nil _ _⟩
  have HS0 := Lib.hid S0
  have HW0 := Lib.hid hW0
  clear S0 hW0
  go_enter_defers Try.func14, Try.ntmps14
  go_wp2_with fail
  refine (CM.out _).mono ?_
  rintro e w1 ⟨rfl, rfl⟩
  go_wp2_with fail
  rw [← HW0.out]
  by_cases h1 : 8 * s.size < at0 + 5
  · have C := Lib.hid (number_no W0 (w.heap.size + 1 + 1 + 1) s at0 5 HS0.out.rd hs hat (by omega) (by omega))
    have hre : r = .error 2 := by rw [← HR.out, HL.out, if_pos h1]
    subst hre
    refine C.out.mono ?_
    rintro e w1 ⟨rfl, hB⟩
    have HB := Lib.hid (HS0.out.blocks (Only.of hB))
    clear hB C HR
    go_wp2_with fail
    refine leaves_cons (f := 27) (args := #[.pointer (some ⟨w.heap.size, 0, none⟩), .pointer (some ⟨w.heap.size + 1, 0, none⟩), .pointer (some ⟨w.heap.size + 1 + 1, 0, none⟩)]) (by simp) (by simp [go_sem]) ?_
    obtain ⟨g0, g1, g2, g3, g4⟩ := HB.out
    refine (door_odd w.heap.size (w.heap.size + 1) (w.heap.size + 1 + 1) _ _ _ 2 w1 g2.cell g3.cell g4.cell g2.frozen g3.frozen g4.frozen (by omega) (by omega) (by omega) (by omega) (by omega) (by omega)).mono ?_
    rintro e u' w'' ⟨rfl, rfl, hw⟩
    obtain ⟨k0, k1, k2, k3⟩ := doorW_facts (why := 2) g0 g1 g2 g3 g4
    have hw2 : w'' = doorW w w1 2 := hw
    rw [← hw2] at k0 k1 k2 k3
    clear hw hw2
    simp [Leaves, settle, results, Try.results14, go_sem, k1, k2, k3]
    exact ⟨rfl, k0⟩
  have hrr := HR.out
  rw [HL.out, if_neg h1] at hrr
  obtain ⟨v0, hv0⟩ : ∃ v, B.num (B.slice s.data.toList at0 5) = v := ⟨_, rfl⟩
  rw [hv0] at hrr
  have C := Lib.hid (number_is W0 (w.heap.size + 1 + 1 + 1) s at0 5 v0 HS0.out.rd hs (by omega) (by omega) hv0)
  clear hv0 HR
  by_cases h2 : v0 < 1 ∨ 20 < v0
  · have hre : r = .error 3 := by rw [← hrr, if_pos h2]
    subst hre
    clear hrr
    refine C.out.mono ?_
    rintro e w1 ⟨rfl, hO1, hR1⟩
    have HB := Lib.hid (HS0.out.blocks hO1)
    clear C hO1 hR1
    go_wp2_with fail
    refine (fits_no _ _ _ (by simp [mayF] <;> omega)).mono ?_
    rintro e w2 ⟨rfl, rfl⟩
    go_wp2_with fail
    refine leaves_cons (f := 27) (args := #[.pointer (some ⟨w.heap.size, 0, none⟩), .pointer (some ⟨w.heap.size + 1, 0, none⟩), .pointer (some ⟨w.heap.size + 1 + 1, 0, none⟩)]) (by simp) (by simp [go_sem]) ?_
    obtain ⟨g0, g1, g2, g3, g4⟩ := HB.out
    refine (door_odd w.heap.size (w.heap.size + 1) (w.heap.size + 1 + 1) _ _ _ 3 w1 g2.cell g3.cell g4.cell g2.frozen g3.frozen g4.frozen (by omega) (by omega) (by omega) (by omega) (by omega) (by omega)).mono ?_
    rintro e u' w'' ⟨rfl, rfl, hw⟩
    obtain ⟨k0, k1, k2, k3⟩ := doorW_facts (why := 3) g0 g1 g2 g3 g4
    have hw2 : w'' = doorW w w1 3 := hw
    rw [← hw2] at k0 k1 k2 k3
    clear hw hw2
    simp [Leaves, settle, results, Try.results14, go_sem, k1, k2, k3]
    exact ⟨rfl, k0⟩
  rw [if_neg h2] at hrr
  have HR := Lib.hid hrr
  clear hrr
  refine C.out.mono ?_
  rintro e w1 ⟨rfl, hO1, hR1⟩
  have HS1 := Lib.hid (HS0.out.only hO1 hR1)
  clear C hO1 hR1 HS0 HW0
  go_wp2_with fail
  refine (fits_ok _ _ _ (by simp [mayF]; omega)).mono ?_
  rintro e w2 ⟨rfl, rfl⟩
  go_wp2_with fail
  go_loopw [10, 28] (fun nv iv wr => ∃ (j m a : Nat) (l : List Nat) (v : Value), j ≤ n ∧ 1 ≤ m ∧ m ≤ 20 ∧ nv = .int .i64 m ∧ iv = .int .i64 j ∧ l.length = j ∧ a ≤ 8 * s.size ∧ preE l (takeN s.data.toList (n - j) m a) = r ∧ TakeSt w wr s v l a) (fun _ iv _ => n + 1 - (intOf iv).toNat)
  case atStart => exact ⟨0, v0, at0 + 5, [], _, by omega, by omega, by omega, rfl, rfl, rfl, by omega, by rw [preE_nil]; exact HR.out, HS1.out⟩
  case round =>
    obtain ⟨j, m, a, l, v, hj, hm1, hm2, rfl, rfl, hll, ha, hpr, hS⟩ := hrel
    have HS := Lib.hid hS
    have HLL := Lib.hid hll
    have HPR := Lib.hid hpr
    clear hS hll hpr HS1 HR
    by_cases hlt : j < n
    · have hpr := HPR.out
      rw [show n - j = (n - (j + 1)) + 1 by omega, takeN] at hpr
      have hok := fun m' b h => lengthR_ok (s := s.data.toList) (F := 8 * s.data.toList.length + 1) (n := m) (a := a) (m := m') (b := b) h (by omega) hm1 hm2
      have C := Lib.hid (length_any wr (w.heap.size + 1 + 1 + 1) s a m (8 * s.data.toList.length + 1) HS.out.rd hs hm1 hm2 (by omega) (by rw [HL.out]; omega))
      cases hlr : lengthR s.data.toList (8 * s.data.toList.length + 1) m a with
      | error c =>
        rw [hlr] at hpr C
        simp only [preE] at hpr
        subst hpr
        clear hlr hok HPR
        go_wp2_with fail
        refine C.out.mono ?_
        rintro e w2 hE
        obtain ⟨rfl, hO⟩ := hE
        have HB := Lib.hid (HS.out.blocks hO)
        clear hO C HS
        go_wp2_with fail
        refine leaves_cons (f := 27) (args := #[.pointer (some ⟨w.heap.size, 0, none⟩), .pointer (some ⟨w.heap.size + 1, 0, none⟩), .pointer (some ⟨w.heap.size + 1 + 1, 0, none⟩)]) (by simp) (by simp [go_sem]) ?_
        obtain ⟨g0, g1, g2, g3, g4⟩ := HB.out
        refine (door_odd w.heap.size (w.heap.size + 1) (w.heap.size + 1 + 1) _ _ _ c w2 g2.cell g3.cell g4.cell g2.frozen g3.frozen g4.frozen (by omega) (by omega) (by omega) (by omega) (by omega) (by omega)).mono ?_
        rintro e u' w'' ⟨rfl, rfl, hw⟩
        obtain ⟨k0, k1, k2, k3⟩ := doorW_facts (why := c) g0 g1 g2 g3 g4
        have hw2 : w'' = doorW w w2 c := hw
        rw [← hw2] at k0 k1 k2 k3
        clear hw hw2
        simp [Leaves, settle, results, Try.results14, go_sem, k1, k2, k3]
        exact ⟨rfl, k0⟩
      | ok p =>
        obtain ⟨m', b⟩ := p
        rw [hlr] at hpr C
        simp only [preE_preE] at hpr
        obtain ⟨hm1', hm2', hb⟩ := hok m' b hlr
        rw [HL.out] at hb
        have HPR2 := Lib.hid hpr
        clear hlr hok HPR hpr
        go_wp2_with fail
        refine C.out.mono ?_
        rintro e w2 hE
        obtain ⟨rfl, hO, hR⟩ := hE
        have HS2 := Lib.hid (HS.out.only hO hR)
        have hc0 := HS2.out.b0.cell
        have hf0 := HS2.out.b0.frozen
        have hz2 := HS2.out.size
        have hls : l.length + 1 ≤ 300 := by have := HLL.out; omega
        clear hO hR C HS
        go_wp2_with
          (first
           | (at_builtin
              refine wpList_append_ints rfl _ _ rfl (w.heap.size + 4) _ (ints l) rfl (HS2.out.own.alloc _) (w2.heap.size + 1) _ [(m' : Int)] rfl (IsInts.new w2 [(m' : Int)] _ _ _ rfl rfl rfl (by simp [maxLen])) (by rw [length_ints]; simp; omega) (by simp; omega) ?_
              intro q c w3 hown hg hat1
              obtain ⟨hv1, hv2, hr2, hk2, hb2, hb3⟩ := boxed_appended HS2.out.b0 (by decide) HS2.out.own (by omega) hown hg
              rw [← ints_snoc] at hown hr2
              have hs3 := HS2.out.b1
              have hs4 := HS2.out.b2
              have hs5 := HS2.out.rd
              have hs6 := HS2.out.bel
              have hc1 := hv1.cell
              have hf1 := hv1.frozen
              have L3 := hb3 w.heap.size (by omega) (by omega)
              have S3 : TakeSt w (w3.setCell ⟨w.heap.size, 0, none⟩ (.slice q ((ints l).length + [(m' : Int)].length) c)) s (.slice q ((ints l).length + [(m' : Int)].length) c) (l ++ [m']) b :=
                ⟨hs6.trans L3, by have := L3.size; simp at this ⊢; omega, hv2, (hb2 _ (by omega) (by omega)).trans hs3, (hb2 _ (by omega) (by omega)).trans hs4, (hb2 _ (by omega) (by omega)).trans hs5, hr2⟩
              have HS3 := Lib.hid S3
              clear hs3 hs4 hs5 hs6 hown hg hat1 hv1 hv2 hr2 hk2 hb2 hb3 L3 S3))
        go_roundw
        case rel => exact ⟨j + 1, m', b, l ++ [m'], _, by omega, hm1', hm2', rfl, by go_num, by rw [List.length_append, HLL.out]; rfl, hb, HPR2.out, HS3.out⟩
        case measure => simp [intOf]; omega
    · obtain rfl : j = n := by omega
      have hpr := HPR.out
      rw [Nat.sub_self, takeN] at hpr
      simp only [preE, List.append_nil] at hpr
      subst hpr
      obtain ⟨q, c, rfl⟩ := HS.out.own.shape
      have hc0 := HS.out.b0.cell
      have hf0 := HS.out.b0.frozen
      have hc1 := HS.out.b1.cell
      have hf1 := HS.out.b1.frozen
      have hc2 := HS.out.b2.cell
      have hf2 := HS.out.b2.frozen
      have hc3 : wr.cell? ⟨w.heap.size + 1 + 1 + 1, 1, none⟩ = some (.int .i64 (a : Nat)) := cell_of_heap HS.out.rd 1
      have hz := HS.out.size
      clear HPR
      go_wp2_with fail
      go_region
      go_wp2_with fail
      refine leaves_cons (f := 27) (args := #[.pointer (some ⟨w.heap.size, 0, none⟩), .pointer (some ⟨w.heap.size + 1, 0, none⟩), .pointer (some ⟨w.heap.size + 1 + 1, 0, none⟩)]) (by simp) (by simp [go_sem]) ?_
      refine (door_idle _ _ _ _).mono ?_
      rintro e u' w'' ⟨rfl, rfl, hw⟩
      obtain ⟨k0, k1, k2, k3, k4⟩ := endW_facts HS.out
      have hw2 : w'' = endW w wr (.slice q (ints l).length c) a := hw
      rw [← hw2] at k0 k1 k2 k3 k4
      clear hw hw2
      simp [Leaves, settle, results, Try.results14, go_sem, k1, k2, k3]
      exact ⟨_, rfl, k4, k0⟩
set_option maxRecDepth 100000 in
set_option maxHeartbeats 800000 in
/-- what is no place, or no count -/
theorem take_no (w : World) (s : ByteArray) (at0 n : Int) (h : at0 < 0 ∨ manyF n = false) :
    Calls Try.prog 14 #[.string s, .int .i64 at0, .int .i64 n] w fun e w' => TakeEnds w (.error 1) e w' := by
  have CM := Lib.hid (many_any n)
  have hbel : Below w.heap.size w (((w.alloc (.cells #[.slice none 0 0] 22)).alloc (.cells #[.int .i64 0] 3)).alloc (.cells #[.int .i64 1] 28)) := (((Below.refl _ _).alloc (Nat.le_refl _) _).alloc (by simp) _).alloc (by simp; omega) _
  by_cases hat : at0 < 0
  · have hd : decide (at0 < 0) = true := by simpa using hat
    clear h CM
    go_enter_defers Try.func14, Try.ntmps14
    go_wp2_with fail
    simp [bodyPostD, Leaves, results, Try.results14, go_sem]
    exact ⟨rfl, hbel⟩
  · have hd : decide (at0 < 0) = false := by simpa using hat
    have hm : manyF n = false := by
      rcases h with h | h
      · exact absurd h hat
      · exact h
    rw [hm] at CM
    clear h hm
    go_enter_defers Try.func14, Try.ntmps14
    go_wp2_with fail
    refine (CM.out _).mono ?_
    rintro e w1 ⟨rfl, rfl⟩
    go_wp2_with fail
    simp [bodyPostD, Leaves, results, Try.results14, go_sem]
    exact ⟨rfl, hbel⟩
end Go.Proofs.Ytdngbmoippadhaa
