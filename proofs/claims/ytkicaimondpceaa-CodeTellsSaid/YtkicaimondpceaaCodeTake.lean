/- Take of the program: the walk. -/
import Derived.Test.YtkicaimondpceaaCodeWords
import Derived.Test.YtkicaimondpceaaHeldIn
namespace Go.Proofs.Ytkicaimondpceaa
open Go.RowKit Go.Shelf
attribute [local go_sem] Oper.semAt_some
set_option linter.unusedVariables false

theorem results_cell3 {fn : Func} {p q r : Tmp} {ty uy zy : TypeId} (h : fn.results = #[.cell p ty, .cell q uy, .cell r zy]) (tmps : Array Value) (P : Program) (w : World) (a b c : Addr) (v u z : Value) (hp : tmps.getD p undef = .pointer (some a)) (hq : tmps.getD q undef = .pointer (some b)) (hr : tmps.getD r undef = .pointer (some c)) (hl : (loadVar ty a).run P w = .ok v w) (hm : (loadVar uy b).run P w = .ok u w) (hn : (loadVar zy c).run P w = .ok z w) : (results fn tmps).run P w = .ok (.tuple #[v, u, z]) w := by
  have hp' : tmps[p]?.getD undef = .pointer (some a) := by simpa using hp
  have hq' : tmps[q]?.getD undef = .pointer (some b) := by simpa using hq
  have hr' : tmps[r]?.getD undef = .pointer (some c) := by simpa using hr
  simp [results, h, hp', hq', hr', asAddr, hl, hm, hn]
/-- the three results -/
def resT : Except Int (Nat × Int) → Int × Int × Int
  | .ok (x, p) => (x, p, 0)
  | .error c => (0, 0, c)
theorem getV_nat (s : List UInt8) (a n : Int) : 0 ≤ getV s a n := by
  unfold getV
  split
  · omega
  · split <;> omega
theorem getV_lt (s : List UInt8) (a : Int) (n : Nat) (hn : n ≤ 20) : getV s a n < 1048576 := by
  unfold getV
  split
  · omega
  · split
    · omega
    · have := B.num_lt (B.slice s a.toNat (n : Int).toNat)
      rw [B.length_slice, Int.toNat_natCast] at this
      have h2 : (2 : Nat) ^ n ≤ 2 ^ 20 := Nat.pow_le_pow_right (by omega) hn
      have h3 : (2 : Nat) ^ 20 = 1048576 := by decide
      rw [Int.toNat_natCast]
      omega
theorem getE_zero (s : List UInt8) (a n : Int) (h : getE s a n = 0) : 0 ≤ n ∧ n ≤ 64 ∧ 0 ≤ a ∧ a ≤ 8 * (s.length : Int) - n := by
  unfold getE at h
  split at h
  · cases h
  · split at h
    · cases h
    · omega
theorem getE_cases (s : List UInt8) (a n : Int) : getE s a n = 0 ∨ getE s a n = 1 ∨ getE s a n = 2 := by
  unfold getE
  split
  · simp
  · split <;> simp
theorem takeGo_hit {l : List Nat} {u : List UInt8} {a : Int} {n : Nat} (h : ¬ missN l u a n) (ns : List Nat) : takeGo l u a (n :: ns) = takeGo l u a [n] := by
  rw [takeGo, takeGo]
  by_cases h1 : getE u a n ≠ 0
  · rw [if_pos h1, if_pos h1]
  · rw [if_neg h1, if_neg h1]
    by_cases h2 : 2 * nextV l (n - 1) ≤ (getV u a n).toNat ∧ (getV u a n).toNat < 2 * nextV l (n - 1) + l.count n
    · rw [if_pos h2, if_pos h2]
    · exact absurd ⟨by simpa using h1, h2⟩ h
theorem takeF_prefix {l : List Nat} {u : List UInt8} {a : Int} {ns : List Nat} {n : Nat} (hp : ns ++ [n] <+: levelNs l 20) (hm : ∀ m ∈ ns, missN l u a m) (h : ¬ missN l u a n) : takeF l u a = takeGo l u a [n] := by
  obtain ⟨r, hr⟩ := hp
  unfold takeF
  rw [← hr, List.append_assoc, takeGo_miss hm]
  exact takeGo_hit h r
theorem takeF_none {l : List Nat} {u : List UInt8} {a : Int} (hm : ∀ m ∈ levelNs l 20, missN l u a m) : takeF l u a = .error 3 := by
  have := takeGo_miss hm []
  rw [List.append_nil] at this
  exact this

/-- the boxes of a call of Take -/
structure Bx5 (w W : World) (s : ByteArray) (a : Int) (x y z : Value) : Prop where
  b0 : Boxed W w.heap.size 9 (.string s)
  b1 : Boxed W (w.heap.size + 1) 3 (.int .i64 a)
  b2 : Boxed W (w.heap.size + 1 + 1) 3 x
  b3 : Boxed W (w.heap.size + 1 + 1 + 1) 3 y
  b4 : Boxed W (w.heap.size + 1 + 1 + 1 + 1) 28 z
  bel : Below w.heap.size w W
theorem Bx5.start (w : World) (s : ByteArray) (a : Int) :
    Bx5 w (((((w.alloc (.cells #[.string s] 9)).alloc (.cells #[.int .i64 a] 3)).alloc (.cells #[.int .i64 0] 3)).alloc (.cells #[.int .i64 0] 3)).alloc (.cells #[.int .i64 0] 28)) s a (.int .i64 0) (.int .i64 0) (.int .i64 0) :=
  ⟨((((Boxed.new w _ _).alloc _).alloc _).alloc _).alloc _, (((boxed_new _ _ _ _ (by simp)).alloc _).alloc _).alloc _, ((boxed_new _ _ _ _ (by simp)).alloc _).alloc _, (boxed_new _ _ _ _ (by simp)).alloc _, boxed_new _ _ _ _ (by simp),
    (((((Below.refl _ w).alloc (Nat.le_refl _) _).alloc (by simp) _).alloc (by simp; omega) _).alloc (by simp; omega) _).alloc (by simp; omega) _⟩
theorem Bx5.step {w W W' : World} {s : ByteArray} {a : Int} {x y z : Value} (h : Bx5 w W s a x y z) (hB : Below W.heap.size W W') : Bx5 w W' s a x y z :=
  ⟨(hB.block _ h.b0.lt).trans h.b0, (hB.block _ h.b1.lt).trans h.b1, (hB.block _ h.b2.lt).trans h.b2, (hB.block _ h.b3.lt).trans h.b3, (hB.block _ h.b4.lt).trans h.b4, h.bel.trans (hB.mono h.bel.size)⟩
theorem Bx5.set {w W : World} {s : ByteArray} {a : Int} {x y z : Value} (h : Bx5 w W s a x y z) (x' y' z' : Value) :
    Bx5 w (((W.setCell ⟨w.heap.size + 1 + 1, 0, none⟩ x').setCell ⟨w.heap.size + 1 + 1 + 1, 0, none⟩ y').setCell ⟨w.heap.size + 1 + 1 + 1 + 1, 0, none⟩ z') s a x' y' z' :=
  ⟨((h.b0.other (by omega) _).other (by omega) _).other (by omega) _, ((h.b1.other (by omega) _).other (by omega) _).other (by omega) _,
    ((Boxed.set _ h.b2).other (by omega) _).other (by omega) _, (Boxed.set _ (h.b3.other (by omega) _)).other (by omega) _, Boxed.set _ ((h.b4.other (by omega) _).other (by omega) _),
    ((h.bel.setCell (p := ⟨w.heap.size + 1 + 1, 0, none⟩) (by simp; omega) _).setCell (p := ⟨w.heap.size + 1 + 1 + 1, 0, none⟩) (by simp; omega) _).setCell (p := ⟨w.heap.size + 1 + 1 + 1 + 1, 0, none⟩) (by simp; omega) _⟩
theorem Bx5.own {β : Type} {w : World} (B : Nat) (hB : w.heap.size ≤ B) (s : ByteArray) (a : Int) (f : β → Value × Value × Value) : OwnFrom B (fun (p : β) W => Bx5 w W s a (f p).1 (f p).2.1 (f p).2.2) := fun p W W' row h hg hr =>
  ⟨boxed_own _ _ (fun _ : β => _) p W W' row h.b0 hg (fun r e => (hr r e).2), boxed_own _ _ (fun _ : β => _) p W W' row h.b1 hg (fun r e => (hr r e).2), boxed_own _ _ (fun _ : β => _) p W W' row h.b2 hg (fun r e => (hr r e).2),
    boxed_own _ _ (fun _ : β => _) p W W' row h.b3 hg (fun r e => (hr r e).2), boxed_own _ _ (fun _ : β => _) p W W' row h.b4 hg (fun r e => (hr r e).2), ownFrom_below (β := β) (w₀ := w) (Nat.le_refl _) hB p W W' row h.bel hg hr⟩

set_option maxRecDepth 100000 in
set_option maxHeartbeats 1600000 in
theorem take_er (w : World) (v : Value) (l : List Int) (s : ByteArray) (a : Int) (hv : IsInts w w.heap.size v l) (hl : l.length ≤ 1000000) (hc : checkF l ≠ 0) :
    Calls Try.prog 20 #[v, .string s, .int .i64 a] w fun e w' => e = .returned (.tuple #[.int .i64 0, .int .i64 0, .int .i64 (checkF l)]) ∧ Below w.heap.size w w' := by
  have CC : Hid (∀ W, IsInts W W.heap.size v l → Calls Try.prog 15 #[v] W fun e w' => e = .returned (.int .i64 (checkF l)) ∧ Below W.heap.size W w') := fun W h => check_any W _ _ h hl
  obtain ⟨A, ca, rfl, hc1, hc2⟩ := hv.shape
  obtain ⟨N, hN⟩ : ∃ N, l.length = N := ⟨_, rfl⟩
  rw [hN] at hv hc1 CC ⊢
  have Hv := Lib.hid hv
  generalize checkF l = z at *
  have hz : (z != 0) = true := by rw [bne_iff_ne]; exact hc
  clear hv hc hN hl
  obtain ⟨D, hD⟩ : ∃ D : Nat, 8 ≤ D := ⟨8, by omega⟩
  have h1D : 1 ≤ D := by omega
  refine (callsIn_wide (n := D)).1 ?_
  refine callsIn_of_wp_marks Try.func20 rfl trivial ?_ rfl
  simp only [Try.ntmps20, List.size_toArray, List.length_cons, List.length_nil, Nat.reduceAdd, Nat.reduceSub, Array.replicate_succ, Array.replicate_zero, List.push_toArray, List.append_toArray, List.nil_append, List.cons_append]
  have hb0 := Bx5.start w s a
  gi_wp2_with fail
  generalize ((((w.alloc (.cells #[.string s] 9)).alloc (.cells #[.int .i64 a] 3)).alloc (.cells #[.int .i64 0] 3)).alloc (.cells #[.int .i64 0] 3)).alloc (.cells #[.int .i64 0] 28) = W0 at *
  refine ⟨trivial, (callsIn_wide.2 (CC.out W0 ((Hv.out.below hb0.bel (Nat.le_refl _)).mono hb0.bel.size))).mono ?_⟩
  rintro e w1 ⟨rfl, hB1⟩
  have hb := hb0.step hB1
  have Hb := Lib.hid hb
  have c2 := hb.b2.cell
  have c3 := hb.b3.cell
  have c4 := hb.b4.cell
  have f2 := hb.b2.frozen
  have f3 := hb.b3.frozen
  have f4 := hb.b4.frozen
  have l2 := hb.b2.lt
  have l3 := hb.b3.lt
  have l4 := hb.b4.lt
  clear hb hb0 hB1 CC
  gi_wp2_with fail
  have hs := Hb.out.set (.int .i64 0) (.int .i64 0) (.int .i64 z)
  exact ⟨_, results_cell3 rfl _ _ _ _ _ _ _ _ _ rfl rfl rfl (loadVar_int _ _ _ hs.b2.cell) (loadVar_int _ _ _ hs.b3.cell) (loadVar_errno _ _ _ hs.b4.cell), rfl, hs.bel⟩

/-- what Take comes to -/
def takeV (r : Except Int (Nat × Int)) : Value × Value × Value := (.int .i64 ((resT r).1), .int .i64 ((resT r).2.1), .int .i64 ((resT r).2.2))

set_option maxRecDepth 100000 in
set_option maxHeartbeats 6000000 in
theorem take_any (w : World) (v : Value) (l : List Nat) (s : ByteArray) (a : Int) (hv : IsInts w w.heap.size v (ints l)) (hl : Code l) (hs : s.size ≤ 281474976710656) :
    Calls Try.prog 20 #[v, .string s, .int .i64 a] w fun e w' => e = .returned (.tuple #[(takeV (takeF l s.data.toList a)).1, (takeV (takeF l s.data.toList a)).2.1, (takeV (takeF l s.data.toList a)).2.2]) ∧ Below w.heap.size w w' := by
  obtain ⟨A, ca, rfl, hc1, hc2⟩ := hv.shape
  have hli := length_ints l
  obtain ⟨N, hN⟩ : ∃ N, l.length = N := ⟨_, rfl⟩
  rw [hli, hN] at hc1 hv ⊢
  have hN258 : N ≤ 258 := by rw [← hN]; exact hl.most
  have CC : Hid (∀ W, IsInts W W.heap.size (.slice A N ca) (ints l) → Calls Try.prog 15 #[.slice A N ca] W fun e w' => e = .returned (.int .i64 0) ∧ Below W.heap.size W w') := fun W h => by
    have := check_any W _ _ h (by rw [hli]; omega)
    rw [hl.ok] at this
    exact this
  have hsl : s.data.toList.length = s.size := by simp
  have CG : Hid (∀ n W, Calls Try.prog 32 #[.string s, .int .i64 a, .int .i64 n] W fun e w' => e = .returned (.tuple #[.int .u64 (getV s.data.toList a n), .int .i64 (getE s.data.toList a n)]) ∧ W = w') := fun n W => get_any s a n W hs
  generalize s.data.toList = u at *
  have Hsl := Lib.hid hsl
  have Hv := Lib.hid hv
  have HN := Lib.hid hN
  have Hlc := Lib.hid hl
  obtain ⟨D, hD⟩ : ∃ D : Nat, 8 ≤ D := ⟨8, by omega⟩
  have h1D : 1 ≤ D := by omega
  clear hv hN hl hli hsl
  refine (callsIn_wide (n := D)).1 ?_
  refine callsIn_of_wp_marks Try.func20 rfl trivial ?_ rfl
  simp only [Try.ntmps20, List.size_toArray, List.length_cons, List.length_nil, Nat.reduceAdd, Nat.reduceSub, Array.replicate_succ, Array.replicate_zero, List.push_toArray, List.append_toArray, List.nil_append, List.cons_append]
  have hb0 := Bx5.start w s a
  gi_wp2_with fail
  generalize ((((w.alloc (.cells #[.string s] 9)).alloc (.cells #[.int .i64 a] 3)).alloc (.cells #[.int .i64 0] 3)).alloc (.cells #[.int .i64 0] 3)).alloc (.cells #[.int .i64 0] 28) = W0 at *
  refine ⟨trivial, (callsIn_wide.2 (CC.out W0 ((Hv.out.below hb0.bel (Nat.le_refl _)).mono hb0.bel.size))).mono ?_⟩
  rintro e w1 ⟨rfl, hB1⟩
  have Hb := Lib.hid (hb0.step hB1)
  clear hb0 hB1 CC
  gi_wp2_with fail
  refine ⟨trivial, (callsIn_wide.2 (levels_any _ A N ca)).mono ?_⟩
  rintro e w' ⟨rfl, rfl⟩
  gi_wp2_with fail
  have hal : Below w1.heap.size w1 (w1.alloc (.cells #[.slice A N ca] 22)) := (Below.refl _ _).alloc (Nat.le_refl _) _
  have hbx := Hb.out.step hal
  have hW3 : (w1.alloc (.cells #[.slice A N ca] 22)).heap[w1.heap.size]? = some (.cells #[.slice A N ca] 22 (0, 0)) := heap_new _ _ _ rfl
  have hWs : (w1.alloc (.cells #[.slice A N ca] 22)).heap.size = w1.heap.size + 1 := by simp
  have hz4 := Hb.out.b4.lt
  obtain ⟨bl, hbl⟩ : ∃ bl, w1.heap.size = bl := ⟨_, rfl⟩
  rw [hbl] at hW3 hWs hz4 ⊢
  generalize w1.alloc (.cells #[.slice A N ca] 22) = W1 at *
  have hvW := Hv.out.below hbx.bel (Nat.le_refl _)
  clear hal Hb hbl
  refine range_ok (n := D) h1D (gf := 41) (lb := #[.pointer (some ⟨bl, 0, none⟩)]) rfl enters_levels (encs := levE) (fun _ => rfl) (LevOk l W1.heap.size) (fun _ => False)
    (levels_seq (D - 1) (by omega) bl w.heap.size l Hlc.out (fun _ => False) (.slice A N ca) W1 hvW hbx.bel.size ((cell_of_heap hW3 0).trans rfl) (fun k hk => hk.elim)) (Below.refl _ _)
    (fun pre W => Bx5 w W s a (.int .i64 0) (.int .i64 0) (.int .i64 0) ∧ ∀ n ∈ pre.map (·.1), missN l u a n)
    (fun c pre W => ∃ n ns, Bx5 w W s a (takeV (takeGo l u a [n])).1 (takeV (takeGo l u a [n])).2.1 (takeV (takeGo l u a [n])).2.2 ∧ c = Code.ret ∧ pre.map (·.1) = ns ++ [n] ∧ (∀ m ∈ ns, missN l u a m) ∧ ¬ missN l u a n)
    (OwnFrom.and (Bx5.own _ hbx.bel.size s a (fun _ : List Lev => (.int .i64 0, .int .i64 0, .int .i64 0))) (ownFrom_pure _ (fun pre : List Lev => ∀ n ∈ pre.map (·.1), missN l u a n)))
    (fun c pre W W' row h hg hr => by
      obtain ⟨n, ns, h1, h2⟩ := h
      exact ⟨n, ns, Bx5.own _ hbx.bel.size s a (fun _ : Unit => takeV (takeGo l u a [n])) () W W' row h1 hg hr, h2⟩)
    ⟨hbx, fun n hn => by simp at hn⟩
    (fun x a' W => ∃ lb, W1.heap.size ≤ lb ∧ a' = { tmps := #[.slice A N ca, .string s, .int .i64 a, undef, .pointer (some ⟨w.heap.size, 0, none⟩), .pointer (some ⟨w.heap.size + 1, 0, none⟩), .pointer (some ⟨w.heap.size + 1 + 1, 0, none⟩), .pointer (some ⟨w.heap.size + 1 + 1 + 1, 0, none⟩), .pointer (some ⟨w.heap.size + 1 + 1 + 1 + 1, 0, none⟩), .int .i64 0, .pointer (some ⟨lb, 0, none⟩), undef, undef, .slice A N ca, .int .i64 0, .int .i64 0, .bool false, undef, .slice A N ca, .func (.func 41) #[] #[.pointer (some ⟨bl, 0, none⟩)], .agg #[.int .i64 (x.1 : Nat), .int .u64 (x.2.1 : Nat), x.2.2], undef, undef, undef, undef, undef, undef, undef, undef, undef, undef, undef, undef, undef, undef, undef, undef, undef, undef, undef, undef, undef, undef, undef, undef, undef, undef, undef, undef, undef, undef], defers := [] } ∧
      W.heap[lb]? = some (.cells #[.int .i64 (x.1 : Nat), .int .u64 (x.2.1 : Nat), x.2.2] 57 (0, 0)) ∧ LevOk l W1.heap.size x W)
    (fun x a' s W W' row h hgr hr => by
      obtain ⟨lb, h0, h2, h3, h4, h5, h6, h7⟩ := h
      exact ⟨lb, h0, h2, cells_own lb _ (fun _ : Unit => _) () W W' row h3 hgr (fun r e => (hr r e).2), h4, h5, isInts_keep h6 hgr (fun r e => (hr r e).2), h7⟩)
    ?assign ?body ?done ?stop
  case assign =>
    intro y pre x W K hi hok hlt hK
    obtain ⟨n, q, v⟩ := x
    obtain ⟨hk1, hk2, hk3, hk4⟩ : n ∈ levelNs l 20 ∧ q = 2 * nextV l (n - 1) ∧ IsInts W W.heap.size v (ints (whose l n)) ∧ ∀ g o m c, v = .slice (some ⟨g, o, none⟩) m c → W1.heap.size ≤ g := hok
    obtain ⟨sq, sc, rfl, hsc, _⟩ := hk3.shape
    have Hok : Hid (LevOk l W1.heap.size (n, q, .slice sq (ints (whose l n)).length sc) W) := ⟨hk1, hk2, hk3, hk4⟩
    have HK := Lib.hid hK
    have Hi := Lib.hid hi
    clear hK hk1 hk2 hk3 hk4 hi hbx hvW hW3
    simp only [levE]
    gi_wp2_with fail
    have hBa : Below W.heap.size W (W.alloc (.cells #[.int .i64 (n : Nat), .int .u64 (q : Nat), .slice sq (ints (whose l n)).length sc] 57)) := (Below.refl _ W).alloc (Nat.le_refl _) _
    exact HK.out _ _ ((KeepsOthers.alloc W _).from _) ((KeepC.refl _ _).below hBa) ⟨Hi.out.1.step hBa, Hi.out.2⟩
      ⟨W.heap.size, by omega, rfl, heap_new _ _ _ rfl, Hok.out.1, Hok.out.2.1, isInts_keep Hok.out.2.2.1 (below_grown hBa) (fun r e => by cases e), Hok.out.2.2.2⟩
  case body =>
    rintro y pre x a' W ⟨hbox, hmiss⟩ ⟨lb, hlb, rfl, hlv, hok⟩ hlt hlen
    have hbs0 := hbx.bel.size
    obtain ⟨n, q, v⟩ := x
    have Hlb := Lib.hid hlb
    have Hws := Lib.hid hWs
    have Hz4 := Lib.hid hz4
    have n2 : ¬ lb = w.heap.size + 1 + 1 := by omega
    have n3 : ¬ lb = w.heap.size + 1 + 1 + 1 := by omega
    have n4 : ¬ lb = w.heap.size + 1 + 1 + 1 + 1 := by omega
    have m2 : ¬ w.heap.size + 1 + 1 = lb := by omega
    have m3 : ¬ w.heap.size + 1 + 1 + 1 = lb := by omega
    have m4 : ¬ w.heap.size + 1 + 1 + 1 + 1 = lb := by omega
    obtain ⟨hk1, hk2, hk3, hk4⟩ : n ∈ levelNs l 20 ∧ q = 2 * nextV l (n - 1) ∧ IsInts W W.heap.size v (ints (whose l n)) ∧ ∀ g o m c, v = .slice (some ⟨g, o, none⟩) m c → W1.heap.size ≤ g := hok
    have hn20 := (levelNs_mem l 20 n).1 hk1
    have hqb : q ≤ 1048576 := by
      have h1 := nextV_le l Hlc.out.fits Hlc.out.room (n - 1) (by omega)
      have h2 : 2 ^ (n - 1) ≤ 2 ^ 19 := Nat.pow_le_pow_right (by omega) (by omega)
      have h3 : (2 : Nat) ^ 19 = 524288 := by decide
      omega
    obtain ⟨sq, sc, rfl, hsc, _⟩ := hk3.shape
    have hlw := length_whose l n
    have hwle := length_whose_le l n
    rw [length_ints] at hk3 hlv hsc ⊢
    rw [HN.out] at hwle
    obtain ⟨C, hC⟩ : ∃ C, (whose l n).length = C := ⟨_, rfl⟩
    rw [hC] at hk3 hlv hlw hsc hwle ⊢
    have HC := Lib.hid hC
    have Hk3 := Lib.hid hk3
    have Hk4 := Lib.hid hk4
    have Hq := Lib.hid hk2
    have Hlw := Lib.hid hlw
    have Hbox := Lib.hid hbox
    have Hmiss := Lib.hid hmiss
    have hd : 1 ≤ D - 1 - 1 := by omega
    have k0 := (cell_of_heap hlv 0).trans rfl
    have k1 := (cell_of_heap hlv 1).trans rfl
    have k2 := (cell_of_heap hlv 2).trans rfl
    have c0 := hbox.b0.cell
    have c1 := hbox.b1.cell
    have c2 := hbox.b2.cell
    have c3 := hbox.b3.cell
    have c4 := hbox.b4.cell
    have f2 := hbox.b2.frozen
    have f3 := hbox.b3.frozen
    have f4 := hbox.b4.frozen
    have l2 := hbox.b2.lt
    have l3 := hbox.b3.lt
    have l4 := hbox.b4.lt
    have CG1 := Lib.hid (CG.out n)
    have hec := getE_cases u a n
    have hez := getE_zero u a n
    have hvn := getV_nat u a n
    have hvl := getV_lt u a n hn20.2.1
    have hgo : takeGo l u a [n] = if getE u a n ≠ 0 then .error (getE u a n)
      else if 2 * nextV l (n - 1) ≤ (getV u a n).toNat ∧ (getV u a n).toNat < 2 * nextV l (n - 1) + l.count n then .ok ((whose l n)[(getV u a n).toNat - 2 * nextV l (n - 1)]?.getD 0, a + n)
      else .error 3 := rfl
    have hmn : missN l u a n ↔ getE u a n = 0 ∧ ¬ (2 * nextV l (n - 1) ≤ (getV u a n).toNat ∧ (getV u a n).toNat < 2 * nextV l (n - 1) + l.count n) := Iff.rfl
    rw [← hk2, ← hlw] at hgo hmn
    generalize getE u a n = E at *
    obtain ⟨V, hV⟩ : ∃ V : Nat, getV u a n = (V : Int) := ⟨(getV u a n).toNat, by omega⟩
    rw [hV, Int.toNat_natCast] at hgo hmn
    rw [hV] at CG1 hvl
    have hvl2 : V < 1048576 := by omega
    have Hgo := Lib.hid hgo
    have Hmn := Lib.hid hmn
    have Hez := Lib.hid hez
    have Hec := Lib.hid hec
    clear hlv hbox hmiss hk1 hk2 hk3 hk4 hC hlw hW3 hvW hbx hlen hec hez hvn hvl hgo hmn hV hWs hz4 hbs0 hlb
    gi_wp2_with fail
    refine ⟨trivial, (CallsIn.inRound y (callsIn_wide.2 (CG1.out W))).mono ?_⟩
    rintro e w_ ⟨rfl, rfl⟩
    have hko : ∀ x y z : Value, KeepsOthers W (((W.setCell ⟨w.heap.size + 1 + 1, 0, none⟩ x).setCell ⟨w.heap.size + 1 + 1 + 1, 0, none⟩ y).setCell ⟨w.heap.size + 1 + 1 + 1 + 1, 0, none⟩ z) := fun x y z => ((KeepsOthers.setCell W _ _).trans (KeepsOthers.setCell _ _ _)).trans (KeepsOthers.setCell _ _ _)
    have Hko := Lib.hid hko
    clear hko
    by_cases hE : E = 0
    · subst hE
      by_cases hhit : q ≤ V ∧ V < q + C
      · have hmi : Hid (¬ missN l u a n) := fun h => (Hmn.out.1 h).2 hhit
        obtain ⟨d, hd2⟩ : ∃ d, V - q = d := ⟨_, rfl⟩
        have hdC : d < C := by omega
        obtain ⟨g2, o2, rfl, hg2, hx⟩ := Hk3.out.at d (by rw [length_ints, HC.out]; exact hdC)
        obtain ⟨s2, hs2⟩ : ∃ s, (whose l n)[d]? = some s := ⟨_, List.getElem?_eq_getElem (by rw [HC.out]; exact hdC)⟩
        have hxe : (ints (whose l n))[d]?.getD 0 = (s2 : Int) := by simp [ints, hs2]
        rw [hxe] at hx
        have hgoE : Hid (takeGo l u a [n] = .ok (s2, a + n)) := by
          show _ = _
          rw [Hgo.out, if_neg (by simp), if_pos hhit, hd2, hs2]
          rfl
        have hwr : IntKind.u64.wrap ((V : Int) - (q : Int)) = (d : Int) := by rw [IntKind.wrap_u64]; omega
        have hdi : (d : Int) < (C : Int) := by omega
        have hdi0 : (0 : Int) ≤ (d : Int) := by omega
        have hza := Hez.out rfl
        have hsb := Hsl.out
        have hwa : IntKind.i64.wrap (a + (n : Int)) = a + (n : Int) := IntWalk.i64_in _ (by omega)
        have hmx : Try.prog.follows .mixedOrders = true := by kernel_rfl
        have hg2l := Hk4.out g2 o2 _ _ rfl
        have hws := Hws.out
        have hz4 := Hz4.out
        have p2 : ¬ g2 = w.heap.size + 1 + 1 := by omega
        have p3 : ¬ g2 = w.heap.size + 1 + 1 + 1 := by omega
        have p4 : ¬ g2 = w.heap.size + 1 + 1 + 1 + 1 := by omega
        have q2 : ¬ w.heap.size + 1 + 1 = g2 := by omega
        have q3 : ¬ w.heap.size + 1 + 1 + 1 = g2 := by omega
        have q4 : ¬ w.heap.size + 1 + 1 + 1 + 1 = g2 := by omega
        clear hg2l hws hz4
        clear hhit hd2 hs2 hxe hza hsb hdC
        gi_wp2_with fail
        -- HELD
        refine wpIn_region_held (S := (fun w' => w'.cell? ⟨lb, 0, none⟩ = some (.int .i64 (n : Nat)) ∧ w'.cell? ⟨lb, 2, none⟩ = some (.slice (some ⟨g2, o2, none⟩) C sc) ∧ w'.cell? ⟨w.heap.size + 1, 0, none⟩ = some (.int .i64 a) ∧ w'.cell? ⟨g2, o2 + d, none⟩ = some (.int .i64 (s2 : Int)))) (by kernel_rfl) (by kernel_rfl) (fun hHeld => ?_) ?_
        rotate_left
        · (refine ⟨?_, ?_, ?_, ?_⟩ <;> (go_simp; try assumption))
        refine held_yes (v := ?_) 0 (by simp only [List.getElem?_toArray, List.getElem?_cons_zero]; rfl) (by kernel_rfl) (fun _ _ _ h => h) (by rfl) (by assumption) ?_ ?_
        rotate_left
        · (intro w hSw; (try dsimp only at hSw); go_simp; try with_reducible rfl)
        try simp only [Act.put, List.setIfInBounds_toArray, List.set_cons_zero, List.set_cons_succ]
        refine held_yes (v := ?_) 1 (by simp only [List.getElem?_toArray, List.getElem?_cons_succ, List.getElem?_cons_zero]; rfl) (by kernel_rfl) (fun _ _ _ h => h) (by rfl) (by assumption) ?_ ?_
        rotate_left
        · (intro w hSw; (try dsimp only at hSw); go_simp; try with_reducible rfl)
        try simp only [Act.put, List.setIfInBounds_toArray, List.set_cons_zero, List.set_cons_succ]
        refine held_yes (v := ?_) 2 (by simp only [List.getElem?_toArray, List.getElem?_cons_succ, List.getElem?_cons_zero]; rfl) (by kernel_rfl) (fun _ _ _ h => h) (by rfl) (by assumption) ?_ ?_
        rotate_left
        · (intro w hSw; (try dsimp only at hSw); go_simp; try with_reducible rfl)
        try simp only [Act.put, List.setIfInBounds_toArray, List.set_cons_zero, List.set_cons_succ]
        refine held_yes (v := ?_) 3 (by simp only [List.getElem?_toArray, List.getElem?_cons_succ, List.getElem?_cons_zero]; rfl) (by kernel_rfl) (fun _ _ _ h => h) (by rfl) (by assumption) ?_ ?_
        rotate_left
        · (intro w hSw; (try dsimp only at hSw); go_simp; try with_reducible rfl)
        try simp only [Act.put, List.setIfInBounds_toArray, List.set_cons_zero, List.set_cons_succ]
        refine held_yes (v := ?_) 4 (by simp only [List.getElem?_toArray, List.getElem?_cons_succ, List.getElem?_cons_zero]; rfl) (by kernel_rfl) (fun _ _ _ h => h) (by rfl) (by assumption) ?_ ?_
        rotate_left
        · (intro w hSw; (try dsimp only at hSw); go_simp; try with_reducible rfl)
        try simp only [Act.put, List.setIfInBounds_toArray, List.set_cons_zero, List.set_cons_succ]
        refine held_yes (v := ?_) 5 (by simp only [List.getElem?_toArray, List.getElem?_cons_succ, List.getElem?_cons_zero]; rfl) (by kernel_rfl) (fun _ _ _ h => h) (by rfl) (by assumption) ?_ ?_
        rotate_left
        · (intro w hSw; (try dsimp only at hSw); go_simp; try with_reducible rfl)
        try simp only [Act.put, List.setIfInBounds_toArray, List.set_cons_zero, List.set_cons_succ]
        refine held_yes (v := ?_) 6 (by simp only [List.getElem?_toArray, List.getElem?_cons_succ, List.getElem?_cons_zero]; rfl) (by kernel_rfl) (fun _ _ _ h => h) (by rfl) (by assumption) ?_ ?_
        rotate_left
        · (intro w hSw; (try dsimp only at hSw); go_simp; try with_reducible rfl)
        try simp only [Act.put, List.setIfInBounds_toArray, List.set_cons_zero, List.set_cons_succ]
        refine held_yes (v := ?_) 7 (by simp only [List.getElem?_toArray, List.getElem?_cons_succ, List.getElem?_cons_zero]; rfl) (by kernel_rfl) (fun _ _ _ h => h) (by rfl) (by assumption) ?_ ?_
        rotate_left
        · (intro w hSw; (try dsimp only at hSw); go_simp; try with_reducible rfl)
        try simp only [Act.put, List.setIfInBounds_toArray, List.set_cons_zero, List.set_cons_succ]
        refine held_yes (v := ?_) 8 (by simp only [List.getElem?_toArray, List.getElem?_cons_succ, List.getElem?_cons_zero]; rfl) (by kernel_rfl) (fun _ _ _ h => h) (by rfl) (by assumption) ?_ ?_
        rotate_left
        · (intro w hSw; (try dsimp only at hSw); go_simp; try with_reducible rfl)
        try simp only [Act.put, List.setIfInBounds_toArray, List.set_cons_zero, List.set_cons_succ]
        refine held_one 9 (by simp only [List.getElem?_toArray, List.getElem?_cons_succ, List.getElem?_cons_zero]; rfl) (by kernel_rfl) (by rfl) (fun K hK => ?_)
        go_simp
        skip
        refine hK.out _ _ ?_ (fun hHeld => ?_)
        · (refine ⟨?_, ?_, ?_, ?_⟩ <;> (go_simp; try assumption))
        clear hK K
        try simp only [Act.put, List.setIfInBounds_toArray, List.set_cons_zero, List.set_cons_succ]
        refine held_one 10 (by simp only [List.getElem?_toArray, List.getElem?_cons_succ, List.getElem?_cons_zero]; rfl) (by kernel_rfl) (by rfl) (fun K hK => ?_)
        go_simp
        skip
        refine hK.out _ _ ?_ (fun hHeld => ?_)
        · (refine ⟨?_, ?_, ?_, ?_⟩ <;> (go_simp; try assumption))
        clear hK K
        try simp only [Act.put, List.setIfInBounds_toArray, List.set_cons_zero, List.set_cons_succ]
        refine held_one 11 (by simp only [List.getElem?_toArray, List.getElem?_cons_succ, List.getElem?_cons_zero]; rfl) (by kernel_rfl) (by rfl) (fun K hK => ?_)
        go_simp
        skip
        refine hK.out _ _ ?_ (fun hHeld => ?_)
        · (refine ⟨?_, ?_, ?_, ?_⟩ <;> (go_simp; try assumption))
        clear hK K
        try simp only [Act.put, List.setIfInBounds_toArray, List.set_cons_zero, List.set_cons_succ]
        refine wpAnyH_done (by kernel_rfl) ?_ _
        refine NormalOnly.normal ?_
        -- DLEH
        all_goals gi_wp2_with fail
        all_goals exact ⟨((KeepsOthers.drew W).trans (((KeepsOthers.setCell _ _ _).trans (KeepsOthers.setCell _ _ _)).trans (KeepsOthers.setCell _ _ _))).from _, n, pre.map (·.1), by rw [hgoE.out]; exact (Hbox.out.step (Below.refl _ W).drew).set _ _ _, rfl, by rw [List.map_append]; rfl, Hmiss.out, hmi.out⟩
      · have hmi : Hid (missN l u a n) := Hmn.out.2 ⟨rfl, hhit⟩
        obtain ⟨z, hwr, hzC⟩ : ∃ z : Nat, IntKind.u64.wrap ((V : Int) - (q : Int)) = (z : Int) ∧ C ≤ z := by
          by_cases h : q ≤ V
          · exact ⟨V - q, by rw [IntKind.wrap_u64]; omega, by omega⟩
          · exact ⟨V + 18446744073709551616 - q, by rw [IntKind.wrap_u64]; omega, by omega⟩
        have hzc : decide (z < C) = false := by rw [decide_eq_false_iff_not]; omega
        clear hhit hzC
        gi_wp2_with fail
        exact ⟨KeepsFrom.refl _ _, KeepC.refl _ _, Hbox.out, fun m hm => by
          rw [List.map_append, List.mem_append] at hm
          rcases hm with hm | hm
          · exact Hmiss.out m hm
          · simp at hm
            rw [hm]
            exact hmi.out⟩
    · have hE1 : (E != 0) = true := by rw [bne_iff_ne]; exact hE
      have hgoE : Hid (takeGo l u a [n] = .error E) := by
        show _ = _
        rw [Hgo.out, if_pos hE]
      have hmi : Hid (¬ missN l u a n) := fun h => hE (Hmn.out.1 h).1
      clear hE
      gi_wp2_with fail
      exact ⟨(Hko.out _ _ _).from _, n, pre.map (·.1), by rw [hgoE.out]; exact Hbox.out.set _ _ _, rfl, by rw [List.map_append]; rfl, Hmiss.out, hmi.out⟩
  case done =>
    rintro Dd xs W hDd hS ⟨hbox, hmiss⟩ hK
    have hS2 : xs.map (·.1) = levelNs l 20 := hS
    rw [hS2] at hmiss
    have hres := takeF_none hmiss
    have Hres := Lib.hid hres
    have Hbox := Lib.hid hbox
    have c2 := hbox.b2.cell
    have c3 := hbox.b3.cell
    have c4 := hbox.b4.cell
    have f2 := hbox.b2.frozen
    have f3 := hbox.b3.frozen
    have f4 := hbox.b4.frozen
    have l2 := hbox.b2.lt
    have l3 := hbox.b3.lt
    have l4 := hbox.b4.lt
    have hbs := hbx.bel.size
    have Hbs := Lib.hid hbs
    have Hdd := Lib.hid (show w.heap.size + 1 + 1 + 1 + 1 < Dd by omega)
    clear hmiss hres hbox hbx hW3 hvW hS hS2 hWs hz4 hbs
    gi_wp2_with fail
    have hdd := Hdd.out
    have hs := Hbox.out.set (.int .i64 0) (.int .i64 0) (.int .i64 3)
    have hK2 : (((W.setCell ⟨w.heap.size + 1 + 1, 0, none⟩ (.int .i64 0)).setCell ⟨w.heap.size + 1 + 1 + 1, 0, none⟩ (.int .i64 0)).setCell ⟨w.heap.size + 1 + 1 + 1 + 1, 0, none⟩ (.int .i64 3)).heap[Dd]? = some (.deferred (some [])) := by
      rw [Below.heap_setCell _ _ _ _ (by simp; omega), Below.heap_setCell _ _ _ _ (by simp; omega), Below.heap_setCell _ _ _ _ (by simp; omega), hK]
    have hp := (Bx5.own W1.heap.size Hbs.out s a (fun _ : Unit => ((.int .i64 0, .int .i64 0, .int .i64 3) : Value × Value × Value))).putObj (s := ()) (.deferred none) hs hDd hK2 rfl
    refine ⟨by simp, .inl ⟨_, _, rfl, run_takeDeferred hK2, ?_⟩⟩
    exact ⟨_, results_cell3 rfl _ _ _ _ _ _ _ _ _ rfl rfl rfl (loadVar_int _ _ _ hp.b2.cell) (loadVar_int _ _ _ hp.b3.cell) (loadVar_errno _ _ _ hp.b4.cell), by rw [Hres.out]; rfl, hp.bel⟩
  case stop =>
    rintro Dd c pre W hDd hS ⟨n, ns, hbox, rfl, hpre, hmiss, hhit⟩ hK
    have hS2 : pre.map (·.1) <+: levelNs l 20 := hS
    rw [hpre] at hS2
    have hres := takeF_prefix hS2 hmiss hhit
    have Hres := Lib.hid hres
    have Hbox := Lib.hid hbox
    have hbs := hbx.bel.size
    have Hbs := Lib.hid hbs
    clear hmiss hres hbox hbx hW3 hvW hS hS2 hpre hhit hWs hz4 hbs
    gi_wp2_with fail
    have hp := (Bx5.own W1.heap.size Hbs.out s a (fun _ : Unit => takeV (takeGo l u a [n]))).putObj (s := ()) (.deferred none) Hbox.out hDd hK rfl
    refine ⟨by simp, .inl ⟨_, _, rfl, run_takeDeferred hK, ?_⟩⟩
    exact ⟨_, results_cell3 rfl _ _ _ _ _ _ _ _ _ rfl rfl rfl (loadVar_int _ _ _ hp.b2.cell) (loadVar_int _ _ _ hp.b3.cell) (loadVar_errno _ _ _ hp.b4.cell), by rw [Hres.out], hp.bel⟩
end Go.Proofs.Ytkicaimondpceaa
