/- The program's windows: the numbers that n bits are, place by place: the iterator's contract. -/
import Derived.Test.YtbanageccecmnaaBitsGet
import Derived.RangeFuncNested
import Derived.RangeFuncBound
import Derived.RangeFuncCalls
import Derived.RangeFuncLeaves
import Derived.Shelf.Abstract
import Derived.Shelf.RegionOpen
import Derived.OwnWalkIn
import Derived.TacticsInMore
import Derived.LoopNIn
import Derived.LoopIn
namespace Go.Proofs.Ytbanageccecmnaa
open Go.RowKit Go.Shelf
attribute [local go_sem] Oper.semAt_some
set_option linter.unusedVariables false

/-- windows of n bits from place f on, so many of them -/
def wins (s : List UInt8) (f n cnt : Nat) : List (Nat × Nat) := (List.range cnt).map fun k => (f + k, B.num (B.slice s (f + k) n))
theorem wins_succ (s : List UInt8) (f n k : Nat) : wins s f n (k + 1) = wins s f n k ++ [(f + k, B.num (B.slice s (f + k) n))] := by
  unfold wins; rw [List.range_succ, List.map_append]; rfl
theorem length_wins (s : List UInt8) (f n k : Nat) : (wins s f n k).length = k := by simp [wins]
theorem wins_prefix (s : List UInt8) (f n k m : Nat) (h : k ≤ m) : wins s f n k <+: wins s f n m := by
  induction m with
  | zero => obtain rfl : k = 0 := by omega
            exact List.prefix_refl _
  | succ m ih =>
    by_cases e : k = m + 1
    · subst e; exact List.prefix_refl _
    · exact (ih (by omega)).trans (by rw [wins_succ]; exact List.prefix_append _ _)
/-- how many windows there are, from place f on, in L bytes -/
def winCnt (L : Nat) (f : Nat) (n : Int) : Nat := if 1 ≤ n ∧ n ≤ 64 then 8 * L + 1 - (f + n.toNat) else 0

theorem getE_nat (s : List UInt8) (a n : Nat) (hn : n ≤ 64) : getE s a n = if a + n ≤ 8 * s.length then 0 else 2 := by
  unfold getE
  rw [if_neg (by omega)]
  split <;> split <;> first | rfl | omega
theorem getV_ok (s : List UInt8) (a n : Nat) (h : a + n ≤ 8 * s.length) (hn : n ≤ 64) : getV s a n = (B.num (B.slice s a n) : Nat) := by
  unfold getV
  rw [if_neg (by omega), if_neg (by omega), Int.toNat_natCast, Int.toNat_natCast]
theorem win_step (s : List UInt8) (a n : Nat) (hn : n ≤ 64) :
    bits BinOp.and IntKind.u64 (bits BinOp.or IntKind.u64 (IntKind.u64.wrap ((B.num (B.slice s a n) : Nat) * 2)) ((B.num (B.slice s (a + n) 1) : Nat) : Int)) ((2 ^ n - 1 : Nat) : Int) = ((B.num (B.slice s (a + 1) n) : Nat) : Int) := by
  have h1 : B.slice s a (n + 1) = B.slice s a n ++ B.slice s (a + n) 1 := B.slice_append s a n 1
  have h2 : B.slice s a (1 + n) = B.slice s a 1 ++ B.slice s (a + 1) n := B.slice_append s a 1 n
  have e1 := B.num_append (B.slice s a n) (B.slice s (a + n) 1)
  have e2 := B.num_append (B.slice s a 1) (B.slice s (a + 1) n)
  rw [← h1, B.length_slice] at e1
  rw [← h2, B.length_slice, Nat.add_comm 1 n] at e2
  rw [e1] at e2
  have b1 := B.num_lt (B.slice s (a + n) 1)
  have b2 := B.num_lt (B.slice s (a + 1) n)
  have b3 := B.num_lt (B.slice s a n)
  rw [B.length_slice] at b1 b2 b3
  generalize B.num (B.slice s a n) = v at *
  generalize B.num (B.slice s (a + n) 1) = b at *
  generalize B.num (B.slice s (a + 1) n) = r at *
  generalize B.num (B.slice s a 1) = c at *
  have h64 : 2 ^ n ≤ 2 ^ 64 := Nat.pow_le_pow_right (by omega) hn
  have hw : IntKind.u64.wrap ((v : Int) * 2) = ((2 * v % 18446744073709551616 : Nat) : Int) := by rw [IntKind.wrap_u64]; omega
  have hb : b < 2 := by simpa using b1
  rw [hw, u64_or_nat _ _ (by omega) (by omega)]
  have hor : 2 * v % 18446744073709551616 ||| b = 2 * v % 18446744073709551616 + b := by
    have h := Nat.two_pow_add_eq_or_of_lt (i := 1) (b := b) (by simpa using hb) (v % 9223372036854775808)
    rw [Nat.pow_one] at h
    have e : 2 * v % 18446744073709551616 = 2 * (v % 9223372036854775808) := by omega
    rw [e, h]
  rw [hor]
  have hlt : 2 * v % 18446744073709551616 + b < 18446744073709551616 := by omega
  rw [u64_and_nat _ _ hlt (by have := Nat.two_pow_pos n; omega), Nat.and_two_pow_sub_one_eq_mod]
  congr 1
  have hd : (2 * v + b) % 2 ^ n = r := by
    rw [Nat.mul_comm 2 v]
    rw [show v * 2 = v * 2 ^ 1 by simp, e2, Nat.add_comm, Nat.add_mul_mod_self_right, Nat.mod_eq_of_lt b2]
  have hm : (2 * v % 18446744073709551616 + b) % 2 ^ n = (2 * v + b) % 2 ^ n := by
    obtain ⟨d, hd⟩ : ∃ d, 64 = n + d := ⟨64 - n, by omega⟩
    have e : 18446744073709551616 = 2 ^ n * 2 ^ d := by rw [← Nat.pow_add, ← hd]
    have e3 : (2 * v + b) % 18446744073709551616 = 2 * v % 18446744073709551616 + b := by omega
    rw [← e3, e, Nat.mod_mul_right_mod]
  rw [hm, hd]

set_option maxHeartbeats 400000 in
theorem low_any (n : Nat) (w : World) (h1 : 1 ≤ n) (h2 : n ≤ 64) :
    Calls Try.prog 18 #[.int .i64 n] w fun e w' => e = .returned (.int .u64 ((2 ^ n - 1 : Nat) : Int)) ∧ w = w' := by
  go_enter Try.func18, Try.ntmps18
  go_wp2
  go_ret
  refine ⟨ret_int ?_, rfl⟩
  have h : (2 : Nat) ^ 64 = 2 ^ n * 2 ^ (64 - n) := by rw [← Nat.pow_add]; congr 1; omega
  have hp := Nat.two_pow_pos (64 - n)
  have hq := Nat.two_pow_pos n
  have e : 18446744073709551615 / 2 ^ (64 - n) = 2 ^ n - 1 := by
    rw [Nat.div_eq_iff hp]
    have h' : 18446744073709551616 = 2 ^ n * 2 ^ (64 - n) := by simpa using h
    generalize 2 ^ (64 - n) = b at *
    generalize 2 ^ n = a at *
    obtain ⟨a, rfl⟩ : ∃ c, a = c + 1 := ⟨a - 1, by omega⟩
    rw [Nat.add_sub_cancel]
    rw [Nat.succ_mul] at h'
    omega
  have hc : ((2 : Int) ^ (64 - n)) = ((2 ^ (64 - n) : Nat) : Int) := by push_cast; rfl
  rw [hc, ← e]
  exact (Int.natCast_ediv 18446744073709551615 (2 ^ (64 - n))).symm

/-- what the program's range over windows comes to -/
theorem windows_any (s : ByteArray) (f n : Int) (w : World) :
    Calls Try.prog 17 #[.string s, .int .i64 f, .int .i64 n] w fun e w' =>
      e = .returned (.func (.func 27) #[] #[.pointer (some ⟨w.heap.size + 1, 0, none⟩), .pointer (some ⟨w.heap.size + 2, 0, none⟩), .pointer (some ⟨w.heap.size, 0, none⟩)]) ∧
      ((w.alloc (.cells #[.string s] 9)).alloc (.cells #[.int .i64 f] 3)).alloc (.cells #[.int .i64 n] 3) = w' := by
  have hmf : ∀ (fn : Fn) (first cap : Array Value) (w : World), (Instr.makeFunc fn first cap).run Try.prog w = .ok (.func fn first cap) w := fun _ _ _ _ => rfl
  go_enter Try.func17, Try.ntmps17
  go_wp2
  go_ret
  exact ⟨rfl, rfl⟩

/-- the blocks from lo to hi are as they were -/
def Mid (lo hi : Nat) (W W' : World) : Prop := ∀ b, lo ≤ b → b < hi → W'.heap[b]? = W.heap[b]?
theorem Mid.refl (lo hi : Nat) (W : World) : Mid lo hi W W := fun _ _ _ => rfl
theorem Mid.trans {lo hi : Nat} {A B C : World} (h : Mid lo hi A B) (k : Mid lo hi B C) : Mid lo hi A C := fun b h1 h2 => (k b h1 h2).trans (h b h1 h2)
theorem Mid.cell {lo hi : Nat} {W W' : World} (h : Mid lo hi W W') (b o : Nat) (h1 : lo ≤ b) (h2 : b < hi) : W'.cell? ⟨b, o, none⟩ = W.cell? ⟨b, o, none⟩ := World.cell?_of_block (w := W) (h b h1 h2)
theorem Mid.setCell {lo hi : Nat} {W W' : World} (h : Mid lo hi W W') {p : Addr} (hp : p.block < lo ∨ hi ≤ p.block) (u : Value) : Mid lo hi W (W'.setCell p u) := fun b h1 h2 =>
  (Below.heap_setCell W' p u b (by omega)).trans (h b h1 h2)
theorem Mid.alloc {lo hi : Nat} {W W' : World} (h : Mid lo hi W W') (hh : hi ≤ W'.heap.size) (o : Obj) : Mid lo hi W (W'.alloc o) := fun b h1 h2 =>
  (Below.heap_alloc W' o b (by omega)).trans (h b h1 h2)
theorem Mid.grown {lo hi : Nat} {W W' W2 : World} {row : Option Nat} (h : Mid lo hi W W') (hg : W'.grownBy W2 row) (hh : hi ≤ W'.heap.size) (hr : ∀ k, row = some k → k < lo ∨ hi ≤ k) : Mid lo hi W W2 := fun b h1 h2 =>
  (hg.block b (by omega) (fun e => by have := hr b e.symm; omega)).trans (h b h1 h2)
theorem mid_b {lo n₀ : Nat} {w : World} (hn : n₀ ≤ w.heap.size) (W : World) (l : Nat) (o o' : Obj) (hl : w.heap.size ≤ l) (h : W.heap[l]? = some o) (_ : o.isCells = false) (_ : o.isWalk = false) : Mid lo n₀ W (W.putObj l o') :=
  (Mid.refl lo n₀ W).grown (grownBy_putObj' W l o') (by have := (Array.getElem?_eq_some_iff.1 h).1; omega) (fun k e => by cases e; omega)
/-- how the iterator ends: all have come, or some, a round having said no more -/
def SeqEnd {α : Type} (J Jx : List α → World → Prop) (xs : List α) (e : Ending) (W' : World) : Prop :=
  (∃ v, e = .returned v) ∧ ((∃ ys, ys = xs ∧ J ys W') ∨ (∃ pre, pre <+: xs ∧ Jx pre W'))

set_option maxRecDepth 100000 in
set_option maxHeartbeats 2000000 in
/-- the closure: it goes through the windows while the rounds go on -/
theorem wins_in (n m : Nat) (f : Int) (hn : 3 ≤ n) (l bf bn bs n₀ : Nat) (s : ByteArray) (k : Int) (hs : s.size ≤ 281474976710656) (hf : -9223372036854775808 ≤ f) (hf' : f ≤ 9223372036854775807) (hk : -9223372036854775808 ≤ k) (hk' : k ≤ 9223372036854775807)
    (J Jx : List (Nat × Nat) → World → Prop) (hbf : bf < n₀) (hbn : bn < n₀) (hbs : bs < n₀) (lo : Nat) (lf : lo ≤ bf) (ln : lo ≤ bn) (ls : lo ≤ bs)
    (hY : ∀ pre x W, J pre W → pre.length < winCnt s.size f.toNat k → YieldAt Fence.wide (n - 1) Try.prog l #[.int .i64 (x.1 : Nat), .int .u64 (x.2 : Nat)] W fun e W' =>
      (e = .returned (.bool true) ∧ J (pre ++ [x]) W' ∧ Mid lo n₀ W W') ∨ (e = .returned (.bool false) ∧ Jx (pre ++ [x]) W'))
    (W : World) (c1 : W.cell? ⟨bf, 0, none⟩ = some (.int .i64 f)) (c2 : W.cell? ⟨bn, 0, none⟩ = some (.int .i64 k)) (c3 : W.cell? ⟨bs, 0, none⟩ = some (.string s)) (h0 : J [] W) :
    CallsIn Fence.wide n Try.prog 27 #[.func (.yield l) #[] #[], .pointer (some ⟨bf, 0, none⟩), .pointer (some ⟨bn, 0, none⟩), .pointer (some ⟨bs, 0, none⟩)] W (SeqEnd J Jx (wins s.data.toList f.toNat k.toNat (winCnt s.size f.toNat k))) := by
  obtain ⟨g, hg, hmax⟩ : ∃ g : Nat, f.toNat = g ∧ (if f < 0 then (0 : Int) else f) = g := ⟨f.toNat, rfl, by split <;> omega⟩
  rw [hg] at hY ⊢
  by_cases hok : (1 ≤ k ∧ k ≤ 64) ∧ g + k.toNat ≤ 8 * s.size
  · obtain ⟨⟨k1, k2⟩, k3⟩ := hok
    obtain ⟨k, rfl⟩ := Int.eq_ofNat_of_zero_le (show 0 ≤ k by omega)
    rw [Int.toNat_natCast] at k3 ⊢
    have hcnt : winCnt s.size g k = 8 * s.size + 1 - (g + k) := by unfold winCnt; rw [if_pos ⟨k1, k2⟩, Int.toNat_natCast]
    rw [hcnt] at hY ⊢
    have HY := Lib.hid hY
    clear hY hcnt
    have hg0 : (g : Int) ≤ 8 * (s.size : Int) - k := by omega
    refine callsIn_of_wp Try.func27 rfl trivial ?_ rfl
    simp only [Try.ntmps27, List.size_toArray, List.length_cons, List.length_nil, Nat.reduceAdd, Nat.reduceSub, Array.replicate_succ, Array.replicate_zero, List.push_toArray, List.append_toArray, List.nil_append, List.cons_append]
    have gE := getE_nat s.data.toList g k (by omega)
    rw [if_pos (by simpa using k3)] at gE
    have gV := getV_ok s.data.toList g k (by simpa using k3) (by omega)
    have CG : Hid (∀ W1, Calls Try.prog 13 #[.string s, .int .i64 g, .int .i64 k] W1 fun e w' => e = .returned (.tuple #[.int .u64 (B.num (B.slice s.data.toList g k) : Nat), .int .i64 0]) ∧ W1 = w') := fun W1 => by
      have := get_any s g k W1 hs
      rw [gE, gV] at this; exact this
    clear gE gV
    have h1n : 1 ≤ n := by omega
    gi_wp2_with (refine ⟨trivial, ?_⟩; gi_at_call 13; refine (callsIn_wide.2 (CG.out _)).mono ?_; rintro e w' ⟨rfl, rfl⟩)
    gi_loopw [6, 8] (fun v a wr => ∃ j : Nat, g + k + j ≤ 8 * s.size ∧ a = .int .i64 ((g + j : Nat) : Int) ∧ v = .int .u64 (B.num (B.slice s.data.toList (g + j) k) : Nat) ∧ J (wins s.data.toList g k j) wr ∧ Mid lo n₀ W wr) (fun _ a _ => 8 * s.size + 1 - (intOf a).toNat)
    case atStart => exact ⟨0, by omega, rfl, rfl, h0, Mid.refl _ _ _⟩
    case round =>
      obtain ⟨j, hj, rfl, rfl, hJ, hB⟩ := hrel
      obtain ⟨fn, tmps, assign, body, hy, hR⟩ := HY.out (wins s.data.toList g k j) (g + j, B.num (B.slice s.data.toList (g + j) k)) wr hJ (by rw [length_wins]; omega)
      simp only [Int.natCast_add] at hy
      have Hy := Lib.hid hy
      have hlow : Hid (∀ W1, Calls Try.prog 18 #[.int .i64 k] W1 fun e w' => e = .returned (.int .u64 ((2 ^ k - 1 : Nat) : Int)) ∧ W1 = w') := fun W1 => low_any k W1 (by omega) (by omega)
      by_cases hlast : g + k + j = 8 * s.size
      · have hq : (((g + j : Nat) : Int) == 8 * (s.size : Int) - k) = true := by rw [beq_iff_eq]; omega
        have hq2 : (((g : Int) + j) == 8 * (s.size : Int) - k) = true := by rw [beq_iff_eq]; omega
        have hall : j + 1 = 8 * s.size + 1 - (g + k) := by omega
        have Hall := Lib.hid hall
        clear hall hlast
        gi_wp2
        refine hR.mono ?_
        rintro e W' (⟨rfl, hJ', hk'⟩ | ⟨rfl, hJx'⟩)
        · have r2 : W'.cell? ⟨bn, 0, none⟩ = some (.int .i64 k) := ((hB.trans hk').cell bn 0 ln hbn).trans c2
          have r3 : W'.cell? ⟨bs, 0, none⟩ = some (.string s) := ((hB.trans hk').cell bs 0 ls hbs).trans c3
          gi_wp2
          refine bodyPost_ret (results_none rfl _ _ _) rfl ?_
          exact ⟨⟨_, rfl⟩, .inl ⟨_, rfl, by rw [← Hall.out, wins_succ]; exact hJ'⟩⟩
        · gi_wp2
          refine bodyPost_ret (results_none rfl _ _ _) rfl ?_
          exact ⟨⟨_, rfl⟩, .inr ⟨_, by rw [← Hall.out, wins_succ]; exact List.prefix_refl _, hJx'⟩⟩
      · have hq : (((g + j : Nat) : Int) == 8 * (s.size : Int) - k) = false := by rw [beq_eq_false_iff_ne]; omega
        have hq2 : (((g : Int) + j) == 8 * (s.size : Int) - k) = false := by rw [beq_eq_false_iff_ne]; omega
        have hpre := wins_prefix s.data.toList g k (j + 1) (8 * s.size + 1 - (g + k)) (by omega)
        rw [wins_succ] at hpre
        have Hpre := Lib.hid hpre
        have hj2 : g + k + (j + 1) ≤ 8 * s.size := by omega
        have gE := getE_nat s.data.toList (g + j + k) 1 (by omega)
        rw [if_pos (by simp; omega)] at gE
        have gV := getV_ok s.data.toList (g + j + k) 1 (by simp; omega) (by omega)
        have CG1 : Hid (∀ W1, Calls Try.prog 13 #[.string s, .int .i64 ((g : Int) + j + k), .int .i64 1] W1 fun e w' => e = .returned (.tuple #[.int .u64 (B.num (B.slice s.data.toList (g + j + k) 1) : Nat), .int .i64 0]) ∧ W1 = w') := fun W1 => by
          have := get_any s (g + j + k : Nat) (1 : Nat) W1 hs
          rw [gE, gV] at this
          simpa using this
        have hst := win_step s.data.toList (g + j) k (by omega)
        have Hst := Lib.hid hst
        clear hlast hpre gE gV hst
        gi_wp2
        refine hR.mono ?_
        rintro e W' (⟨rfl, hJ', hk'⟩ | ⟨rfl, hJx'⟩)
        · have r2 : W'.cell? ⟨bn, 0, none⟩ = some (.int .i64 k) := ((hB.trans hk').cell bn 0 ln hbn).trans c2
          have r3 : W'.cell? ⟨bs, 0, none⟩ = some (.string s) := ((hB.trans hk').cell bs 0 ls hbs).trans c3
          gi_wp2_with (first
            | (refine ⟨trivial, ?_⟩; gi_at_call 13; refine (callsIn_wide.2 (CG1.out _)).mono ?_; rintro e w' ⟨rfl, rfl⟩)
            | (refine ⟨trivial, ?_⟩; gi_at_call 18; refine (callsIn_wide.2 (hlow.out _)).mono ?_; rintro e w' ⟨rfl, rfl⟩))
          go_roundw
          case rel => exact ⟨j + 1, hj2, by go_num, by rw [Hst.out]; rfl, by rw [wins_succ]; exact hJ', hB.trans hk'⟩
          case measure => simp [intOf]; omega
        · gi_wp2
          refine bodyPost_ret (results_none rfl _ _ _) rfl ?_
          exact ⟨⟨_, rfl⟩, .inr ⟨_, Hpre.out, hJx'⟩⟩
  · have hcnt : winCnt s.size g k = 0 := by
      unfold winCnt
      split
      · rename_i h
        have : ¬ g + k.toNat ≤ 8 * s.size := fun h' => hok ⟨h, h'⟩
        omega
      · rfl
    rw [hcnt]
    refine callsIn_of_wp Try.func27 rfl trivial ?_ rfl
    simp only [Try.ntmps27, List.size_toArray, List.length_cons, List.length_nil, Nat.reduceAdd, Nat.reduceSub, Array.replicate_succ, Array.replicate_zero, List.push_toArray, List.append_toArray, List.nil_append, List.cons_append]
    gi_wp2
    all_goals
      refine bodyPost_ret (results_none rfl _ _ _) rfl ?_
      exact ⟨⟨_, rfl⟩, .inl ⟨_, rfl, h0⟩⟩
/-- what windows hands back is an iterator that stops where a round says no more -/
theorem wins_stops (n : Nat) (f : Int) (hn : 3 ≤ n) (n₀ : Nat) (s : ByteArray) (k : Int) (hs : s.size ≤ 281474976710656) (hf : -9223372036854775808 ≤ f) (hf' : f ≤ 9223372036854775807) (hk : -9223372036854775808 ≤ k) (hk' : k ≤ 9223372036854775807)
    (w : World) (bf bn bs : Nat) (hbf : bf < n₀) (hbn : bn < n₀) (hbs : bs < n₀) (lo : Nat) (lf : lo ≤ bf) (ln : lo ≤ bn) (ls : lo ≤ bs) (hn₀ : n₀ ≤ w.heap.size)
    (c1 : w.cell? ⟨bf, 0, none⟩ = some (.int .i64 f)) (c2 : w.cell? ⟨bn, 0, none⟩ = some (.int .i64 k)) (c3 : w.cell? ⟨bs, 0, none⟩ = some (.string s)) :
    SeqStopsK Fence.wide n Try.prog 27 #[.pointer (some ⟨bf, 0, none⟩), .pointer (some ⟨bn, 0, none⟩), .pointer (some ⟨bs, 0, none⟩)] (fun x : Nat × Nat => #[.int .i64 (x.1 : Nat), .int .u64 (x.2 : Nat)]) (Mid lo n₀)
      (fun ys => ys = wins s.data.toList f.toNat k.toNat (winCnt s.size f.toNat k)) (fun pre => pre <+: wins s.data.toList f.toNat k.toNat (winCnt s.size f.toNat k)) (winCnt s.size f.toNat k) w :=
  fun l J Jx W hW _ _ hY h0 =>
    wins_in n 0 f hn l bf bn bs n₀ s k hs hf hf' hk hk' J Jx hbf hbn hbs lo lf ln ls hY W ((hW.cell (p := ⟨bf, 0, none⟩) (by simp; omega)).trans c1) ((hW.cell (p := ⟨bn, 0, none⟩) (by simp; omega)).trans c2) ((hW.cell (p := ⟨bs, 0, none⟩) (by simp; omega)).trans c3) h0
theorem enters_wins : Enters Try.prog 27 := enters_of Try.func27 (by kernel_rfl) rfl
end Go.Proofs.Ytbanageccecmnaa
