/- The writer's rows of bits: numbers and bits that are right; what may not be panics. -/
import Derived.Test.YtpccdohhiojlkaaBitsWriter
import Derived.Recover
namespace Go.Proofs.Ytpccdohhiojlkaa
open Go.RowKit
set_option linter.unusedVariables false

/-- what a call that lays bits comes to: more bits, or the panic -/
def Laid (w : World) (b : Nat) (l : Option (List Bool)) (e : Ending) (w' : World) : Prop :=
  Below b w w' ∧ match l with
    | some l => e = .returned (.tuple #[]) ∧ Wr w' b l
    | none => e = .panicked [{ v := .iface 83 (.agg #[]), recovered := false }]

theorem u64_bit (v k : Nat) (hv : v < 18446744073709551616) : (bits BinOp.and IntKind.u64 ((v : Int) / 2 ^ k) 1 == 1) = v.testBit k := by
  have h1 : ((v : Int) / 2 ^ k) = ((v / 2 ^ k : Nat) : Int) := by push_cast; rfl
  have h2 : v / 2 ^ k < 18446744073709551616 := Nat.lt_of_le_of_lt (Nat.div_le_self _ _) hv
  rw [h1, show (1 : Int) = ((1 : Nat) : Int) from rfl, u64_and_nat _ _ h2 (by decide), Nat.and_one_is_mod, Nat.testBit_eq_decide_div_mod_eq]
  rw [Bool.eq_iff_iff]
  simp only [beq_iff_eq, decide_eq_true_eq]
  omega

set_option maxHeartbeats 400000 in
theorem number_any (w : World) (b : Nat) (l : List Bool) (v : Nat) (n : Int) (h : Wr w b l) (hv : v < 18446744073709551616) (hl : l.length < 562949953421248) :
    Calls Try.prog 38 #[.pointer (some ⟨b, 0, none⟩), .int .u64 v, .int .i64 n] w (Laid w b (if 0 ≤ n ∧ n ≤ 64 then some (l ++ B.low v n.toNat) else none)) := by
  by_cases hn : 0 ≤ n ∧ n ≤ 64
  · rw [if_pos hn]
    obtain ⟨h0, h1⟩ := hn
    obtain ⟨n, rfl⟩ := Int.eq_ofNat_of_zero_le h0
    rw [Int.toNat_natCast]
    go_enter Try.func38, Try.ntmps38
    go_wp2
    go_loopw [6] (fun i wr => ∃ k : Nat, k ≤ n ∧ i = .int .i64 ((k : Int) - 1) ∧ Below b w wr ∧ ∃ m, m.length + k = l.length + n ∧ Wr wr b m ∧ m ++ B.low v k = l ++ B.low v n) (fun i _ => (intOf i + 1).toNat)
    case atStart => exact ⟨n, Nat.le_refl _, rfl, Below.refl _ _, l, rfl, h, rfl⟩
    case round =>
      obtain ⟨k, hk, rfl, hB, m, hm, hw, hlow⟩ := hrel
      rcases Nat.eq_zero_or_pos k with hk0 | hk0
      · subst hk0
        go_wp2
        go_end0
        refine ⟨hB, rfl, ?_⟩
        rw [B.low_zero, List.append_nil] at hlow
        rw [← hlow]; exact hw
      · obtain ⟨k, rfl⟩ : ∃ j, k = j + 1 := ⟨k - 1, by omega⟩
        have hbit := u64_bit v k hv
        go_wp2_with (go_at_call 47; refine (wbit_any _ b m (v.testBit k) hw (by omega)).mono ?_; rintro e w' ⟨rfl, hw', hB', _⟩)
        go_roundw
        case rel => exact ⟨k, by omega, rfl, hB.trans hB', m ++ [v.testBit k], by simp; omega, hw', by rw [← hlow, B.low_succ, List.append_assoc]; rfl⟩
        case measure => simp [intOf]
  · rw [if_neg hn]
    go_enter Try.func38, Try.ntmps38
    go_wp2
    all_goals exact ⟨rfl, Below.refl _ _, rfl⟩
theorem Wr.above {w w1 w2 : World} {b : Nat} {l : List Bool} (h : Wr w b l) (h1 : Below w.heap.size w w1) (h2 : Below w.heap.size w1 w2) : Wr w2 b l := by
  obtain ⟨v, hb, ho⟩ := h
  have hk : ∀ k, k < w.heap.size → w2.heap[k]? = w.heap[k]? := fun k hk => (h2.block k hk).trans (h1.block k hk)
  exact ⟨v, (hk b (lt_of_heap hb)).trans hb, ho.1, by
    rcases ho.2 with h0 | ⟨g, cap, cur, hv, hg, hh, r⟩
    · exact .inl h0
    · exact .inr ⟨g, cap, cur, hv, hg, (hk g (lt_of_heap hh)).trans hh, r⟩⟩

set_option maxHeartbeats 400000 in
theorem bits_any (w : World) (b : Nat) (l : List Bool) (s : ByteArray) (n : Int) (h : Wr w b l) (hl : l.length + 8 * s.size < 562949953421312) (hn : -9223372036854775808 ≤ n) (hn' : n ≤ 9223372036854775807) :
    Calls Try.prog 36 #[.pointer (some ⟨b, 0, none⟩), .agg #[.string s, .int .i64 n]] w (Laid w b (if rightB s.data.toList n then some (l ++ B.slice s.data.toList 0 n.toNat) else none)) := by
  have hs : s.size ≤ 281474976710656 := by omega
  have hbl := h.lt
  cases hr : rightB s.data.toList n with
  | false =>
    rw [if_neg (by simp)]
    have hc := fun W => right_any s n W hs hn hn'
    rw [hr] at hc
    clear hr
    have Hc := Lib.hid hc
    clear hc
    go_enter Try.func36, Try.ntmps36
    go_wp2_with (go_at_call 39; refine (Hc.out _).mono ?_; rintro e w' ⟨rfl, hB⟩)
    exact ⟨rfl, ((Below.refl b w).alloc (by omega) _).trans (hB.mono (by simp; omega)), rfl⟩
  | true =>
    rw [if_pos rfl]
    have hc := fun W => right_any s n W hs hn hn'
    rw [hr] at hc
    have Hc := Lib.hid hc
    clear hc
    obtain ⟨n, rfl, hn8⟩ : ∃ m : Nat, n = m ∧ m ≤ 8 * s.size := by
      unfold rightB at hr
      simp only [Bool.and_eq_true, decide_eq_true_eq] at hr
      obtain ⟨⟨h0, h1⟩, _⟩ := hr
      have : s.data.toList.length = s.size := by simp
      exact ⟨n.toNat, by omega, by omega⟩
    rw [Int.toNat_natCast]
    clear hr
    go_enter Try.func36, Try.ntmps36
    go_wp2_with
      (go_at_call 39
       refine (Hc.out _).mono ?_
       rintro e w1 ⟨rfl, hB1⟩
       obtain ⟨hc1, hf1⟩ := bcell hB1
       have hz1 : w.heap.size + 1 ≤ w1.heap.size := by have := hB1.size; simpa using this)
    have hbox : w1.heap[w.heap.size]? = some (.cells #[.string s, .int .i64 n] 28 (0, 0)) := (hB1.block _ (by simp)).trans (heap_alloc_new w _)
    have hW1 : Wr w1 b l := h.above ((Below.refl w.heap.size w).alloc (Nat.le_refl _) _) (hB1.mono (by simp))
    have hB0 : Below b w w1 := ((Below.refl b w).alloc (by omega) _).trans (hB1.mono (by simp; omega))
    clear hc1 hf1
    have Hbox := Lib.hid hbox
    have HW1 := Lib.hid hW1
    clear hbox hW1 hB1
    go_loopw [12] (fun i wr => ∃ k : Nat, k ≤ n ∧ i = .int .i64 k ∧ Below b w wr ∧ wr.heap[w.heap.size]? = some (.cells #[.string s, .int .i64 n] 28 (0, 0)) ∧ Wr wr b (l ++ B.slice s.data.toList 0 k)) (fun i _ => n - (intOf i).toNat)
    case atStart => exact ⟨0, Nat.zero_le _, rfl, hB0, Hbox.out, by simpa [B.slice] using HW1.out⟩
    case round =>
      obtain ⟨k, hk, rfl, hB, hbx, hw⟩ := hrel
      have q0 : wr.cell? ⟨w.heap.size, 0, none⟩ = some (.string s) := cell_of_heap hbx 0
      have Hbx := Lib.hid hbx
      clear hbx
      by_cases hlt : k < n
      · go_wp2_with (first
          | (go_at_call 40; refine (bit_any _ _ _ (by omega) (by omega) hs).mono ?_; rintro e w' ⟨rfl, rfl⟩)
          | (go_at_call 47; refine (wbit_any _ b _ (B.bitAt s.data.toList k) hw (by rw [List.length_append, B.length_slice]; omega)).mono ?_; rintro e w' ⟨rfl, hw', hB', hK'⟩))
        go_roundw
        case rel => exact ⟨k + 1, by omega, by go_num, hB.trans hB', hK' _ _ _ _ (by omega) (by decide) Hbx.out, by rw [B.slice_succ, ← List.append_assoc, Nat.zero_add]; exact hw'⟩
        case measure => simp [intOf]; omega
      · go_wp2
        obtain rfl : k = n := by omega
        go_end0
        exact ⟨hB, rfl, hw⟩
end Go.Proofs.Ytpccdohhiojlkaa
