/- Same of the program: its contract. -/
import Derived.Test.YtkicaimondpceaaBitsFacts
import Derived.Deep.QuietTactic
import Derived.BigQuiet
namespace Go.Proofs.Ytkicaimondpceaa
open Go.RowKit
set_option linter.unusedVariables false

/-- do bits stand at a place, as the program says -/
def sameB (s : List UInt8) (a : Int) (t : List UInt8) (n : Int) : Bool :=
  rightB t n && decide (0 ≤ a) && decide (a ≤ 8 * (s.length : Int) - n) && decide (∀ i, i < n.toNat → B.bitAt s (a.toNat + i) = B.bitAt t i)

theorem rightB_nat {s : ByteArray} {n : Int} (h : rightB s.data.toList n = true) : 0 ≤ n ∧ n ≤ 8 * (s.size : Int) := by
  unfold rightB at h
  simp only [Bool.and_eq_true, decide_eq_true_eq] at h
  obtain ⟨⟨h0, h1⟩, _⟩ := h
  have : s.data.toList.length = s.size := by simp
  omega
theorem quiet_l {P : Program} {f : FuncId} {args : Array Value} {w : World} {n : Nat} {v : Value}
    (h : Calls P f args (w.drewN n) fun e w' => e = .returned v ∧ w.drewN n = w') : Calls P f args (w.drewN n) fun e w'' => e = .returned v ∧ ∃ m, w'' = w.drewN m :=
  h.mono fun _ _ ⟨he, hm⟩ => ⟨he, n, hm.symm⟩
theorem bitv_ne2 (a b : Bool) : (bitv a != bitv b) = (a != b) := by cases a <;> cases b <;> rfl
attribute [go_sem] bitv_ne2

set_option maxHeartbeats 400000 in
theorem same_any (w : World) (s t : ByteArray) (a n : Int) (hs : s.size ≤ 281474976710656) (ht : t.size ≤ 281474976710656) (hn : -9223372036854775808 ≤ n) (hn' : n ≤ 9223372036854775807) :
    Calls Try.prog 24 #[.string s, .int .i64 a, .agg #[.string t, .int .i64 n]] w fun e w' => e = .returned (.bool (sameB s.data.toList a t.data.toList n)) ∧ Below w.heap.size w w' := by
  have hc := fun W => right_any t n W ht hn hn'
  have hl : s.data.toList.length = s.size := by simp
  by_cases hok : rightB t.data.toList n = true ∧ 0 ≤ a ∧ a ≤ 8 * (s.size : Int) - n
  · obtain ⟨hr, h0, h1⟩ := hok
    rw [hr] at hc
    have Hc := Lib.hid hc
    clear hc
    have hsb : sameB s.data.toList a t.data.toList n = decide (∀ i, i < n.toNat → B.bitAt s.data.toList (a.toNat + i) = B.bitAt t.data.toList i) := by
      unfold sameB
      rw [hr, decide_eq_true h0, hl, decide_eq_true h1]; rfl
    obtain ⟨n, rfl, hn8⟩ : ∃ m : Nat, n = m ∧ m ≤ 8 * t.size := by
      have := rightB_nat hr
      exact ⟨n.toNat, by omega, by omega⟩
    obtain ⟨a, rfl⟩ := Int.eq_ofNat_of_zero_le h0
    rw [hsb, Int.toNat_natCast, Int.toNat_natCast]
    clear hsb hl hr
    go_enter Try.func24, Try.ntmps24
    go_wp2_with
      (go_at_call 39
       refine (Hc.out _).mono ?_
       rintro e w1 ⟨rfl, hB⟩
       have q0 : w1.cell? ⟨w.heap.size, 0, none⟩ = some (.string t) := (hB.cell (p := ⟨w.heap.size, 0, none⟩) (by simp)).trans (cell_of_heap (heap_alloc_new w _) 0)
       have q1 : w1.cell? ⟨w.heap.size, 1, none⟩ = some (.int .i64 n) := (hB.cell (p := ⟨w.heap.size, 1, none⟩) (by simp)).trans (cell_of_heap (heap_alloc_new w _) 1))
    have hBw : Below w.heap.size w w1 := ((Below.refl _ _).alloc (Nat.le_refl _) _).trans (hB.mono (by simp))
    clear hB
    go_loopw [27] (fun i wr => ∃ k : Nat, k ≤ n ∧ i = .int .i64 k ∧ (∀ j, j < k → B.bitAt s.data.toList (a + j) = B.bitAt t.data.toList j) ∧ wr.cell? ⟨w.heap.size, 0, none⟩ = some (.string t) ∧ Below w.heap.size w wr) (fun i _ => n - (intOf i).toNat)
    case atStart => exact ⟨0, Nat.zero_le _, rfl, fun j h => by omega, q0, hBw⟩
    case round =>
      clear q0 q1 hBw
      obtain ⟨k, hk, rfl, hall, q0, hB⟩ := hrel
      have Hall := Lib.hid hall
      clear hall
      by_cases hlt : k < n
      · have i1 : IntKind.i64.wrap ((a : Int) + k) = (a : Int) + k := IntWalk.i64_in _ (by omega)
        have i2 : 0 ≤ (a : Int) + k := by omega
        have i3 : ((a : Int) + k).toNat = a + k := by omega
        go_wp2
        go_quiet ((go_at_call 40; exact quiet_l (bit_any _ _ _ (by omega) (by omega) (by assumption))))
        go_wp2
        · have hne : (B.bitAt s.data.toList (a + k) != B.bitAt t.data.toList k) = true := by assumption
          go_ret
          refine ⟨ret_bool (decide_eq_false fun h => ?_).symm, below_drewN hB _⟩
          rw [h k hlt] at hne
          simp at hne
        · have hne : (B.bitAt s.data.toList (a + k) != B.bitAt t.data.toList k) = false := by assumption
          go_roundw
          case rel => exact ⟨k + 1, by omega, by go_num, fun j h => (by
            by_cases e : j = k
            · subst e; simpa using hne
            · exact Hall.out j (by omega)), q0, below_drewN hB _⟩
          case measure => simp [intOf]; omega
      · go_wp2
        obtain rfl : k = n := by omega
        go_ret
        exact ⟨ret_bool (decide_eq_true fun i hi => Hall.out i hi).symm, hB⟩
  · have hsb : sameB s.data.toList a t.data.toList n = false := by
      unfold sameB
      rw [hl]
      cases hr : rightB t.data.toList n
      · simp
      · simp only [hr, true_and] at hok
        by_cases h0 : 0 ≤ a
        · have : ¬ a ≤ 8 * (s.size : Int) - n := fun h => hok ⟨h0, h⟩
          rw [decide_eq_false this]; simp
        · rw [decide_eq_false h0]; simp
    rw [hsb]
    clear hsb hl
    cases hr : rightB t.data.toList n with
    | false =>
      rw [hr] at hc
      have Hc := Lib.hid hc
      clear hc hok hr
      go_enter Try.func24, Try.ntmps24
      go_wp2_with (go_at_call 39; refine (Hc.out _).mono ?_; rintro e w' ⟨rfl, hB⟩)
      go_ret
      exact ⟨rfl, ((Below.refl _ _).alloc (Nat.le_refl _) _).trans (hB.mono (by simp))⟩
    | true =>
      rw [hr] at hc
      have Hc := Lib.hid hc
      obtain ⟨hn0, hn8⟩ := rightB_nat hr
      have hok2 : ¬ (0 ≤ a ∧ a ≤ 8 * (s.size : Int) - n) := fun h => hok ⟨hr, h.1, h.2⟩
      clear hc hok hr
      by_cases h0 : a < 0
      · clear hok2
        go_enter Try.func24, Try.ntmps24
        go_wp2_with (go_at_call 39; refine (Hc.out _).mono ?_; rintro e w' ⟨rfl, hB⟩)
        go_ret
        exact ⟨rfl, ((Below.refl _ _).alloc (Nat.le_refl _) _).trans (hB.mono (by simp))⟩
      · have h1 : 8 * (s.size : Int) - n < a := by omega
        clear hok2
        go_enter Try.func24, Try.ntmps24
        go_wp2_with
          (go_at_call 39
           refine (Hc.out _).mono ?_
           rintro e w' ⟨rfl, hB⟩
           have q1 : w'.cell? ⟨w.heap.size, 1, none⟩ = some (.int .i64 n) := (hB.cell (p := ⟨w.heap.size, 1, none⟩) (by simp)).trans (cell_of_heap (heap_alloc_new w _) 1))
        go_ret
        exact ⟨rfl, ((Below.refl _ _).alloc (Nat.le_refl _) _).trans (hB.mono (by simp))⟩

theorem sameB_pack (s : List UInt8) (a : Nat) (l : List Bool) (h : a + l.length ≤ 8 * s.length) (hs : B.slice s a l.length = l) : sameB s a (B.pack l) (l.length : Nat) = true := by
  unfold sameB
  rw [rightB_pack]
  simp only [Bool.true_and, Bool.and_eq_true, decide_eq_true_eq]
  refine ⟨⟨by omega, by omega⟩, fun i hi => ?_⟩
  rw [Int.toNat_natCast] at hi ⊢
  have := B.getD_slice s a l.length i hi
  rw [hs] at this
  rw [B.bitAt_pack, this]
theorem sameB_mid (a b c : List Bool) : sameB (B.pack (a ++ b ++ c)) (a.length : Nat) (B.pack b) (b.length : Nat) = true := by
  have hl : a.length + b.length ≤ (a ++ b ++ c).length := by simp [← Nat.add_assoc]
  refine sameB_pack _ _ _ (Nat.le_trans hl (len8_pack _)) ?_
  rw [B.slice_pack_at _ _ _ hl]
  simp
theorem same_ok (w : World) (a b c l : List Bool) (n : Int) (he : l = a ++ b ++ c) (ha : n = (a.length : Nat)) (hl : l.length < 1099511627776) :
    Calls Try.prog 24 #[.string (txt l), .int .i64 n, .agg #[.string (txt b), .int .i64 (b.length : Nat)]] w fun e w' => e = .returned (.bool true) ∧ Below w.heap.size w w' := by
  have hs := txt_size l
  have hb := txt_size b
  have hbl : b.length ≤ l.length := by rw [he]; simp; omega
  refine (same_any w (txt l) (txt b) n (b.length : Nat) (by omega) (by omega) (by omega) (by omega)).mono fun e w' h => ?_
  rw [txt_list, txt_list, he, ha, sameB_mid] at h
  exact h

end Go.Proofs.Ytkicaimondpceaa
