/- Where a pattern stands, plainly. -/
import Derived.Test.YtbanageccecmnaaAwake02
namespace Go.Proofs.Ytbanageccecmnaa
open Go.RowKit
set_option linter.unusedVariables false

/-- the places from f on below c where h holds -/
def plc (h : Nat → Bool) (c f : Nat) : List Nat := (List.range' f (c - f)).filter h
theorem plc_ge {h : Nat → Bool} {c f : Nat} (hf : c ≤ f) : plc h c f = [] := by
  unfold plc; rw [show c - f = 0 by omega]; rfl
theorem plc_yes {h : Nat → Bool} {c f : Nat} (hf : f < c) (hh : h f = true) : plc h c f = f :: plc h c (f + 1) := by
  unfold plc
  rw [show c - f = (c - (f + 1)) + 1 by omega, List.range'_succ, List.filter_cons, if_pos hh]
theorem plc_no {h : Nat → Bool} {c f : Nat} (hh : f < c → h f = false) : plc h c f = plc h c (f + 1) := by
  rcases Nat.lt_or_ge f c with hf | hf
  · unfold plc
    rw [show c - f = (c - (f + 1)) + 1 by omega, List.range'_succ, List.filter_cons, if_neg (by simp [hh hf])]
  · rw [plc_ge hf, plc_ge (by omega)]
theorem plc_cons {h : Nat → Bool} {c a : Nat} {r : List Nat} : ∀ {f : Nat}, plc h c f = a :: r → f ≤ a ∧ a < c ∧ h a = true ∧ r = plc h c (a + 1) := by
  intro f
  induction k : c - f generalizing f with
  | zero => intro e; rw [plc_ge (by omega)] at e; cases e
  | succ k ih =>
    intro e
    cases hh : h f with
    | true =>
      rw [plc_yes (by omega) hh] at e
      injection e with e1 e2
      subst e1
      exact ⟨Nat.le_refl _, by omega, hh, e2.symm⟩
    | false =>
      rw [plc_no fun _ => hh] at e
      obtain ⟨h1, h2⟩ := ih (f := f + 1) (by omega) e
      exact ⟨by omega, h2⟩
theorem plc_len {h : Nat → Bool} {c f : Nat} : (plc h c f).length ≤ c - f := by
  unfold plc
  exact Nat.le_trans (List.length_filter_le _ _) (by simp)
/-- how many places there are -/
def cntOf (L n : Nat) : Nat := 8 * L + 1 - n
/-- does the pattern stand at a place -/
def at_ (s : List UInt8) (m n a : Nat) : Bool := B.num (B.slice s a n) == m % 2 ^ n
theorem wins_range' (s : List UInt8) (f n c : Nat) : wins s f n c = (List.range' f c).map fun a => (a, B.num (B.slice s a n)) := by
  unfold wins
  rw [List.range'_eq_map_range, List.map_map]
  rfl
theorem sel_range' (s : List UInt8) (m n : Nat) : ∀ l : List Nat, sel m (n : Int) (l.map fun a => (a, B.num (B.slice s a n))) = (l.filter (at_ s m n)).map fun a : Nat => (a : Int) := by
  intro l
  induction l with
  | nil => rfl
  | cons a l ih =>
    unfold sel at ih ⊢
    simp only [List.map_cons, List.filter_cons]
    rw [show hit m (n : Int) (a, B.num (B.slice s a n)) = at_ s m n a by unfold hit at_; rw [Int.toNat_natCast]]
    cases at_ s m n a <;> simp [ih]
theorem winsOf_nat (s : List UInt8) (f n : Nat) (h1 : 1 ≤ n) (h2 : n ≤ 64) : winsOf s f n = (List.range' f (cntOf s.length n - f)).map fun a => (a, B.num (B.slice s a n)) := by
  unfold winsOf winCnt cntOf
  rw [if_pos (by omega), wins_range', Int.toNat_natCast, Int.toNat_natCast, show 8 * s.length + 1 - (f + n) = 8 * s.length + 1 - n - f by omega]
theorem allL_nat (s : List UInt8) (m n : Nat) (h1 : 1 ≤ n) (h2 : n ≤ 64) : allL s m n = (plc (at_ s m n) (cntOf s.length n) 0).map fun a : Nat => (a : Int) := by
  unfold allL
  have := winsOf_nat s 0 n h1 h2
  rw [show winsOf s 0 (n : Int) = winsOf s ((0 : Nat) : Int) n from rfl, this, sel_range']
  rfl
/-- the first of them, or -1 -/
def headI : List Nat → Int
  | [] => -1
  | a :: _ => (a : Int)
theorem findV_nat (s : List UInt8) (m n f : Nat) (h1 : 1 ≤ n) (h2 : n ≤ 64) : findV m n (winsOf s f n) = headI (plc (at_ s m n) (cntOf s.length n) f) := by
  rw [winsOf_nat s f n h1 h2]
  unfold plc
  generalize List.range' f (cntOf s.length n - f) = l
  induction l with
  | nil => rfl
  | cons a l ih =>
    unfold findV at ih ⊢
    simp only [List.map_cons, List.find?_cons, List.filter_cons]
    rw [show hit m (n : Int) (a, B.num (B.slice s a n)) = at_ s m n a by unfold hit at_; rw [Int.toNat_natCast]]
    cases at_ s m n a with
    | true => rfl
    | false => exact ih
theorem matchV_nat (s : List UInt8) (m n i : Nat) (h1 : 1 ≤ n) (h2 : n ≤ 64) : matchV s i m n = (decide (i < cntOf s.length n) && at_ s m n i) := by
  unfold matchV
  rw [winsOf_nat s i n h1 h2]
  rcases Nat.lt_or_ge i (cntOf s.length n) with h | h
  · rw [show cntOf s.length n - i = (cntOf s.length n - (i + 1)) + 1 by omega, List.range'_succ, List.map_cons, decide_eq_true h, show decide ((i : Int) < 0) = false by simp]
    show (!false && hit m (n : Int) (i, B.num (B.slice s i n))) = _
    rw [show hit m (n : Int) (i, B.num (B.slice s i n)) = at_ s m n i by unfold hit at_; rw [Int.toNat_natCast]]
    rfl
  · rw [show cntOf s.length n - i = 0 by omega, show decide (i < cntOf s.length n) = false by rw [decide_eq_false_iff_not]; omega]
    simp only [List.range'_zero, List.map_nil, headV, Bool.and_false, Bool.false_and]
end Go.Proofs.Ytbanageccecmnaa
