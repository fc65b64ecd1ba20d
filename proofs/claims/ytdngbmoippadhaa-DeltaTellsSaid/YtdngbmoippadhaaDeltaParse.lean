/- Layer 9: the lengths that stand somewhere: the plain law. -/
import Derived.Test.YtdngbmoippadhaaDeltaLen
namespace Go.Proofs.Ytdngbmoippadhaa
open Go.RowKit
set_option linter.unusedVariables false

abbrev TakeR := Except Int (List Nat × Nat)
abbrev TakeP := Except Int (List Nat × List Bool)
/-- lengths ahead of those that are taken -/
def preE {α : Type} (l : List Nat) : Except Int (List Nat × α) → Except Int (List Nat × α)
  | .error e => .error e
  | .ok (m, x) => .ok (l ++ m, x)
theorem preE_nil {α : Type} (r : Except Int (List Nat × α)) : preE [] r = r := by
  cases r with
  | error e => rfl
  | ok p => rfl
theorem preE_preE {α : Type} (l m : List Nat) (r : Except Int (List Nat × α)) : preE l (preE m r) = preE (l ++ m) r := by
  cases r with
  | error e => rfl
  | ok p => simp [preE]
def takeN (s : List UInt8) : Nat → Nat → Nat → TakeR
  | 0, _, a => .ok ([], a)
  | c + 1, now, a =>
    match lengthR s (8 * s.length + 1) now a with
    | .error e => .error e
    | .ok (m, b) => preE [m] (takeN s c m b)
def takeR (s : List UInt8) (a c : Nat) : TakeR :=
  if 8 * s.length < a + 5 then .error 2
  else if B.num (B.slice s a 5) < 1 ∨ 20 < B.num (B.slice s a 5) then .error 3
  else takeN s c (B.num (B.slice s a 5)) (a + 5)

/-- the next length of a row of bits, and the bits behind it -/
def lenP : Nat → List Bool → Except Int (Nat × List Bool)
  | _, [] => .error 2
  | n, false :: r => .ok (n, r)
  | _, [true] => .error 2
  | n, true :: b :: r => if b then (if 2 ≤ n then lenP (n - 1) r else .error 3) else (if n ≤ 19 then lenP (n + 1) r else .error 3)
def takeP : Nat → Nat → List Bool → TakeP
  | 0, _, l => .ok ([], l)
  | c + 1, now, l =>
    match lenP now l with
    | .error e => .error e
    | .ok (m, r) => preE [m] (takeP c m r)
def deltaP (c : Nat) (l : List Bool) : TakeP :=
  if l.length < 5 then .error 2
  else if B.num (l.take 5) < 1 ∨ 20 < B.num (l.take 5) then .error 3
  else takeP c (B.num (l.take 5)) (l.drop 5)
/-- a text's bits from a place on -/
def rest (s : List UInt8) (a : Nat) : List Bool := B.slice s a (8 * s.length - a)
theorem length_rest (s : List UInt8) (a : Nat) : (rest s a).length = 8 * s.length - a := B.length_slice _ _ _
theorem rest_nil (s : List UInt8) (a : Nat) (h : 8 * s.length ≤ a) : rest s a = [] := List.eq_nil_of_length_eq_zero (by rw [length_rest]; omega)
theorem rest_add (s : List UInt8) (a n : Nat) (h : a + n ≤ 8 * s.length) : rest s a = B.slice s a n ++ rest s (a + n) := by
  unfold rest
  rw [← B.slice_append, show n + (8 * s.length - (a + n)) = 8 * s.length - a by omega]
theorem rest_cons (s : List UInt8) (a : Nat) (h : a < 8 * s.length) : rest s a = B.bitAt s a :: rest s (a + 1) := by
  rw [rest_add s a 1 (by omega)]
  rfl
/-- what a row of bits tells, as a place -/
def placed {α : Type} (n : Nat) : Except Int (α × List Bool) → Except Int (α × Nat)
  | .error e => .error e
  | .ok (m, r) => .ok (m, n - r.length)
theorem lengthR_lenP (s : List UInt8) : ∀ (F n a : Nat), 8 * s.length < a + F → lengthR s F n a = placed (8 * s.length) (lenP n (rest s a)) := by
  intro F
  induction F with
  | zero =>
    intro n a h
    rw [rest_nil s a (by omega)]
    rfl
  | succ F ih =>
    intro n a h
    rw [lengthR]
    by_cases h1 : 8 * s.length < a + 1
    · rw [if_pos h1, rest_nil s a (by omega)]
      rfl
    rw [if_neg h1, rest_cons s a (by omega)]
    cases hb : B.bitAt s a with
    | false =>
      rw [if_pos rfl]
      simp only [lenP, placed, length_rest]
      rw [show 8 * s.length - (8 * s.length - (a + 1)) = a + 1 by omega]
    | true =>
      rw [if_neg (by simp)]
      by_cases h2 : 8 * s.length < a + 1 + 1
      · rw [if_pos h2, rest_nil s (a + 1) (by omega)]
        rfl
      rw [if_neg h2, rest_cons s (a + 1) (by omega)]
      cases hc : B.bitAt s (a + 1) with
      | true =>
        simp only [lenP, if_true]
        by_cases hn : 2 ≤ n
        · rw [if_pos hn, if_pos hn]
          exact ih _ _ (by omega)
        · rw [if_neg hn, if_neg hn]
          rfl
      | false =>
        simp only [lenP, Bool.false_eq_true, if_false]
        by_cases hn : n ≤ 19
        · rw [if_pos hn, if_pos hn]
          exact ih _ _ (by omega)
        · rw [if_neg hn, if_neg hn]
          rfl
/-- what is behind a length is what was behind it -/
theorem lenP_split : ∀ (l : List Bool) (n m : Nat) (r : List Bool), lenP n l = .ok (m, r) → ∃ p, l = p ++ r ∧ (stepB n m).length ≤ p.length ∧ (p.length = (stepB n m).length → p = stepB n m)
  | [], n, m, r, h => by simp [lenP] at h
  | false :: l, n, m, r, h => by
    simp only [lenP, Except.ok.injEq, Prod.mk.injEq] at h
    obtain ⟨rfl, rfl⟩ := h
    refine ⟨[false], rfl, ?_, fun _ => ?_⟩
    · rw [stepB_same]
      simp
    · rw [stepB_same]
  | [true], n, m, r, h => by simp [lenP] at h
  | true :: true :: l, n, m, r, h => by
    simp only [lenP, if_true] at h
    by_cases hn : 2 ≤ n
    · rw [if_pos hn] at h
      obtain ⟨p, hp, h1, h2⟩ := lenP_split l _ _ _ h
      refine ⟨true :: true :: p, by rw [hp]; rfl, ?_, fun he => ?_⟩
      · rw [length_stepB] at h1 ⊢
        simp only [List.length_cons]
        omega
      · rw [length_stepB] at he h1 h2
        simp only [List.length_cons] at he
        rw [stepB_down (by omega), h2 (by omega)]
        rfl
    · rw [if_neg hn] at h
      cases h
  | true :: false :: l, n, m, r, h => by
    simp only [lenP, Bool.false_eq_true, if_false] at h
    by_cases hn : n ≤ 19
    · rw [if_pos hn] at h
      obtain ⟨p, hp, h1, h2⟩ := lenP_split l _ _ _ h
      refine ⟨true :: false :: p, by rw [hp]; rfl, ?_, fun he => ?_⟩
      · rw [length_stepB] at h1 ⊢
        simp only [List.length_cons]
        omega
      · rw [length_stepB] at he h1 h2
        simp only [List.length_cons] at he
        rw [stepB_up (by omega), h2 (by omega)]
        rfl
    · rw [if_neg hn] at h
      cases h
theorem lenP_range : ∀ (l : List Bool) (n m : Nat) (r : List Bool), 1 ≤ n → n ≤ 20 → lenP n l = .ok (m, r) → 1 ≤ m ∧ m ≤ 20
  | [], n, m, r, _, _, h => by simp [lenP] at h
  | false :: l, n, m, r, h1, h2, h => by
    simp only [lenP, Except.ok.injEq, Prod.mk.injEq] at h
    obtain ⟨rfl, rfl⟩ := h
    exact ⟨h1, h2⟩
  | [true], n, m, r, _, _, h => by simp [lenP] at h
  | true :: true :: l, n, m, r, h1, h2, h => by
    simp only [lenP, if_true] at h
    by_cases hn : 2 ≤ n
    · rw [if_pos hn] at h
      exact lenP_range l _ _ _ (by omega) (by omega) h
    · rw [if_neg hn] at h
      cases h
  | true :: false :: l, n, m, r, h1, h2, h => by
    simp only [lenP, Bool.false_eq_true, if_false] at h
    by_cases hn : n ≤ 19
    · rw [if_pos hn] at h
      exact lenP_range l _ _ _ (by omega) (by omega) h
    · rw [if_neg hn] at h
      cases h
theorem lenP_err : ∀ (l : List Bool) (n : Nat) (e : Int), lenP n l = .error e → e = 2 ∨ e = 3
  | [], n, e, h => by simp [lenP] at h; omega
  | false :: l, n, e, h => by simp [lenP] at h
  | [true], n, e, h => by simp [lenP] at h; omega
  | true :: true :: l, n, e, h => by
    simp only [lenP, if_true] at h
    by_cases hn : 2 ≤ n
    · rw [if_pos hn] at h
      exact lenP_err l _ _ h
    · rw [if_neg hn] at h
      injection h with h
      omega
  | true :: false :: l, n, e, h => by
    simp only [lenP, Bool.false_eq_true, if_false] at h
    by_cases hn : n ≤ 19
    · rw [if_pos hn] at h
      exact lenP_err l _ _ h
    · rw [if_neg hn] at h
      injection h with h
      omega
/-- cut off, either the same or too short -/
theorem lenP_cut : ∀ (l q : List Bool) (n m : Nat) (r : List Bool), lenP n (l ++ q) = .ok (m, r) → (∃ r', r = r' ++ q ∧ lenP n l = .ok (m, r')) ∨ (r.length < q.length ∧ lenP n l = .error 2)
  | [], q, n, m, r, h => by
    right
    obtain ⟨p, hp, h1, _⟩ := lenP_split _ _ _ _ h
    rw [List.nil_append] at hp
    refine ⟨?_, rfl⟩
    rw [hp, List.length_append]
    rw [length_stepB] at h1
    omega
  | false :: l, q, n, m, r, h => by
    simp only [List.cons_append, lenP, Except.ok.injEq, Prod.mk.injEq] at h
    obtain ⟨rfl, rfl⟩ := h
    exact .inl ⟨l, rfl, rfl⟩
  | [true], q, n, m, r, h => by
    right
    obtain ⟨p, hp, h1, _⟩ := lenP_split _ _ _ _ h
    refine ⟨?_, rfl⟩
    have := congrArg List.length hp
    simp only [List.length_append, List.length_cons, List.length_nil] at this
    rw [length_stepB] at h1
    cases q with
    | nil => simp [lenP] at h
    | cons b q =>
      have h3 : ∃ p', p = true :: p' := by
        cases p with
        | nil => simp at h1
        | cons x p =>
          simp only [List.cons_append, List.nil_append, List.cons.injEq] at hp
          exact ⟨p, by rw [← hp.1]⟩
      obtain ⟨p', rfl⟩ := h3
      cases p' with
      | nil =>
        simp only [List.cons_append, List.nil_append, List.cons.injEq, true_and] at hp
        subst hp
        simp only [List.cons_append, List.nil_append] at h
        cases b with
        | true =>
          simp only [lenP, if_true] at h
          by_cases hn : 2 ≤ n
          · rw [if_pos hn] at h
            obtain ⟨p2, hp2, h12, _⟩ := lenP_split _ _ _ _ h
            have := congrArg List.length hp2
            simp only [List.length_append, List.length_cons] at this
            omega
          · rw [if_neg hn] at h
            cases h
        | false =>
          simp only [lenP, Bool.false_eq_true, if_false] at h
          by_cases hn : n ≤ 19
          · rw [if_pos hn] at h
            obtain ⟨p2, hp2, h12, _⟩ := lenP_split _ _ _ _ h
            have := congrArg List.length hp2
            simp only [List.length_append, List.length_cons] at this
            omega
          · rw [if_neg hn] at h
            cases h
      | cons y p' =>
        simp only [List.length_cons] at this ⊢
        omega
  | true :: true :: l, q, n, m, r, h => by
    simp only [List.cons_append, lenP, if_true] at h ⊢
    by_cases hn : 2 ≤ n
    · rw [if_pos hn] at h ⊢
      exact lenP_cut l q _ _ _ h
    · rw [if_neg hn] at h
      cases h
  | true :: false :: l, q, n, m, r, h => by
    simp only [List.cons_append, lenP, Bool.false_eq_true, if_false] at h ⊢
    by_cases hn : n ≤ 19
    · rw [if_pos hn] at h ⊢
      exact lenP_cut l q _ _ _ h
    · rw [if_neg hn] at h
      cases h
theorem lenP_step (d : Nat) : ∀ (now n : Nat) (r : List Bool), (n - now) + (now - n) = d → 1 ≤ now → now ≤ 20 → 1 ≤ n → n ≤ 20 → lenP now (stepB now n ++ r) = .ok (n, r) := by
  induction d with
  | zero =>
    intro now n r hd _ _ _ _
    obtain rfl : now = n := by omega
    rw [stepB_same]
    rfl
  | succ d ih =>
    intro now n r hd h1 h2 h3 h4
    by_cases h : now < n
    · rw [stepB_up h]
      simp only [List.cons_append, List.nil_append, lenP, Bool.false_eq_true, if_false]
      rw [if_pos (by omega)]
      exact ih _ _ _ (by omega) (by omega) (by omega) h3 h4
    · rw [stepB_down (by omega)]
      simp only [List.cons_append, List.nil_append, lenP, if_true]
      rw [if_pos (by omega)]
      exact ih _ _ _ (by omega) (by omega) (by omega) h3 h4
theorem takeN_takeP (s : List UInt8) : ∀ (c now a : Nat), a ≤ 8 * s.length → takeN s c now a = placed (8 * s.length) (takeP c now (rest s a)) := by
  intro c
  induction c with
  | zero =>
    intro now a h
    simp only [takeN, takeP, placed, length_rest]
    rw [show 8 * s.length - (8 * s.length - a) = a by omega]
  | succ c ih =>
    intro now a h
    rw [takeN, takeP, lengthR_lenP s _ _ _ (by omega)]
    cases hl : lenP now (rest s a) with
    | error e => rfl
    | ok p =>
      obtain ⟨m, r⟩ := p
      obtain ⟨p, hp, _, _⟩ := lenP_split _ _ _ _ hl
      have hlen := congrArg List.length hp
      rw [length_rest, List.length_append] at hlen
      have hr : r = rest s (8 * s.length - r.length) := by
        have h1 := rest_add s a p.length (by omega)
        rw [h1] at hp
        have h2 := (List.append_inj hp (by rw [B.length_slice])).2
        rw [← h2]
        congr 1
        rw [length_rest]
        omega
      simp only [placed]
      rw [ih m (8 * s.length - r.length) (by omega), ← hr]
      cases takeP c m r with
      | error e => rfl
      | ok q => rfl
theorem takeR_deltaP (s : List UInt8) (a c : Nat) (h : a ≤ 8 * s.length) : takeR s a c = placed (8 * s.length) (deltaP c (rest s a)) := by
  unfold takeR deltaP
  rw [length_rest]
  by_cases h1 : 8 * s.length < a + 5
  · have h1' : 8 * s.length - a < 5 := by omega
    rw [if_pos h1, if_pos h1']
    rfl
  have h1' : ¬ 8 * s.length - a < 5 := by omega
  rw [if_neg h1, if_neg h1']
  have h2 := rest_add s a 5 (by omega)
  have h3 : (rest s a).take 5 = B.slice s a 5 := by
    rw [h2, List.take_append_of_le_length (by rw [B.length_slice]; omega), List.take_of_length_le (by rw [B.length_slice]; omega)]
  have h4 : (rest s a).drop 5 = rest s (a + 5) := by
    rw [h2, List.drop_append_of_le_length (by rw [B.length_slice]; omega), List.drop_of_length_le (by rw [B.length_slice]; omega), List.nil_append]
  rw [h3, h4]
  by_cases h5 : B.num (B.slice s a 5) < 1 ∨ 20 < B.num (B.slice s a 5)
  · rw [if_pos h5, if_pos h5]
    rfl
  · rw [if_neg h5, if_neg h5]
    exact takeN_takeP s _ _ _ (by omega)
theorem takeR_past (s : List UInt8) (a c : Nat) (h : 8 * s.length < a) : takeR s a c = .error 2 := by
  unfold takeR
  rw [if_pos (by omega)]
theorem takeP_split (c : Nat) : ∀ (now : Nat) (b : List Bool) (l : List Nat) (r : List Bool), takeP c now b = .ok (l, r) →
    l.length = c ∧ (1 ≤ now → now ≤ 20 → ∀ n ∈ l, 1 ≤ n ∧ n ≤ 20) ∧ ∃ p, b = p ++ r ∧ (rowsB now l).length ≤ p.length ∧ (p.length = (rowsB now l).length → p = rowsB now l) := by
  induction c with
  | zero =>
    intro now b l r h
    simp only [takeP, Except.ok.injEq, Prod.mk.injEq] at h
    obtain ⟨rfl, rfl⟩ := h
    exact ⟨rfl, fun _ _ n hn => by simp at hn, [], rfl, by simp [rowsB], fun _ => rfl⟩
  | succ c ih =>
    intro now b l r h
    rw [takeP] at h
    cases hl : lenP now b with
    | error e => rw [hl] at h; cases h
    | ok q =>
      obtain ⟨m, r1⟩ := q
      rw [hl] at h
      simp only at h
      cases ht : takeP c m r1 with
      | error e => rw [ht] at h; cases h
      | ok q =>
        obtain ⟨l1, r2⟩ := q
        rw [ht] at h
        simp only [preE, Except.ok.injEq, Prod.mk.injEq] at h
        obtain ⟨rfl, rfl⟩ := h
        obtain ⟨h1, h2, p, hp, h3, h4⟩ := ih _ _ _ _ ht
        obtain ⟨q, hq, g3, g4⟩ := lenP_split _ _ _ _ hl
        refine ⟨by simp [h1], fun k1 k2 n hn => ?_, q ++ p, by rw [hq, hp, List.append_assoc], ?_, fun he => ?_⟩
        · have := lenP_range _ _ _ _ k1 k2 hl
          rcases List.mem_append.1 hn with hn | hn
          · simp only [List.mem_singleton] at hn
            subst hn
            exact this
          · exact h2 this.1 this.2 n hn
        · simp only [List.singleton_append, rowsB, List.length_append]
          omega
        · simp only [List.singleton_append, rowsB, List.length_append] at he ⊢
          rw [g4 (by omega), h4 (by omega)]
theorem takeP_err (c : Nat) : ∀ (now : Nat) (b : List Bool) (e : Int), takeP c now b = .error e → e = 2 ∨ e = 3 := by
  induction c with
  | zero => intro now b e h; simp [takeP] at h
  | succ c ih =>
    intro now b e h
    rw [takeP] at h
    cases hl : lenP now b with
    | error e' =>
      rw [hl] at h
      simp only [Except.error.injEq] at h
      subst h
      exact lenP_err _ _ _ hl
    | ok q =>
      obtain ⟨m, r1⟩ := q
      rw [hl] at h
      simp only at h
      cases ht : takeP c m r1 with
      | error e' =>
        rw [ht] at h
        simp only [preE, Except.error.injEq] at h
        subst h
        exact ih _ _ _ ht
      | ok q => rw [ht] at h; cases h
/-- with more asked for -/
theorem takeP_add (c d : Nat) : ∀ (now : Nat) (b : List Bool), (∀ e, takeP c now b = .error e → takeP (c + d) now b = .error e) ∧
    (∀ l r, takeP c now b = .ok (l, r) → ∃ m, takeP (c + d) now b = preE l (takeP d m r)) := by
  induction c with
  | zero =>
    intro now b
    refine ⟨fun e h => by simp [takeP] at h, fun l r h => ?_⟩
    simp only [takeP, Except.ok.injEq, Prod.mk.injEq] at h
    obtain ⟨rfl, rfl⟩ := h
    exact ⟨now, by rw [Nat.zero_add, preE_nil]⟩
  | succ c ih =>
    intro now b
    rw [show c + 1 + d = (c + d) + 1 by omega, takeP, takeP]
    cases hl : lenP now b with
    | error e => exact ⟨fun e' h => h, fun l r h => by cases h⟩
    | ok q =>
      obtain ⟨m, r1⟩ := q
      simp only
      obtain ⟨h1, h2⟩ := ih m r1
      cases ht : takeP c m r1 with
      | error e =>
        rw [h1 e ht]
        exact ⟨fun e' h => h, fun l r h => by cases h⟩
      | ok q =>
        obtain ⟨l1, r2⟩ := q
        obtain ⟨k, hk⟩ := h2 _ _ ht
        refine ⟨(fun e' h => by cases h), fun l r h => ?_⟩
        simp only [preE, Except.ok.injEq, Prod.mk.injEq] at h
        obtain ⟨rfl, rfl⟩ := h
        exact ⟨k, by rw [hk, preE_preE]⟩
theorem takeP_cut (c : Nat) : ∀ (now : Nat) (b q : List Bool) (l : List Nat) (r : List Bool), takeP c now (b ++ q) = .ok (l, r) → (∃ r', r = r' ++ q ∧ takeP c now b = .ok (l, r')) ∨ (r.length < q.length ∧ takeP c now b = .error 2) := by
  induction c with
  | zero =>
    intro now b q l r h
    simp only [takeP, Except.ok.injEq, Prod.mk.injEq] at h
    obtain ⟨rfl, rfl⟩ := h
    exact .inl ⟨b, rfl, rfl⟩
  | succ c ih =>
    intro now b q l r h
    rw [takeP] at h ⊢
    cases hl : lenP now (b ++ q) with
    | error e => rw [hl] at h; cases h
    | ok z =>
      obtain ⟨m, r1⟩ := z
      rw [hl] at h
      simp only at h
      cases ht : takeP c m r1 with
      | error e => rw [ht] at h; cases h
      | ok z =>
        obtain ⟨l1, r2⟩ := z
        rw [ht] at h
        simp only [preE, Except.ok.injEq, Prod.mk.injEq] at h
        obtain ⟨rfl, rfl⟩ := h
        rcases lenP_cut _ _ _ _ _ hl with ⟨r', rfl, h1⟩ | ⟨h1, h2⟩
        · rw [h1]
          simp only
          rcases ih _ _ _ _ _ ht with ⟨r3, rfl, h3⟩ | ⟨h3, h4⟩
          · exact .inl ⟨r3, rfl, by rw [h3]; rfl⟩
          · exact .inr ⟨h3, by rw [h4]; rfl⟩
        · rw [h2]
          obtain ⟨_, _, p, hp, _, _⟩ := takeP_split _ _ _ _ _ ht
          have := congrArg List.length hp
          rw [List.length_append] at this
          exact .inr ⟨by omega, rfl⟩
theorem takeP_rows (l : List Nat) : ∀ (now : Nat) (r : List Bool), 1 ≤ now → now ≤ 20 → (∀ n ∈ l, 1 ≤ n ∧ n ≤ 20) → takeP l.length now (rowsB now l ++ r) = .ok (l, r) := by
  induction l with
  | nil => intro now r _ _ _; rfl
  | cons n l ih =>
    intro now r h1 h2 h
    have hn := h n (by simp)
    rw [rowsB, List.length_cons, takeP, List.append_assoc, lenP_step _ now n _ rfl h1 h2 hn.1 hn.2]
    simp only
    rw [ih n r hn.1 hn.2 fun m hm => h m (by simp [hm])]
    rfl
theorem num_low5 (n : Nat) (h : n ≤ 20) : B.num (B.low n 5) = n := by
  rw [B.num_low, Nat.mod_eq_of_lt (by omega)]
/-- what was put is taken -/
theorem deltaP_deltaL (l : List Nat) (r : List Bool) (h0 : l ≠ []) (h : ∀ n ∈ l, 1 ≤ n ∧ n ≤ 20) : deltaP l.length (deltaL l ++ r) = .ok (l, r) := by
  have hh : 1 ≤ l.headD 0 ∧ l.headD 0 ≤ 20 := by
    cases l with
    | nil => simp at h0
    | cons a l => exact h a (by simp)
  unfold deltaP deltaL
  have h5 : (B.low (l.headD 0) 5 ++ rowsB (l.headD 0) l ++ r).take 5 = B.low (l.headD 0) 5 := by
    rw [List.append_assoc, List.take_append_of_le_length (by rw [B.length_low]; omega), List.take_of_length_le (by rw [B.length_low]; omega)]
  have h6 : (B.low (l.headD 0) 5 ++ rowsB (l.headD 0) l ++ r).drop 5 = rowsB (l.headD 0) l ++ r := by
    rw [List.append_assoc, List.drop_append_of_le_length (by rw [B.length_low]; omega), List.drop_of_length_le (by rw [B.length_low]; omega), List.nil_append]
  rw [if_neg (by simp only [List.length_append, B.length_low]; omega), h5, h6, num_low5 _ hh.2, if_neg (by omega)]
  exact takeP_rows l _ r hh.1 hh.2 h
theorem deltaP_cut (c : Nat) (b q : List Bool) (l : List Nat) (r : List Bool) (h : deltaP c (b ++ q) = .ok (l, r)) : (∃ r', r = r' ++ q ∧ deltaP c b = .ok (l, r')) ∨ (r.length < q.length ∧ deltaP c b = .error 2) := by
  unfold deltaP at h ⊢
  by_cases h1 : (b ++ q).length < 5
  · rw [if_pos h1] at h; cases h
  rw [if_neg h1] at h
  by_cases h2 : b.length < 5
  · rw [if_pos h2]
    right
    refine ⟨?_, rfl⟩
    by_cases h3 : B.num ((b ++ q).take 5) < 1 ∨ 20 < B.num ((b ++ q).take 5)
    · rw [if_pos h3] at h; cases h
    rw [if_neg h3] at h
    obtain ⟨_, _, p, hp, _, _⟩ := takeP_split _ _ _ _ _ h
    have := congrArg List.length hp
    simp only [List.length_append, List.length_drop] at this h1
    omega
  · have e1 : (b ++ q).take 5 = b.take 5 := List.take_append_of_le_length (by omega)
    have e2 : (b ++ q).drop 5 = b.drop 5 ++ q := List.drop_append_of_le_length (by omega)
    rw [e1, e2] at h
    rw [if_neg h2]
    by_cases h3 : B.num (b.take 5) < 1 ∨ 20 < B.num (b.take 5)
    · rw [if_pos h3] at h; cases h
    rw [if_neg h3] at h ⊢
    exact takeP_cut _ _ _ _ _ _ h
theorem rowsB_head (c now : Nat) (b : List Bool) (l : List Nat) (r : List Bool) (hc : 0 < c) (h1 : 1 ≤ now) (h2 : now ≤ 20) (h : takeP c now b = .ok (l, r)) :
    ∃ p, b = p ++ r ∧ (rowsB (l.headD 0) l).length ≤ p.length ∧ (rowsB now l).length ≤ p.length ∧ (p.length = (rowsB now l).length → p = rowsB now l) ∧ (p.length = (rowsB (l.headD 0) l).length → l.headD 0 = now) := by
  obtain ⟨hl, hr, p, hp, h3, h4⟩ := takeP_split c now b l r h
  refine ⟨p, hp, ?_, h3, h4, fun he => ?_⟩
  all_goals
    cases l with
    | nil => simp at hl; omega
    | cons a l =>
      simp only [List.headD_cons, rowsB, List.length_append, length_stepB] at *
      omega
/-- what is taken has, put again, no more bits than were read; and these, if as many -/
theorem deltaP_short (c : Nat) (b : List Bool) (l : List Nat) (r : List Bool) (hc : 0 < c) (h : deltaP c b = .ok (l, r)) :
    l.length = c ∧ (∀ n ∈ l, 1 ≤ n ∧ n ≤ 20) ∧ ∃ p, b = p ++ r ∧ (deltaL l).length ≤ p.length ∧ (p.length = (deltaL l).length → p = deltaL l) := by
  unfold deltaP at h
  by_cases h1 : b.length < 5
  · rw [if_pos h1] at h; cases h
  rw [if_neg h1] at h
  by_cases h3 : B.num (b.take 5) < 1 ∨ 20 < B.num (b.take 5)
  · rw [if_pos h3] at h; cases h
  rw [if_neg h3] at h
  obtain ⟨g1, g2, _⟩ := takeP_split _ _ _ _ _ h
  obtain ⟨p, hp, k1, k2, k3, k4⟩ := rowsB_head c _ _ l r hc (by omega) (by omega) h
  refine ⟨g1, g2 (by omega) (by omega), b.take 5 ++ p, by rw [List.append_assoc, ← hp, List.take_append_drop], ?_, fun he => ?_⟩
  · unfold deltaL
    simp only [List.length_append, B.length_low, List.length_take]
    omega
  · unfold deltaL at he ⊢
    simp only [List.length_append, B.length_low, List.length_take] at he
    have h5 := k4 (by omega)
    rw [h5] at he ⊢
    rw [k3 (by omega)]
    congr 1
    have := B.low_num (b.take 5)
    rw [show (b.take 5).length = 5 by rw [List.length_take]; omega] at this
    exact this.symm
theorem deltaP_err (c : Nat) (b : List Bool) (e : Int) (h : deltaP c b = .error e) : e = 2 ∨ e = 3 := by
  unfold deltaP at h
  by_cases h1 : b.length < 5
  · rw [if_pos h1] at h
    injection h with h
    omega
  rw [if_neg h1] at h
  by_cases h3 : B.num (b.take 5) < 1 ∨ 20 < B.num (b.take 5)
  · rw [if_pos h3] at h
    injection h with h
    omega
  rw [if_neg h3] at h
  exact takeP_err _ _ _ _ h
theorem deltaP_add (c d : Nat) (b : List Bool) : (∀ e, deltaP c b = .error e → deltaP (c + d) b = .error e) ∧
    (∀ l r, deltaP c b = .ok (l, r) → ∃ m, deltaP (c + d) b = preE l (takeP d m r)) := by
  unfold deltaP
  by_cases h1 : b.length < 5
  · rw [if_pos h1, if_pos h1]
    exact ⟨fun e h => h, fun l r h => by cases h⟩
  rw [if_neg h1, if_neg h1]
  by_cases h3 : B.num (b.take 5) < 1 ∨ 20 < B.num (b.take 5)
  · rw [if_pos h3, if_pos h3]
    exact ⟨fun e h => h, fun l r h => by cases h⟩
  rw [if_neg h3, if_neg h3]
  exact takeP_add c d _ _
theorem deltaL_inj {l m : List Nat} (hl : l ≠ []) (hm : m ≠ []) (h1 : ∀ n ∈ l, 1 ≤ n ∧ n ≤ 20) (h2 : ∀ n ∈ m, 1 ≤ n ∧ n ≤ 20) (hc : l.length = m.length) (h : deltaL l = deltaL m) : l = m := by
  have a := deltaP_deltaL l [] hl h1
  have b := deltaP_deltaL m [] hm h2
  rw [h, hc, b] at a
  injection a with a
  exact (Prod.mk.inj a).1.symm
end Go.Proofs.Ytdngbmoippadhaa
