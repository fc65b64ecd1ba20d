/- Plain facts on bits of texts: no program. -/
namespace Go.Proofs.Ytodniacnjdnffaa.B

theorem snocRec {α : Type} {motive : List α → Prop} (nil : motive []) (snoc : ∀ l b, motive l → motive (l ++ [b])) (l : List α) : motive l := by
  rw [← List.reverse_reverse l]
  generalize l.reverse = m
  induction m with
  | nil => exact nil
  | cons b m ih => rw [List.reverse_cons]; exact snoc _ _ ih

/-- the bit of a text at a place, the highest bit of each byte first -/
def bitAt (s : List UInt8) (i : Nat) : Bool := (s.getD (i / 8) 0).toNat.testBit (7 - i % 8)
/-- the number that bits are -/
def num (l : List Bool) : Nat := l.foldl (fun a b => 2 * a + b.toNat) 0
/-- the bits of a text from a place on -/
def slice (s : List UInt8) (at_ n : Nat) : List Bool := (List.range n).map fun i => bitAt s (at_ + i)
/-- the lowest bits of a number -/
def low (v n : Nat) : List Bool := (List.range n).map fun i => v.testBit (n - 1 - i)
/-- one bit more behind n bits -/
def setLast (s : List UInt8) (m : UInt8) : List UInt8 := s.modify (s.length - 1) (· ||| m)
def grow (s : List UInt8) (n : Nat) : List UInt8 := if n % 8 = 0 then s ++ [0] else s
def step (s : List UInt8) (n : Nat) (b : Bool) : List UInt8 :=
  if b then setLast (grow s n) (UInt8.ofNat (128 >>> (n % 8))) else grow s n
def packs (l : List Bool) : List UInt8 × Nat := l.foldl (fun p b => (step p.1 p.2 b, p.2 + 1)) ([], 0)
def pack (l : List Bool) : List UInt8 := (packs l).1

theorem packs_snd (l : List Bool) : (packs l).2 = l.length := by
  unfold packs
  suffices h : ∀ (l : List Bool) (p : List UInt8 × Nat), (l.foldl (fun p b => (step p.1 p.2 b, p.2 + 1)) p).2 = p.2 + l.length by simpa using h l ([], 0)
  intro l
  induction l with
  | nil => intro p; simp
  | cons b l ih => intro p; simp [ih]; omega

theorem pack_nil : pack [] = [] := rfl
theorem pack_snoc (l : List Bool) (b : Bool) : pack (l ++ [b]) = step (pack l) l.length b := by
  unfold pack
  have : packs (l ++ [b]) = (step (packs l).1 (packs l).2 b, (packs l).2 + 1) := by simp [packs]
  rw [this, packs_snd]

theorem length_setLast (s : List UInt8) (m : UInt8) : (setLast s m).length = s.length := by simp [setLast]
theorem length_grow (s : List UInt8) (n : Nat) : (grow s n).length = s.length + if n % 8 = 0 then 1 else 0 := by
  unfold grow; split <;> simp
theorem length_step (s : List UInt8) (n : Nat) (b : Bool) : (step s n b).length = s.length + if n % 8 = 0 then 1 else 0 := by
  unfold step; split
  · rw [length_setLast, length_grow]
  · rw [length_grow]

theorem length_pack (l : List Bool) : (pack l).length = (l.length + 7) / 8 := by
  induction l using snocRec with
  | nil => rfl
  | snoc l b ih =>
    rw [pack_snoc, length_step, ih]
    simp only [List.length_append, List.length_cons, List.length_nil]
    split <;> omega

theorem getD_append_zero (s : List UInt8) (j : Nat) : (s ++ [0]).getD j 0 = s.getD j 0 := by
  simp only [List.getD_eq_getElem?_getD, List.getElem?_append]
  split
  · rfl
  · rename_i h
    rw [List.getElem?_eq_none (l := s) (by omega)]
    by_cases hj : j - s.length = 0
    · rw [hj]; rfl
    · rw [List.getElem?_eq_none (by simp; omega)]

theorem bitAt_grow (s : List UInt8) (n i : Nat) : bitAt (grow s n) i = bitAt s i := by
  unfold grow bitAt
  split
  · rw [getD_append_zero]
  · rfl

theorem mask_toNat (r : Nat) (h : r < 8) : (UInt8.ofNat (128 >>> r)).toNat = 2 ^ (7 - r) := by
  have : ∀ r : Fin 8, (UInt8.ofNat (128 >>> r.val)).toNat = 2 ^ (7 - r.val) := by decide +kernel
  exact this ⟨r, h⟩

theorem bitAt_setLast (s : List UInt8) (n i : Nat) (hl : s.length = n / 8 + 1) :
    bitAt (setLast s (UInt8.ofNat (128 >>> (n % 8)))) i = (bitAt s i || decide (i = n)) := by
  unfold setLast bitAt
  simp only [List.getD_eq_getElem?_getD, List.getElem?_modify, hl, Nat.add_sub_cancel]
  by_cases h : n / 8 = i / 8
  · have hi : s[i / 8]? = some (s[i / 8]'(by omega)) := List.getElem?_eq_getElem (by omega)
    rw [hi]
    simp only [Option.map_eq_map, if_pos h, Option.map_some, Option.getD_some, UInt8.toNat_or, Nat.testBit_or, mask_toNat _ (Nat.mod_lt n (by omega) : n % 8 < 8), Nat.testBit_two_pow]
    congr 1
    rw [Bool.eq_iff_iff]
    simp only [decide_eq_true_eq]
    have := Nat.mod_lt n (show 8 > 0 by omega)
    have := Nat.mod_lt i (show 8 > 0 by omega)
    omega
  · have : decide (i = n) = false := by simp; omega
    rw [this, Bool.or_false]
    simp only [if_neg h]
    cases s[i / 8]? <;> rfl

theorem bitAt_step (s : List UInt8) (n i : Nat) (b : Bool) (hl : s.length = (n + 7) / 8) (hc : bitAt s n = false) :
    bitAt (step s n b) i = if i = n then b else bitAt s i := by
  unfold step
  have hg : (grow s n).length = n / 8 + 1 := by rw [length_grow, hl]; split <;> omega
  cases b with
  | true =>
    rw [if_pos rfl, bitAt_setLast _ _ _ hg, bitAt_grow]
    by_cases h : i = n <;> simp [h]
  | false =>
    rw [if_neg (by simp), bitAt_grow]
    by_cases h : i = n
    · subst h; simp [hc]
    · simp [h]

theorem bitAt_pack (l : List Bool) (i : Nat) : bitAt (pack l) i = l.getD i false := by
  induction l using snocRec generalizing i with
  | nil => simp [pack_nil, bitAt]
  | snoc l b ih =>
    rw [pack_snoc, bitAt_step _ _ _ _ (length_pack l) (by rw [ih]; simp)]
    simp only [List.getD_eq_getElem?_getD, List.getElem?_append]
    by_cases h : i = l.length
    · subst h; simp
    · rw [if_neg h, ih]
      split
      · simp [List.getD_eq_getElem?_getD]
      · simp only [List.getD_eq_getElem?_getD]
        rw [List.getElem?_eq_none (l := l) (by omega), List.getElem?_eq_none (by simp; omega)]

theorem byte_ext (a b : UInt8) (h : ∀ j, j < 8 → a.toNat.testBit j = b.toNat.testBit j) : a = b := by
  apply UInt8.toNat_inj.1
  apply Nat.eq_of_testBit_eq
  intro j
  by_cases hj : j < 8
  · exact h j hj
  · rw [Nat.testBit_lt_two_pow (Nat.lt_of_lt_of_le a.toNat_lt (Nat.pow_le_pow_right (by omega) (show 8 ≤ j by omega))), Nat.testBit_lt_two_pow (Nat.lt_of_lt_of_le b.toNat_lt (Nat.pow_le_pow_right (by omega) (show 8 ≤ j by omega)))]

theorem text_ext (s t : List UInt8) (hl : s.length = t.length) (h : ∀ i, i < 8 * s.length → bitAt s i = bitAt t i) : s = t := by
  apply List.ext_getElem hl
  intro k h1 h2
  apply byte_ext
  intro j hj
  have := h (8 * k + (7 - j)) (by omega)
  unfold bitAt at this
  rw [show (8 * k + (7 - j)) / 8 = k by omega, show 7 - (8 * k + (7 - j)) % 8 = j by omega] at this
  simpa [List.getD_eq_getElem?_getD, List.getElem?_eq_getElem h1, List.getElem?_eq_getElem h2] using this

/-- bits that may be -/
def Right (s : List UInt8) (n : Nat) : Prop := s.length = (n + 7) / 8 ∧ ∀ i, n ≤ i → i < 8 * s.length → bitAt s i = false

theorem length_slice (s : List UInt8) (a n : Nat) : (slice s a n).length = n := by simp [slice]
theorem getD_slice (s : List UInt8) (a n i : Nat) (h : i < n) : (slice s a n).getD i false = bitAt s (a + i) := by
  simp [slice, List.getD_eq_getElem?_getD, h]
theorem right_pack (l : List Bool) : Right (pack l) l.length :=
  ⟨length_pack l, fun i h _ => by rw [bitAt_pack, List.getD_eq_getElem?_getD, List.getElem?_eq_none h]; rfl⟩
theorem pack_slice {s : List UInt8} {n : Nat} (h : Right s n) : pack (slice s 0 n) = s := by
  apply text_ext
  · rw [length_pack, length_slice, h.1]
  · intro i hi
    rw [length_pack, length_slice, ← h.1] at hi
    rw [bitAt_pack]
    by_cases hin : i < n
    · rw [getD_slice _ _ _ _ hin, Nat.zero_add]
    · rw [List.getD_eq_getElem?_getD, List.getElem?_eq_none (by rw [length_slice]; omega), h.2 i (by omega) hi]; rfl
theorem slice_pack (l : List Bool) : slice (pack l) 0 l.length = l := by
  apply List.ext_getElem (length_slice _ _ _)
  intro i h1 h2
  have := getD_slice (pack l) 0 l.length i h2
  rw [bitAt_pack, Nat.zero_add, List.getD_eq_getElem?_getD, List.getD_eq_getElem?_getD, List.getElem?_eq_getElem h1, List.getElem?_eq_getElem h2] at this
  simpa using this
theorem pack_inj {l m : List Bool} (hl : l.length = m.length) (h : pack l = pack m) : l = m := by
  rw [← slice_pack l, ← slice_pack m, h, hl]

theorem num_nil : num [] = 0 := rfl
theorem num_snoc (l : List Bool) (b : Bool) : num (l ++ [b]) = 2 * num l + b.toNat := by simp [num]
theorem num_lt (l : List Bool) : num l < 2 ^ l.length := by
  induction l using snocRec with
  | nil => simp [num]
  | snoc l b ih =>
    rw [num_snoc, List.length_append, List.length_singleton, Nat.pow_succ]
    cases b <;> simp <;> omega
theorem num_append (l m : List Bool) : num (l ++ m) = num l * 2 ^ m.length + num m := by
  induction m using snocRec with
  | nil => simp [num_nil]
  | snoc m b ih =>
    rw [← List.append_assoc, num_snoc, ih, num_snoc, List.length_append, List.length_singleton, Nat.pow_succ]
    have : 2 * (num l * 2 ^ m.length) = num l * (2 ^ m.length * 2) := by rw [Nat.mul_comm 2, Nat.mul_assoc]
    omega
theorem length_low (v n : Nat) : (low v n).length = n := by simp [low]
theorem low_zero (v : Nat) : low v 0 = [] := rfl
theorem low_succ (v n : Nat) : low v (n + 1) = v.testBit n :: low v n := by
  unfold low
  rw [List.range_succ_eq_map, List.map_cons, List.map_map]
  congr 1
  apply List.map_congr_left
  intro i _
  simp only [Function.comp]
  congr 1
  omega
theorem num_low (v n : Nat) : num (low v n) = v % 2 ^ n := by
  induction n with
  | zero => simp [low, num_nil, Nat.mod_one]
  | succ n ih =>
    rw [low_succ, show v.testBit n :: low v n = [v.testBit n] ++ low v n from rfl, num_append, ih, length_low]
    have h2 : v % 2 ^ (n + 1) = v % 2 ^ n + 2 ^ n * (v / 2 ^ n % 2) := by rw [Nat.pow_succ, Nat.mod_mul]
    have h3 : num [v.testBit n] = v / 2 ^ n % 2 := by
      simp only [num, List.foldl_cons, List.foldl_nil, Nat.mul_zero, Nat.zero_add, Nat.testBit_eq_decide_div_mod_eq]
      rcases Nat.mod_two_eq_zero_or_one (v / 2 ^ n) with h | h <;> simp [h]
    rw [h2, h3, Nat.mul_comm, Nat.add_comm]
theorem slice_succ (s : List UInt8) (a n : Nat) : slice s a (n + 1) = slice s a n ++ [bitAt s (a + n)] := by
  unfold slice
  rw [List.range_succ, List.map_append]; rfl
theorem slice_append (s : List UInt8) (a n m : Nat) : slice s a (n + m) = slice s a n ++ slice s (a + n) m := by
  unfold slice
  rw [List.range_add, List.map_append, List.map_map]
  congr 1
  apply List.map_congr_left
  intro i _
  simp [Nat.add_assoc]
theorem low_num (l : List Bool) : low (num l) l.length = l := by
  induction l with
  | nil => simp [low]
  | cons b l ih =>
    rw [List.length_cons, low_succ]
    have h : num (b :: l) = b.toNat * 2 ^ l.length + num l := by
      have := num_append [b] l
      simpa [num] using this
    have hlt := num_lt l
    congr 1
    · rw [h, Nat.testBit_eq_decide_div_mod_eq, Nat.add_comm, Nat.add_mul_div_right _ _ (Nat.two_pow_pos _), Nat.div_eq_of_lt hlt]
      cases b <;> simp
    · have e : low (num (b :: l)) l.length = low (num l) l.length := by
        unfold low
        apply List.map_congr_left
        intro i hi
        rw [List.mem_range] at hi
        rw [h]
        rw [Nat.add_comm, Nat.testBit_eq_decide_div_mod_eq, Nat.testBit_eq_decide_div_mod_eq]
        congr 2
        obtain ⟨d, hd⟩ : ∃ d, l.length = (l.length - 1 - i) + (d + 1) := ⟨i, by omega⟩
        generalize l.length - 1 - i = j at *
        rw [hd, Nat.pow_add, Nat.pow_succ, show b.toNat * (2 ^ j * (2 ^ d * 2)) = (b.toNat * 2 ^ d * 2) * 2 ^ j by simp only [Nat.mul_comm, Nat.mul_left_comm, Nat.mul_assoc], Nat.add_mul_div_right _ _ (Nat.two_pow_pos _)]
        omega
      rw [e, ih]
theorem num_inj {l m : List Bool} (hl : l.length = m.length) (h : num l = num m) : l = m := by
  rw [← low_num l, ← low_num m, h, hl]
/-- what stands in packed bits -/
theorem slice_pack_at (l : List Bool) (a n : Nat) (h : a + n ≤ l.length) : slice (pack l) a n = (l.drop a).take n := by
  apply List.ext_getElem
  · rw [length_slice]; simp; omega
  · intro i h1 h2
    have hi : i < n := by rw [length_slice] at h1; exact h1
    have e := getD_slice (pack l) a n i hi
    rw [bitAt_pack] at e
    simp only [List.getD_eq_getElem?_getD, List.getElem?_eq_getElem h1, Option.getD_some] at e
    rw [e]
    simp [List.getElem?_eq_getElem (show a + i < l.length by omega)]
end Go.Proofs.Ytodniacnjdnffaa.B
