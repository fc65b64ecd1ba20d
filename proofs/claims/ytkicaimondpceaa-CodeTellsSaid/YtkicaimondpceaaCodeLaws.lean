/- Plain laws of codes: which word stands somewhere; no program. -/
import Derived.Test.YtkicaimondpceaaCodeTake
namespace Go.Proofs.Ytkicaimondpceaa
open Go.RowKit
set_option linter.unusedVariables false

theorem nextV_up (l : List Nat) {j k : Nat} (h : j ≤ k) : nextV l j * 2 ^ (k - j) ≤ nextV l k := by
  induction k with
  | zero =>
    obtain rfl : j = 0 := by omega
    simp
  | succ k ih =>
    rcases Nat.lt_or_ge k j with h1 | h1
    · obtain rfl : j = k + 1 := by omega
      simp
    · have := ih h1
      rw [show k + 1 - j = (k - j) + 1 by omega, Nat.pow_succ, nextV, ← Nat.mul_assoc]
      omega
/-- the first ones of bits as a number -/
theorem num_slice (u : List UInt8) (a : Nat) {j k : Nat} (h : j ≤ k) : B.num (B.slice u a j) = B.num (B.slice u a k) / 2 ^ (k - j) := by
  obtain ⟨d, rfl⟩ : ∃ d, k = j + d := ⟨k - j, by omega⟩
  rw [B.slice_append, B.num_append, B.length_slice, Nat.add_sub_cancel_left]
  have := B.num_lt (B.slice u (a + j) d)
  rw [B.length_slice] at this
  rw [Nat.mul_comm, Nat.mul_add_div (Nat.pow_pos (by omega)), Nat.div_eq_of_lt this, Nat.add_zero]
/-- s's word stands at a -/
def StandsAt (l : List Nat) (u : List UInt8) (a : Int) (s n : Nat) : Prop := l[s]? = some n ∧ 0 ≤ a ∧ a + n ≤ 8 * (u.length : Int) ∧ B.num (B.slice u a.toNat n) = wordV l s
theorem getE_zero_iff (u : List UInt8) (a : Int) (n : Nat) (hn : n ≤ 64) : getE u a n = 0 ↔ 0 ≤ a ∧ a + n ≤ 8 * (u.length : Int) := by
  unfold getE
  split
  · constructor
    · intro h; cases h
    · intro h; omega
  · split
    · constructor
      · intro h; cases h
      · intro h; omega
    · constructor
      · intro _; omega
      · intro _; rfl
theorem getV_slice (u : List UInt8) (a : Int) (n : Nat) (hn : n ≤ 64) (h : getE u a n = 0) : (getV u a n).toNat = B.num (B.slice u a.toNat n) := by
  have := (getE_zero_iff u a n hn).1 h
  unfold getV
  rw [if_neg (by omega), if_neg (by omega)]
  simp
theorem wordV_room {l : List Nat} (h : Code l) {s n : Nat} (hs : l[s]? = some n) : 1 ≤ n ∧ n ≤ 20 ∧ 0 < l.count n ∧ 2 * nextV l (n - 1) ≤ wordV l s ∧ wordV l s < nextV l n := by
  have hn := h.fits n (List.mem_of_getElem? hs)
  have hc : 0 < l.count n := List.count_pos_iff.2 (List.mem_of_getElem? hs)
  have hr := whose_rank l n s hs
  have hl := (List.getElem?_eq_some_iff.1 hr).1
  rw [length_whose] at hl
  obtain ⟨k, rfl⟩ : ∃ k, n = k + 1 := ⟨n - 1, by omega⟩
  refine ⟨hn.1, hn.2, hc, ?_, ?_⟩
  · unfold wordV
    rw [hs]
    simp
  · unfold wordV
    rw [hs]
    simp only [Option.getD_some, Nat.add_sub_cancel]
    rw [nextV]
    omega
theorem takeF_word {l : List Nat} (h : Code l) (u : List UInt8) (a : Int) (s n : Nat) (hs : StandsAt l u a s n) : takeF l u a = .ok (s, a + n) := by
  obtain ⟨h1, h2, h3, h4⟩ := hs
  obtain ⟨r1, r2, r3, r4, r5⟩ := wordV_room h h1
  have hE := (getE_zero_iff u a n (by omega)).2 ⟨h2, h3⟩
  have hV := getV_slice u a n (by omega) hE
  obtain ⟨ms, hms⟩ := levelNs_prefix l r2
  obtain ⟨k, rfl⟩ : ∃ k, n = k + 1 := ⟨n - 1, by omega⟩
  rw [levelNs_succ, if_pos r3] at hms
  have hmiss : ∀ j ∈ levelNs l k, missN l u a j := by
    intro j hj
    obtain ⟨j1, j2, j3⟩ := (levelNs_mem l k j).1 hj
    have jE := (getE_zero_iff u a j (by omega)).2 ⟨h2, by omega⟩
    refine ⟨jE, ?_⟩
    rw [getV_slice u a j (by omega) jE, num_slice u a.toNat (show j ≤ k + 1 by omega), h4]
    intro hh
    have hu := nextV_up l (show j ≤ k by omega)
    have hj2 : 2 * nextV l (j - 1) + l.count j = nextV l j := by
      obtain ⟨i, rfl⟩ : ∃ i, j = i + 1 := ⟨j - 1, by omega⟩
      rfl
    rw [hj2] at hh
    have h5 : nextV l j * 2 ^ (k + 1 - j) ≤ wordV l s := by
      rw [show k + 1 - j = (k - j) + 1 by omega, Nat.pow_succ, ← Nat.mul_assoc]
      simp only [Nat.add_sub_cancel] at r4
      omega
    have h6 : nextV l j ≤ wordV l s / 2 ^ (k + 1 - j) := (Nat.le_div_iff_mul_le (Nat.pow_pos (by omega))).2 h5
    omega
  unfold takeF
  rw [← hms, List.append_assoc, takeGo_miss hmiss, List.singleton_append, takeGo, if_neg (by rw [hE]; simp), hV, h4]
  have hr := whose_rank l (k + 1) s h1
  have hw : wordV l s - 2 * nextV l (k + 1 - 1) = (l.take s).count (k + 1) := by
    unfold wordV
    rw [h1]
    simp
  rw [if_pos ⟨r4, by rw [nextV] at r5; exact r5⟩, hw, hr]
  rfl
theorem takeGo_ok (l : List Nat) (u : List UInt8) (a : Int) (s : Nat) (b : Int) : ∀ ns : List Nat, (∀ n ∈ ns, 1 ≤ n ∧ n ≤ 20) → takeGo l u a ns = .ok (s, b) → ∃ n, StandsAt l u a s n ∧ b = a + n
  | [], _, h => by cases h
  | n :: ns, hns, h => by
    have hn := hns n (by simp)
    rw [takeGo] at h
    split at h
    · cases h
    · rename_i hE
      have hE0 : getE u a n = 0 := by simpa using hE
      split at h
      · rename_i hr
        have hlt : (getV u a n).toNat - 2 * nextV l (n - 1) < (whose l n).length := by rw [length_whose]; omega
        have hs2 : (whose l n)[(getV u a n).toNat - 2 * nextV l (n - 1)]? = some s := by
          rw [List.getElem?_eq_getElem hlt]
          rw [List.getElem?_eq_getElem hlt, Option.getD_some] at h
          injection h with h
          injection h with h5 h6
          rw [h5]
        have hb : b = a + n := by
          injection h with h
          injection h with h5 h6
          exact h6.symm
        obtain ⟨hw1, hw2⟩ := wordV_at l n _ s hs2
        have := (getE_zero_iff u a n (by omega)).1 hE0
        refine ⟨n, ⟨hw2, this.1, this.2, ?_⟩, hb⟩
        rw [hw1, ← getV_slice u a n (by omega) hE0]
        omega
      · exact takeGo_ok l u a s b ns (fun m hm => hns m (by simp [hm])) h
theorem takeF_ok {l : List Nat} {u : List UInt8} {a : Int} {s : Nat} {b : Int} (h : takeF l u a = .ok (s, b)) : ∃ n, StandsAt l u a s n ∧ b = a + n :=
  takeGo_ok l u a s b _ (fun n hn => by have := (levelNs_mem l 20 n).1 hn; omega) h
/-- of what is long enough only a wrong word can be told -/
theorem takeGo_long (l : List Nat) (u : List UInt8) (a : Int) (h0 : 0 ≤ a) (h : a + 20 ≤ 8 * (u.length : Int)) (e : Int) : ∀ ns : List Nat, (∀ n ∈ ns, 1 ≤ n ∧ n ≤ 20) → takeGo l u a ns = .error e → e = 3 ∧ ∀ n ∈ ns, missN l u a n
  | [], _, he => by
    injection he with he
    exact ⟨he.symm, fun n hn => by simp at hn⟩
  | n :: ns, hns, he => by
    have hn := hns n (by simp)
    have hE := (getE_zero_iff u a n (by omega)).2 ⟨h0, by omega⟩
    rw [takeGo, if_neg (by rw [hE]; simp)] at he
    split at he
    · cases he
    · rename_i hr
      have := takeGo_long l u a h0 h e ns (fun m hm => hns m (by simp [hm])) he
      refine ⟨this.1, fun m hm => ?_⟩
      rcases List.mem_cons.1 hm with rfl | hm
      · exact ⟨hE, hr⟩
      · exact this.2 m hm
theorem takeF_long {l : List Nat} {u : List UInt8} {a : Int} (h0 : 0 ≤ a) (h : a + 20 ≤ 8 * (u.length : Int)) {e : Int} (he : takeF l u a = .error e) : e = 3 ∧ ∀ n ∈ levelNs l 20, missN l u a n :=
  takeGo_long l u a h0 h e _ (fun n hn => by have := (levelNs_mem l 20 n).1 hn; omega) he
/-- where lengths use up all, a word stands everywhere -/
theorem takeF_full {l : List Nat} (hl : Code l) (hk : kraft l = 1048576) {u : List UInt8} {a : Int} (h0 : 0 ≤ a) (h : a + 20 ≤ 8 * (u.length : Int)) (e : Int) : takeF l u a ≠ .error e := by
  intro he
  obtain ⟨_, hm⟩ := takeF_long h0 h he
  have key : ∀ k, k ≤ 20 → nextV l k ≤ B.num (B.slice u a.toNat k) := by
    intro k
    induction k with
    | zero => intro _; exact Nat.zero_le _
    | succ k ih =>
      intro hk2
      have h1 := ih (by omega)
      have h2 : 2 * B.num (B.slice u a.toNat k) ≤ B.num (B.slice u a.toNat (k + 1)) := by
        rw [B.slice_succ, B.num_snoc]; omega
      rw [nextV]
      by_cases hc : 0 < l.count (k + 1)
      · have hmk := hm (k + 1) ((levelNs_mem l 20 (k + 1)).2 ⟨by omega, hk2, hc⟩)
        have h3 := hmk.2
        rw [getV_slice u a (k + 1) (by omega) hmk.1, Nat.add_sub_cancel] at h3
        omega
      · omega
  have h1 := key 20 (Nat.le_refl _)
  rw [nextV_kraft l hl.fits, hk] at h1
  have h2 := B.num_lt (B.slice u a.toNat 20)
  rw [B.length_slice] at h2
  have e : (2 : Nat) ^ 20 = 1048576 := by decide
  omega
/-- where they do not, no word is all ones -/
theorem takeF_ones {l : List Nat} (hl : Code l) (hk : kraft l < 1048576) : takeF l [255, 255, 255] 0 = .error 3 := by
  cases hr : takeF l [255, 255, 255] 0 with
  | error e => rw [(takeF_long (by omega) (by simp) hr).1]
  | ok p =>
    obtain ⟨s, b⟩ := p
    obtain ⟨n, ⟨h1, h2, h3, h4⟩, _⟩ := takeF_ok hr
    obtain ⟨r1, r2, r3, r4, r5⟩ := wordV_room hl h1
    exfalso
    have hu := nextV_up l r2
    rw [nextV_kraft l hl.fits] at hu
    have h20 : B.num (B.slice [255, 255, 255] (0 : Int).toNat 20) = 1048575 := by decide
    have hd := num_slice [255, 255, 255] (0 : Int).toNat r2
    rw [h4, h20] at hd
    have e : 2 ^ n * 2 ^ (20 - n) = 1048576 := by
      rw [← Nat.pow_add, show n + (20 - n) = 20 by omega]
    have hp : 0 < 2 ^ (20 - n) := Nat.pow_pos (by omega)
    have h5 : wordV l s + 1 ≤ nextV l n := r5
    have h6 : (wordV l s + 1) * 2 ^ (20 - n) ≤ kraft l := Nat.le_trans (Nat.mul_le_mul_right _ h5) hu
    have h7 : 1048575 < (wordV l s + 1) * 2 ^ (20 - n) := by
      rw [hd]
      have := Nat.lt_mul_div_succ 1048575 hp
      rw [Nat.mul_comm]
      exact this
    omega
end Go.Proofs.Ytkicaimondpceaa
