/- Merged: RestP, Env2, CodePlain, CodeChk. -/
import Derived.Test.YtodniacnjdnffaaBitsB
import Derived.Test.YtodniacnjdnffaaEnvK
import Derived.Test.YtodniacnjdnffaaKraft
import Derived.Test.YtodniacnjdnffaaChkK
/- A text's bits from a place on: plain. -/
namespace Go.Proofs.Ytodniacnjdnffaa
open Go.RowKit
set_option linter.unusedVariables false

def rest (s : List UInt8) (a : Nat) : List Bool := B.slice s a (8 * s.length - a)
theorem length_rest (s : List UInt8) (a : Nat) : (rest s a).length = 8 * s.length - a := B.length_slice _ _ _
theorem rest_nil (s : List UInt8) (a : Nat) (h : 8 * s.length ≤ a) : rest s a = [] := List.eq_nil_of_length_eq_zero (by rw [length_rest]; omega)
theorem rest_add (s : List UInt8) (a n : Nat) (h : a + n ≤ 8 * s.length) : rest s a = B.slice s a n ++ rest s (a + n) := by
  unfold rest
  rw [← B.slice_append, show n + (8 * s.length - (a + n)) = 8 * s.length - a by omega]
theorem rest_cons (s : List UInt8) (a : Nat) (h : a < 8 * s.length) : rest s a = B.bitAt s a :: rest s (a + 1) := by
  rw [rest_add s a 1 (by omega)]
  rfl
theorem num_one (s : List UInt8) (a : Nat) : B.num (B.slice s a 1) = if B.bitAt s a then 1 else 0 := by
  rw [show B.slice s a 1 = [B.bitAt s a] from rfl]
  cases B.bitAt s a <;> rfl
theorem extract_list (s : ByteArray) (k : Nat) : (s.extract 0 k).data.toList = s.data.toList.take k := by simp
/-- what stands in packed bits from a place on -/
theorem rest_pack (D : List Bool) (k : Nat) (h : k ≤ D.length) : rest (B.pack D) k = D.drop k ++ List.replicate (8 * (B.pack D).length - D.length) false := by
  have hl := len8_pack D
  have h1 := rest_add (B.pack D) k (D.length - k) (by omega)
  rw [h1, B.slice_pack_at _ _ _ (by omega)]
  congr 1
  · rw [List.take_of_length_le (by simp)]
  · rw [show k + (D.length - k) = D.length by omega]
    apply List.ext_getElem
    · rw [length_rest, List.length_replicate]
    · intro i h2 h3
      rw [length_rest] at h2
      have := (B.right_pack D).2 (D.length + i) (by omega) (by omega)
      have hg := B.getD_slice (B.pack D) D.length (8 * (B.pack D).length - D.length) i h2
      rw [this] at hg
      rw [List.getElem_replicate]
      have he : (rest (B.pack D) D.length).getD i false = (rest (B.pack D) D.length)[i] := by
        rw [List.getD_eq_getElem?_getD, List.getElem?_eq_getElem (by rw [length_rest]; exact h2)]
        rfl
      rw [← he]
      exact hg
theorem take_rest (s : List UInt8) (k : Nat) (h : k ≤ s.length) : ∃ q, rest s 0 = rest (s.take k) 0 ++ q ∧ q.length = 8 * (s.length - k) := by
  have h1 := rest_add s 0 (8 * k) (by omega)
  refine ⟨rest s (0 + 8 * k), ?_, by rw [length_rest]; omega⟩
  rw [h1]
  congr 1
  unfold rest
  rw [List.length_take, Nat.min_eq_left h, Nat.sub_zero]
  unfold B.slice
  apply List.map_congr_left
  intro i hi
  rw [List.mem_range] at hi
  unfold B.bitAt
  rw [List.getD_eq_getElem?_getD, List.getD_eq_getElem?_getD, List.getElem?_take, if_pos (by omega)]
end Go.Proofs.Ytodniacnjdnffaa
/- Env with bits: rows of pairs. -/
namespace Go.Proofs.Ytodniacnjdnffaa
open Go.RowKit
set_option linter.unusedVariables false
variable {W c c' : World}
theorem pairs_up {v : Value} {ps : List Pair} (h : IsPairs W W.heap.size v ps) (hB : Below W.heap.size W c) : IsPairs c c.heap.size v ps := Rd.mono (Rd.below h hB (Nat.le_refl _)) hB.size
theorem pairs_alloc {v : Value} {ps : List Pair} (h : IsPairs W W.heap.size v ps) (o : Obj) : IsPairs (W.alloc o) (W.alloc o).heap.size v ps := pairs_up h ((Below.refl _ _).alloc (Nat.le_refl _) o)
theorem bits_not_int : (41 : TypeId) ≠ 3 := by decide
end Go.Proofs.Ytodniacnjdnffaa
/- Plain facts on codes: words, what stands somewhere: no program. (Lengths: Kraft.) -/
namespace Go.Proofs.Ytodniacnjdnffaa
open Go.RowKit
set_option linter.unusedVariables false

/-- whose words have n bits, in order -/
def whose (l : List Nat) (n : Nat) : List Nat := (List.range l.length).filter fun s => l[s]? == some n
/-- the first ones of so many -/
def whoseTo (l : List Nat) (n i : Nat) : List Nat := (List.range i).filter fun s => l[s]? == some n
theorem whoseTo_succ (l : List Nat) (n i : Nat) : whoseTo l n (i + 1) = whoseTo l n i ++ if l[i]? = some n then [i] else [] := by
  unfold whoseTo
  rw [List.range_succ, List.filter_append]
  by_cases h : l[i]? = some n
  · rw [if_pos h]; simp [h]
  · rw [if_neg h]; simp [h]
theorem length_whoseTo (l : List Nat) (n i : Nat) (hi : i ≤ l.length) : (whoseTo l n i).length = (l.take i).count n := by
  induction i with
  | zero => rfl
  | succ i ih =>
    rw [whoseTo_succ, List.length_append, ih (by omega), List.take_succ_eq_append_getElem (by omega), List.count_append, List.getElem?_eq_getElem (by omega)]
    by_cases h : l[i] = n
    · simp [h]
    · simp [h]
theorem length_whose (l : List Nat) (n : Nat) : (whose l n).length = l.count n := by
  have := length_whoseTo l n l.length (Nat.le_refl _)
  rw [List.take_length] at this
  exact this
theorem whose_mem (l : List Nat) (n s : Nat) : s ∈ whose l n ↔ l[s]? = some n := by
  simp only [whose, List.mem_filter, List.mem_range, beq_iff_eq]
  constructor
  · exact fun h => h.2
  · exact fun h => ⟨(List.getElem?_eq_some_iff.1 h).1, h⟩
theorem length_whose_le (l : List Nat) (n : Nat) : (whose l n).length ≤ l.length := by rw [length_whose]; exact List.count_le_length
/-- where a symbol stands among those of its length -/
theorem whose_rank (l : List Nat) (n s : Nat) (h : l[s]? = some n) : (whose l n)[(l.take s).count n]? = some s := by
  have hs := (List.getElem?_eq_some_iff.1 h).1
  obtain ⟨d, hd⟩ : ∃ d, l.length = s + 1 + d := ⟨l.length - (s + 1), by omega⟩
  have e : whose l n = whoseTo l n s ++ ([s] ++ ((List.range d).map fun j => s + 1 + j).filter fun t => l[t]? == some n) := by
    unfold whose
    rw [hd, List.range_add, List.filter_append, List.range_succ, List.filter_append]
    unfold whoseTo
    simp [h]
  rw [e, ← length_whoseTo l n s (by omega), List.getElem?_append_right (Nat.le_refl _), Nat.sub_self]
  rfl
/-- a symbol's word -/
def wordV (l : List Nat) (s : Nat) : Nat := 2 * nextV l ((l[s]?.getD 0) - 1) + (l.take s).count (l[s]?.getD 0)
/-- the lengths that there are, from the least -/
def levelNs (l : List Nat) (k : Nat) : List Nat := (List.range (k + 1)).filter fun n => decide (1 ≤ n) && decide (0 < l.count n)
theorem levelNs_zero (l : List Nat) : levelNs l 0 = [] := rfl
theorem levelNs_succ (l : List Nat) (k : Nat) : levelNs l (k + 1) = levelNs l k ++ if 0 < l.count (k + 1) then [k + 1] else [] := by
  unfold levelNs
  rw [List.range_succ, List.filter_append]
  congr 1
  by_cases h : 0 < l.count (k + 1)
  · rw [if_pos h, List.filter_cons, decide_eq_true h]; simp
  · rw [if_neg h, List.filter_cons, decide_eq_false h]; simp
theorem levelNs_mem (l : List Nat) (k n : Nat) : n ∈ levelNs l k ↔ 1 ≤ n ∧ n ≤ k ∧ 0 < l.count n := by
  simp only [levelNs, List.mem_filter, List.mem_range, Bool.and_eq_true, decide_eq_true_eq]
  omega
theorem levelNs_prefix (l : List Nat) {j k : Nat} (h : j ≤ k) : levelNs l j <+: levelNs l k := by
  induction h with
  | refl => exact List.prefix_refl _
  | step _ ih => exact ih.trans (by rw [levelNs_succ]; exact List.prefix_append _ _)
/-- the symbol that stands somewhere, and the place behind it, or why there is none -/
def takeGo (l : List Nat) (u : List UInt8) (a : Int) : List Nat → Except Int (Nat × Int)
  | [] => .error 3
  | n :: ns =>
    if getE u a n ≠ 0 then .error (getE u a n)
    else if 2 * nextV l (n - 1) ≤ (getV u a n).toNat ∧ (getV u a n).toNat < 2 * nextV l (n - 1) + l.count n then .ok ((whose l n)[(getV u a n).toNat - 2 * nextV l (n - 1)]?.getD 0, a + n)
    else takeGo l u a ns
def takeF (l : List Nat) (u : List UInt8) (a : Int) : Except Int (Nat × Int) := takeGo l u a (levelNs l 20)
/-- does a round go on -/
def missN (l : List Nat) (u : List UInt8) (a : Int) (n : Nat) : Prop :=
  getE u a n = 0 ∧ ¬ (2 * nextV l (n - 1) ≤ (getV u a n).toNat ∧ (getV u a n).toNat < 2 * nextV l (n - 1) + l.count n)
theorem takeGo_miss {l : List Nat} {u : List UInt8} {a : Int} {ns : List Nat} (h : ∀ n ∈ ns, missN l u a n) (ms : List Nat) : takeGo l u a (ns ++ ms) = takeGo l u a ms := by
  induction ns with
  | nil => rfl
  | cons n ns ih =>
    have hn := h n (by simp)
    rw [List.cons_append, takeGo, if_neg (by rw [hn.1]; simp), if_neg hn.2, ih fun m hm => h m (by simp [hm])]
/-- a symbol's bits -/
def wordB (l : List Nat) (s : Nat) : List Bool := B.low (wordV l s) (l[s]?.getD 0)
def putB (l : List Nat) (m : List Nat) : List Bool := m.flatMap (wordB l)
theorem length_wordB (l : List Nat) (s : Nat) : (wordB l s).length = l[s]?.getD 0 := B.length_low _ _
theorem getD_fits {l : List Nat} (h : Fits l) (s : Nat) : l[s]?.getD 0 ≤ 20 := by
  cases hs : l[s]? with
  | none => simp
  | some x => exact (h x (List.mem_of_getElem? hs)).2
theorem length_putB_le {l : List Nat} (h : Fits l) (m : List Nat) : (putB l m).length ≤ 20 * m.length := by
  induction m with
  | nil => simp [putB]
  | cons s m ih =>
    have e : putB l (s :: m) = wordB l s ++ putB l m := by simp [putB]
    have := getD_fits h s
    rw [e, List.length_append, length_wordB, List.length_cons]
    omega
theorem wordV_lt {l : List Nat} (h : Code l) {s n : Nat} (hs : l[s]? = some n) : wordV l s < 2 ^ n := by
  have hn := h.fits n (List.mem_of_getElem? hs)
  obtain ⟨k, rfl⟩ : ∃ k, n = k + 1 := ⟨n - 1, by omega⟩
  have h1 := nextV_le l h.fits h.room (k + 1) hn.2
  rw [nextV] at h1
  have hlt := (List.getElem?_eq_some_iff.1 hs).1
  have h2 : (l.take s).count (k + 1) < l.count (k + 1) := by
    have e : l = l.take s ++ (k + 1) :: l.drop (s + 1) := by
      have := (List.getElem?_eq_some_iff.1 hs).2
      rw [← this, List.getElem_cons_drop, List.take_append_drop]
    have : l.count (k + 1) = (l.take s ++ (k + 1) :: l.drop (s + 1)).count (k + 1) := by rw [← e]
    rw [this, List.count_append, List.count_cons]
    simp
  unfold wordV
  rw [hs]
  simp only [Option.getD_some, Nat.add_sub_cancel]
  omega
end Go.Proofs.Ytodniacnjdnffaa
/- What is wrong with lengths: ChkK, under an elder name. -/
namespace Go.Proofs.Ytodniacnjdnffaa
end Go.Proofs.Ytodniacnjdnffaa
