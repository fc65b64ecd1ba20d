/- The document's front (layer 5), as far as tables' numbers go: plain law and walks. -/
import Derived.Test.YtpccdohhiojlkaaSelPlain
import Derived.Test.YtpccdohhiojlkaaEnv2
namespace Go.Proofs.Ytpccdohhiojlkaa
open Go.RowKit
set_option linter.unusedVariables false

/-- tables' numbers, as bytes -/
def al (p : List Nat) : ByteArray := ⟨(p.map UInt8.ofNat).toArray⟩
theorem al_list (p : List Nat) : (al p).data.toList = p.map UInt8.ofNat := by simp [al]
theorem al_size (p : List Nat) : (al p).size = p.length := by simp [al, ByteArray.size]
theorem ba_ext {a b : ByteArray} (h : a.data.toList = b.data.toList) : a = b := by
  cases a; cases b
  simp only [ByteArray.mk.injEq]
  exact Array.toList_inj.1 h
theorem ofNat_inj {a b : Nat} (ha : a < 256) (hb : b < 256) (h : UInt8.ofNat a = UInt8.ofNat b) : a = b := by
  have := congrArg UInt8.toNat h
  rw [UInt8.toNat_ofNat_of_lt' (by simpa using ha), UInt8.toNat_ofNat_of_lt' (by simpa using hb)] at this
  exact this
/-- where a byte stands first -/
def plF (s : List UInt8) (c : UInt8) : Int := if c ∈ s then (s.idxOf c : Nat) else -1
theorem idxOf_map (p : List Nat) (n : Nat) (hp : ∀ x ∈ p, x < 256) (hn : n < 256) : (p.map UInt8.ofNat).idxOf (UInt8.ofNat n) = p.idxOf n := by
  induction p with
  | nil => rfl
  | cons x p ih =>
    rw [List.map_cons, List.idxOf_cons, List.idxOf_cons, ih fun y hy => hp y (by simp [hy])]
    by_cases h : x = n
    · subst h; simp
    · have : (UInt8.ofNat x == UInt8.ofNat n) = false := by
        rw [beq_eq_false_iff_ne]
        exact fun e => h (ofNat_inj (hp x (by simp)) hn e)
      have h2 : (x == n) = false := by rw [beq_eq_false_iff_ne]; exact h
      rw [this, h2]
theorem plF_al (p : List Nat) (n : Nat) (hp : ∀ x ∈ p, x < 256) (hn : n ∈ p) : plF (al p).data.toList (UInt8.ofNat n) = (p.idxOf n : Nat) := by
  unfold plF
  rw [al_list, idxOf_map p n hp (hp n hn), if_pos (List.mem_map.2 ⟨n, hn, rfl⟩)]
/-- places, one behind the other -/
def atsL : List Nat → List Nat → List Nat
  | _, [] => []
  | p, n :: ns => p.idxOf n :: atsL (mtf p (p.idxOf n)) ns
theorem length_atsL (ns : List Nat) : ∀ p, (atsL p ns).length = ns.length := by
  induction ns with
  | nil => intro p; rfl
  | cons n ns ih => intro p; rw [atsL, List.length_cons, List.length_cons, ih]
theorem selL_ats (ns : List Nat) : ∀ p, selL p ns = (atsL p ns).flatMap unary := by
  induction ns with
  | nil => intro p; rfl
  | cons n ns ih => intro p; rw [selL, atsL, List.flatMap_cons, ih]
/-- the front of a row alone -/
theorem idx_take {t : Nat} {p : List Nat} {n : Nat} (h : n ∈ p.take t) : p.idxOf n = (p.take t).idxOf n := by
  conv => lhs; rw [← List.take_append_drop t p]
  rw [List.idxOf_append, if_pos h]
theorem mtf_take {t k : Nat} {p : List Nat} (hk : k < t) (ht : t ≤ p.length) : (mtf p k).take t = mtf (p.take t) k := by
  unfold mtf
  obtain ⟨u, rfl⟩ : ∃ u, t = u + 1 := ⟨t - 1, by omega⟩
  rw [List.take_succ_cons]
  congr 1
  · rw [List.getD_eq_getElem?_getD, List.getD_eq_getElem?_getD, List.getElem?_take_of_lt hk]
  · rw [List.take_append, List.take_take, List.take_take, List.length_take, Nat.min_eq_left (by omega : k ≤ p.length), Nat.min_eq_right (by omega : k ≤ u), Nat.min_eq_left (by omega : k ≤ u + 1)]
    congr 1
    rw [List.drop_take]
    congr 1
    omega
/-- so many numbers, each once -/
def Perm (t : Nat) (p : List Nat) : Prop := p.Perm (List.range t)
theorem Perm.len {t : Nat} {p : List Nat} (h : Perm t p) : p.length = t := by have := h.length_eq; simpa using this
theorem Perm.mem {t n : Nat} {p : List Nat} (h : Perm t p) : n ∈ p ↔ n < t := by rw [h.mem_iff, List.mem_range]
theorem Perm.nodup {t : Nat} {p : List Nat} (h : Perm t p) : p.Nodup := h.nodup_iff.2 List.nodup_range
theorem Perm.mtf {t k : Nat} {p : List Nat} (h : Perm t p) (hk : k < t) : Perm t (mtf p k) := by
  have hl := h.len
  have hk6 : k < p.length := by omega
  have hg : p.getD k 0 = p[k] := by rw [List.getD_eq_getElem?_getD, List.getElem?_eq_getElem hk6]; rfl
  refine List.Perm.trans ?_ h
  unfold Go.Proofs.Ytpccdohhiojlkaa.mtf
  rw [hg]
  conv => rhs; rw [← List.take_append_drop k p, List.drop_eq_getElem_cons hk6]
  exact List.perm_middle.symm
theorem ats_take {t : Nat} (ht : t ≤ 6) (ns : List Nat) : ∀ p, Tabs t p → (∀ n ∈ ns, n < t) → atsL p ns = atsL (p.take t) ns := by
  induction ns with
  | nil => intro p _ _; rfl
  | cons n ns ih =>
    intro p hp hn
    have hnt := hn n (by simp)
    have hm : n ∈ p.take t := hp.2.1.mem_iff.2 (List.mem_range.2 hnt)
    have h1 := (tabs_idx hp ht hnt).1
    rw [atsL, atsL, ← idx_take hm, ih _ (mtf_tabs hp ht h1) (fun m hm => hn m (by simp [hm])), mtf_take h1 (by have := hp.1; omega)]
theorem atsL_lt {t : Nat} (ns : List Nat) : ∀ p, Perm t p → (∀ n ∈ ns, n < t) → ∀ k ∈ atsL p ns, k < t := by
  induction ns with
  | nil => intro p _ _ k hk; simp [atsL] at hk
  | cons n ns ih =>
    intro p hp hn k hk
    have hm : n ∈ p := hp.mem.2 (hn n (by simp))
    have hi : p.idxOf n < t := by have := List.idxOf_lt_length_of_mem hm; rw [hp.len] at this; exact this
    rw [atsL] at hk
    rcases List.mem_cons.1 hk with rfl | hk
    · exact hi
    · exact ih _ (hp.mtf hi) (fun m hm => hn m (by simp [hm])) k hk
/-- and back -/
def backL : List Nat → List Nat → List Nat
  | _, [] => []
  | p, k :: ks => p.getD k 0 :: backL (mtf p k) ks
theorem length_backL (ks : List Nat) : ∀ p, (backL p ks).length = ks.length := by
  induction ks with
  | nil => intro p; rfl
  | cons n ns ih => intro p; rw [backL, List.length_cons, List.length_cons, ih]
end Go.Proofs.Ytpccdohhiojlkaa
