/- Words that the laws of layer 8 share. -/
import Derived.Test.YtkicaimondpceaaAwake08
import Derived.Test.YtkicaimondpceaaLens08
import Derived.Test.YtkicaimondpceaaCodeLaws
namespace Go.Proofs.Ytkicaimondpceaa
open Go.RowKit
set_option linter.unusedVariables false

theorem lens08_is (W : World) (v : Value) (raw : List Int) (m : Nat) (hv : IsInts W W.heap.size v raw) (hr : I64s raw) (hm : m ≤ 258) (h2 : 2 ≤ m) :
    Calls Try.prog 11 #[v, .int .i64 (m : Nat)] W fun e w' => ∃ (l : List Nat) (q : Option Addr) (c : Nat), e = .returned (.slice q l.length c) ∧ IsInts w' w'.heap.size (.slice q l.length c) (ints l) ∧ Code l ∧ l.length ≤ m ∧ Below W.heap.size W w' := by
  refine (lens08_any W v raw m hv hr hm).mono ?_
  rintro e w' ⟨u, l, rfl, ho, hc, hl, hB⟩
  obtain ⟨q, c, rfl⟩ := ho.shape
  rw [length_ints] at ho ⊢
  exact ⟨l, q, c, rfl, ho.is, hc, by omega, hB⟩
theorem cput_nat (w : World) (v1 v2 : Value) (l m : List Nat) (r : List Bool) (hr : putB l m = r) (hv : IsInts w w.heap.size v1 (ints l)) (hl : Code l) (hv2 : IsInts w w.heap.size v2 (ints m)) (hm : m.length ≤ 1000) (hs : ∀ x ∈ m, x < l.length) :
    Calls Try.prog 18 #[v1, v2] w fun e w' => e = .returned (.tuple #[.agg #[.string (txt r), .int .i64 (r.length : Nat)], .int .i64 0]) ∧ Below w.heap.size w w' := by
  have hx := hl.most
  have h := cput_any w v1 v2 l (ints m) hv hl hv2 (by rw [length_ints]; omega) (by
    intro x hx
    simp only [ints, List.mem_map] at hx
    obtain ⟨y, hy, rfl⟩ := hx
    have := hs y hy
    omega)
  have e : codePut l (ints m) = (r, 0) := by
    unfold codePut
    rw [if_pos, ints_toNat, hr]
    intro x hx
    simp only [ints, List.mem_map] at hx
    obtain ⟨y, hy, rfl⟩ := hx
    have := hs y hy
    omega
  rw [e] at h
  exact h
theorem putB_append (l m n : List Nat) : putB l (m ++ n) = putB l m ++ putB l n := by simp [putB]
theorem putB_take (l m : List Nat) (i s : Nat) (h : m[i]? = some s) : putB l (m.take (i + 1)) = putB l (m.take i) ++ wordB l s := by
  rw [List.take_add_one, h, putB_append]
  simp [putB]
theorem putB_take_len (l m : List Nat) (i s n : Nat) (h : m[i]? = some s) (hn : l[s]? = some n) : (putB l (m.take (i + 1))).length = (putB l (m.take i)).length + n := by
  rw [putB_take l m i s h, List.length_append, length_wordB, hn]
  rfl
theorem putB_cut (l m : List Nat) (k : Nat) : putB l (m.take k) ++ putB l (m.drop k) = putB l m := by rw [← putB_append, List.take_append_drop]
theorem length_putB_take (l m : List Nat) (hf : Fits l) (i : Nat) : (putB l (m.take i)).length ≤ 20 * m.length := by
  have := length_putB_le hf (m.take i)
  have h2 : (m.take i).length ≤ m.length := by simp; omega
  omega
end Go.Proofs.Ytkicaimondpceaa
