/- From the arguments of a law, as they are read, to the words of the walks. -/
import Derived.Test.YtodniacnjdnffaaMem
namespace Go.Proofs.Ytodniacnjdnffaa
open Go.RowKit
set_option linter.unusedVariables false

theorem wf_i64 {n : Int} (h : (Lit.int .i64 n).wf = true) : -9223372036854775808 ≤ n ∧ n ≤ 9223372036854775807 := by
  simpa [Lit.wf, IntKind.min, IntKind.max, IntKind.signed, IntKind.bits] using h
theorem wf_u64 {n : Int} (h : (Lit.int .u64 n).wf = true) : 0 ≤ n ∧ n ≤ 18446744073709551615 := by
  simpa [Lit.wf, IntKind.min, IntKind.max, IntKind.signed, IntKind.bits] using h
theorem wf_u8 {n : Int} (h : (Lit.int .u8 n).wf = true) : 0 ≤ n ∧ n ≤ 255 := by
  simpa [Lit.wf, IntKind.min, IntKind.max, IntKind.signed, IntKind.bits] using h
/-- all are numbers of 64 bits -/
def I64s (xs : List Int) : Prop := ∀ x ∈ xs, -9223372036854775808 ≤ x ∧ x ≤ 9223372036854775807
theorem I64s.take {xs : List Int} (h : I64s xs) (n : Nat) : I64s (xs.take n) := fun x hx => h x (List.mem_of_mem_take hx)

theorem rd_row {k : IntKind} {w : World} {a : Option Addr} {len cap : Nat} {zs : List Int}
    (h : (a = none ∧ len = 0 ∧ cap = 0 ∧ zs = []) ∨
      ∃ x, a = some x ∧ len ≤ cap ∧ cap ≤ maxLen ∧ zs.length = cap ∧ (∀ i, i < zs.length → w.cell? (x.add i) = some (.int k (zs.getD i 0))) ∧ ∀ n ∈ zs, (Lit.int k n).wf = true) :
    Rd w w.heap.size 1 (.slice a len cap) len ((zs.take len).map (.int k)) ∧ (zs.take len).length = len ∧ ∀ n ∈ zs.take len, (Lit.int k n).wf = true := by
  rcases h with ⟨rfl, rfl, rfl, rfl⟩ | ⟨⟨g, o, sp⟩, rfl, hl, hm, hz, hc, hw⟩
  · exact ⟨Rd.nil _ _ _, rfl, fun n hn => by simp at hn⟩
  · have hlen : (zs.take len).length = len := by rw [List.length_take]; omega
    refine ⟨⟨by rw [List.length_map, hlen]; omega, _, cap, rfl, hl, hm, fun hn => ?_⟩, hlen, fun n hn => hw n (List.mem_of_mem_take hn)⟩
    have h0 := hc 0 (by omega)
    have e0 : (⟨g, o, sp⟩ : Addr).add 0 = ⟨g, o, sp⟩ := by simp [Addr.add]
    rw [e0] at h0
    have hsp : sp = none := by
      cases sp with
      | none => rfl
      | some v =>
        unfold World.cell? at h0
        split at h0 <;> simp at h0
    subst hsp
    have hg : g < w.heap.size := by
      rcases Nat.lt_or_ge g w.heap.size with hlt | hge
      · exact hlt
      · simp [World.cell?, Array.getElem?_eq_none hge] at h0
    refine ⟨g, o, rfl, hg, fun i x hx => ?_⟩
    rw [List.getElem?_map, List.getElem?_take] at hx
    split at hx
    · rename_i hi
      have hiz : i < zs.length := by omega
      rw [List.getElem?_eq_getElem hiz] at hx
      simp only [Option.map_some, Option.some.injEq] at hx
      have := hc i hiz
      have ea : (⟨g, o, none⟩ : Addr).add i = ⟨g, o + i, none⟩ := by
        unfold Addr.add
        split
        · rename_i h; subst h; rfl
        · rfl
      rw [ea] at this
      rw [this, ← hx, List.getD_eq_getElem?_getD, List.getElem?_eq_getElem hiz]
      rfl
    · simp at hx
theorem ints_row {w : World} {a : Option Addr} {len cap : Nat} {zs : List Int}
    (h : (a = none ∧ len = 0 ∧ cap = 0 ∧ zs = []) ∨
      ∃ x, a = some x ∧ len ≤ cap ∧ cap ≤ maxLen ∧ zs.length = cap ∧ (∀ i, i < zs.length → w.cell? (x.add i) = some (.int .i64 (zs.getD i 0))) ∧ ∀ n ∈ zs, (Lit.int .i64 n).wf = true) :
    IsInts w w.heap.size (.slice a len cap) (zs.take len) ∧ I64s (zs.take len) := by
  obtain ⟨h1, h2, h3⟩ := rd_row h
  refine ⟨?_, fun x hx => wf_i64 (h3 x hx)⟩
  unfold IsInts intCells
  rw [h2]; exact h1
end Go.Proofs.Ytodniacnjdnffaa
