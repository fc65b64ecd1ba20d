/- A byte of a text's copy in memory, turned: what the cells hold then. -/
import Derived.Test.YtpccdohhiojlkaaMem
import Derived.Test.YtpccdohhiojlkaaFlip
import Derived.Lib.ConvBytes
import Derived.Laws.IdiomStrings
namespace Go.Proofs.Ytpccdohhiojlkaa
open Go.RowKit
set_option linter.unusedVariables false

theorem addr_add0 (b j : Nat) : (⟨b, 0, none⟩ : Addr).add j = ⟨b, j, none⟩ := by
  unfold Addr.add
  split
  · rename_i h; subst h; rfl
  · simp
/-- the cells behind one store into a text's copy -/
theorem turned_cells (W : World) (b : Nat) (l : List UInt8) (k : Nat) (v : UInt8) (hk : k < l.length)
    (hc : ∀ j, j < l.length → W.cell? ⟨b, j, none⟩ = some (.int .u8 ((l.getD j 0).toNat : Nat))) :
    ∀ j (hj : j < (l.set k v).length), (W.setCell ⟨b, k, none⟩ (.int .u8 (v.toNat : Int))).cell? ((⟨b, 0, none⟩ : Addr).add j) = some (.int .u8 ((l.set k v)[j].toNat : Int)) := by
  intro j hj
  have hjl : j < l.length := by simpa using hj
  rw [addr_add0]
  by_cases hjx : j = k
  · subst hjx
    rw [World.cell?_setCell_same _ _ _ (hc _ hjl), List.getElem_set_self]
  · rw [World.cell?_setCell_other _ _ _ _ (fun e => hjx (by injection e with _ e _; exact e.symm)), hc _ hjl, List.getElem_set_ne (by omega), List.getD_eq_getElem?_getD, List.getElem?_eq_getElem hjl]; rfl
end Go.Proofs.Ytpccdohhiojlkaa
