/- One bit of a text turned: plainly. -/
import Derived.Test.YtpccdohhiojlkaaBitsPlain
namespace Go.Proofs.Ytpccdohhiojlkaa
set_option linter.unusedVariables false

theorem bitAt_turned (s : List UInt8) (x : Nat) (v : UInt8) (hx : x / 8 < s.length) (hv : v.toNat = (s.getD (x / 8) 0).toNat ^^^ (128 / 2 ^ (x % 8))) : B.bitAt (s.set (x / 8) v) x = !B.bitAt s x := by
  unfold B.bitAt
  rw [show (s.set (x / 8) v).getD (x / 8) 0 = v by simp [List.getD, hx], hv, Nat.testBit_xor]
  have h8 : x % 8 < 8 := Nat.mod_lt _ (by omega)
  have ht : (128 / 2 ^ (x % 8)).testBit (7 - x % 8) = true := by
    generalize x % 8 = r at h8
    rcases (show r = 0 ∨ r = 1 ∨ r = 2 ∨ r = 3 ∨ r = 4 ∨ r = 5 ∨ r = 6 ∨ r = 7 by omega) with rfl | rfl | rfl | rfl | rfl | rfl | rfl | rfl <;> decide
  rw [ht, Bool.xor_true]
end Go.Proofs.Ytpccdohhiojlkaa
