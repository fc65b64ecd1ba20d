/- More words on what lives. -/
import Derived.Test.YtdngbmoippadhaaEnv
namespace Go.Proofs.Ytdngbmoippadhaa
open Go.RowKit
set_option linter.unusedVariables false
section
variable {w0 W W' : World} {l : List (Value × List Int)} {bs : List (Nat × Array Value × TypeId)}
theorem Env.lit (h : Env w0 W l bs) (xs : List Int) (cs : Array Value) (k : Nat) (hk : k = W.heap.size) (hcs : cs.toList = intCells xs) (hl : xs.length ≤ maxLen) :
    Env w0 (W.alloc (.cells cs 3)) ((.slice (some ⟨k, 0, none⟩) xs.length xs.length, xs) :: l) bs := ⟨h.1.lit xs cs k hk hcs hl, (h.alloc _).2⟩
theorem Env.sub (h : Env w0 W l bs) {v : Value} {xs : List Int} (i : Nat) (hi : l[i]? = some (v, xs)) : IsInts W W.heap.size v xs := h.get i hi
end
end Go.Proofs.Ytdngbmoippadhaa
