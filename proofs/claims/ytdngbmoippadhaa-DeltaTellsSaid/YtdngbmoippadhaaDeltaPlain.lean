/- Layer 9: lengths as bits: the plain law. -/
import Derived.Test.YtdngbmoippadhaaBitsFacts
import Derived.Test.YtdngbmoippadhaaEnv
namespace Go.Proofs.Ytdngbmoippadhaa
open Go.RowKit
set_option linter.unusedVariables false

def mayF (n : Int) : Bool := decide (1 ≤ n) && decide (n ≤ 20)
def manyF (n : Int) : Bool := decide (2 ≤ n) && decide (n ≤ 258)
/-- from one length to the next one -/
def stepB (now n : Nat) : List Bool := (List.replicate (n - now) [true, false]).flatten ++ (List.replicate (now - n) [true, true]).flatten ++ [false]
def rowsB : Nat → List Nat → List Bool
  | _, [] => []
  | now, n :: ns => stepB now n ++ rowsB n ns
def deltaL (l : List Nat) : List Bool := B.low (l.headD 0) 5 ++ rowsB (l.headD 0) l
theorem stepB_up {now n : Nat} (h : now < n) : stepB now n = [true, false] ++ stepB (now + 1) n := by
  unfold stepB
  rw [show n - now = (n - (now + 1)) + 1 by omega, List.replicate_succ, List.flatten_cons, show now - n = 0 by omega, show now + 1 - n = 0 by omega]
  simp
theorem stepB_down {now n : Nat} (h : n < now) : stepB now n = [true, true] ++ stepB (now - 1) n := by
  unfold stepB
  rw [show now - n = (now - 1 - n) + 1 by omega, List.replicate_succ, List.flatten_cons, show n - now = 0 by omega, show n - (now - 1) = 0 by omega]
  simp
theorem stepB_same (n : Nat) : stepB n n = [false] := by
  unfold stepB
  simp
theorem length_stepB (now n : Nat) : (stepB now n).length = 2 * (n - now) + 2 * (now - n) + 1 := by
  simp [stepB]
  omega
theorem length_rowsB (l : List Nat) : ∀ now, now ≤ 20 → (∀ n ∈ l, n ≤ 20) → (rowsB now l).length ≤ 41 * l.length := by
  induction l with
  | nil => intro now _ _; simp [rowsB]
  | cons n l ih =>
    intro now h hl
    have h1 := hl n (by simp)
    have := ih n h1 (fun m hm => hl m (by simp [hm]))
    have h2 := length_stepB now n
    simp only [rowsB, List.length_append, List.length_cons]
    omega
theorem length_deltaL (l : List Nat) (hl : ∀ n ∈ l, n ≤ 20) : (deltaL l).length ≤ 41 * l.length + 5 := by
  unfold deltaL
  have h0 : l.headD 0 ≤ 20 := by
    cases l with
    | nil => simp
    | cons a l => exact hl a (by simp)
  have := length_rowsB l (l.headD 0) h0 hl
  rw [List.length_append, B.length_low]
  omega
/-- a box of two cells, written anew -/
theorem Env.set2 {w0 W : World} {k : Nat} {a b : Value} {t : TypeId} {bs : List (Nat × Array Value × TypeId)} (h : Env w0 W [] ((k, #[a, b], t) :: bs)) (hk : w0.heap.size ≤ k) (hbs : ∀ p ∈ bs, p.1 ≠ k) (a' b' : Value) :
    Env w0 ((W.setCell ⟨k, 0, none⟩ a').setCell ⟨k, 1, none⟩ b') [] ((k, #[a', b'], t) :: bs) := by
  refine ⟨⟨(h.bel.setCell (p := ⟨k, 0, none⟩) hk a').setCell (p := ⟨k, 1, none⟩) hk b', fun p hp => by simp at hp⟩, fun p hp => ?_⟩
  have h0 := h.blk 0 rfl
  have h1 := heap_set_ h0 0 a'
  have h2 := heap_set_ h1 1 b'
  rcases List.mem_cons.1 hp with rfl | hp
  · simpa using h2
  · rw [Below.heap_setCell _ _ _ _ (hbs p hp), Below.heap_setCell _ _ _ _ (hbs p hp)]
    exact h.2 p (by simp [hp])
end Go.Proofs.Ytdngbmoippadhaa
