/- Behind a wide fence: a region that draws its order may be taken step by step (XHeld) if its continuation bears no panic. -/
import Derived.Test.YtodniacnjdnffaaHeld
import Derived.OwnWalkIn
import Derived.RangeFuncCalls
import Derived.OrdersIn
namespace Go.Proofs.Ytodniacnjdnffaa
open Go.RowKit
set_option linter.unusedVariables false
def NormalOnly (Q : Exit → Act → World → Prop) : Exit → Act → World → Prop
  | .normal, a, w => Q .normal a w
  | _, _, _ => False
theorem NormalOnly.normal {Q : Exit → Act → World → Prop} {a : Act} {w : World} (h : Q .normal a w) : NormalOnly Q .normal a w := h
theorem NormalOnly.lets {Q : Exit → Act → World → Prop} : ¬ LetsOut (NormalOnly Q) := fun ⟨_, _, h⟩ => h
def noDefer (ops : Array Oper) : Bool := ops.all fun o => match o.op with | .defer _ => false | _ => true
theorem noDefer_spec {ops : Array Oper} (h : noDefer ops = true) {i : Nat} {o : Oper} (hi : ops[i]? = some o) : ∀ c, o.op ≠ .defer c := by
  intro c hc
  have hm : o ∈ ops := Array.mem_of_getElem? hi
  have h2 := (Array.all_eq_true_iff_forall_mem.1 h) o hm
  rw [hc] at h2
  cases h2
theorem rowsIn_wide {n : Nat} {P : Program} {row : String} {args : Array Value} {w : World} {R : Value → World → Prop} (y : Nat) (h : Rows P row args w R) :
    RowsIn (Fence.wide.inRound y) n P row args w R := fun c cs _ => by
  obtain ⟨v, w', r, s⟩ := h c cs
  exact ⟨v, w', r, stepsIn_wide.2 s⟩
section
variable {P : Program} {ops : Array Oper} {Q : Exit → Act → World → Prop} {md : Region.Mode} {S : World → Prop} {n y : Nat}
theorem wpOp_wide {i : Nat} (hd : noDefer ops = true) {K K' : Act → World → Prop} {a : Act} {w : World} (hK : ∀ a w, K a w → K' a w)
    (h : wpOp P ops (NormalOnly Q) i K a w) : wpOpIn (Fence.wide.inRound y) n P ops Q i K' a w := by
  unfold wpOp at h
  unfold wpOpIn
  cases ho : ops[i]? with
  | none => simp only [ho] at h ⊢; exact hK _ _ h
  | some o =>
    simp only [ho] at h ⊢
    by_cases hw : Region.wanted o (yielded ops a.tmps) = true
    · simp only [hw, if_true] at h ⊢
      rcases h with h | ⟨_, h⟩
      · refine ⟨fun _ _ => trivial, ?_⟩
        rw [Oper.semAt_plain _ _ _ (noDefer_spec hd ho)]
        unfold Oper.wp at h
        generalize (execOp a.eval o).run P w = r at h
        cases r with
        | ok x w' =>
          cases x <;> simp only [Oper.upon] at h <;> simp only [Oper.uponIn]
          case value v => exact hK _ _ h
          case skip => exact hK _ _ h
          case defer d => exact hK _ _ h
          case enter f args =>
            refine ⟨fun hh => by simp [Fence.wide] at hh, CallsIn.inRound y (callsIn_wide.2 (h.mono ?_))⟩
            intro e w'' he
            cases e with
            | returned v => exact hK _ _ he
            | panicked c => exact he.elim
            | outgrown => exact (NormalOnly.lets he).elim
          case row row args => exact ⟨fun hh => by simp [Fence.wide] at hh, rowsIn_wide y (h.mono fun _ _ he => hK _ _ he)⟩
        | halt x w' =>
          cases x <;> simp only [Oper.upon] at h <;> simp only [Oper.uponIn]
          case panic v => exact h.elim
      · exact (NormalOnly.lets h).elim
    · simp only [hw] at h ⊢
      exact ⟨fun _ _ => trivial, hK _ _ h⟩
theorem wpAny_wide (hd : noDefer ops = true) : ∀ (fuel : Nat) (listed : Array Bool) (a : Act) (w : World), wpAny P md ops (NormalOnly Q) fuel listed a w →
    wpAnyIn (Fence.wide.inRound y) n P md ops Q fuel listed a w
  | 0, _, _, _, h => ⟨h.1, h.2⟩
  | fuel + 1, _, _, _, h => ⟨fun hr => h.1 hr, fun i hi => wpOp_wide hd (fun a' w' h' => wpAny_wide hd fuel _ a' w' h') (h.2 i hi)⟩
theorem wpIn_region_held {id : Nat} {a : Act} {w : World} (hm : P.follows .mixedOrders = true) (hd : noDefer ops = true)
    (h : S w.drew → wpAnyH P .any ops (NormalOnly Q) S ops.size (Array.replicate ops.size false) a w.drew) (hS : S w.drew) :
    (Code.region id ops true).wpIn (Fence.wide.inRound y) n P Q a w :=
  wpIn_region_any hm (wpAny_wide hd _ _ _ _ (wpAny_of_held _ _ _ _ (h hS)))
end
end Go.Proofs.Ytodniacnjdnffaa
