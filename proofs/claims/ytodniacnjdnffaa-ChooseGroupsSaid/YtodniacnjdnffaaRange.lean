/- A range over a function whose elements lie in memory: what an element's memory holds is told to the round. -/
import Derived.Test.YtodniacnjdnffaaIter
namespace Go.Proofs.Ytodniacnjdnffaa
open Go.RowKit Go.Shelf
set_option linter.unusedVariables false

/-- every block of cells but the bad ones is as it was -/
def KeepC (bad : Nat → Prop) (W W' : World) : Prop := ∀ b cs t fz, ¬ bad b → W.heap[b]? = some (.cells cs t fz) → W'.heap[b]? = some (.cells cs t fz)
theorem KeepC.refl (bad : Nat → Prop) (W : World) : KeepC bad W W := fun _ _ _ _ _ h => h
theorem KeepC.trans {bad : Nat → Prop} {A B C : World} (h : KeepC bad A B) (k : KeepC bad B C) : KeepC bad A C := fun b cs t fz h1 h2 => k b cs t fz h1 (h b cs t fz h1 h2)
theorem KeepC.put {bad : Nat → Prop} {W : World} {r : Nat} {o : Obj} (o' : Obj) (h : W.heap[r]? = some o) (ho : o.isCells = false) : KeepC bad W (W.putObj r o') := fun b cs t fz _ h2 => by
  by_cases e : b = r
  · subst e
    rw [h] at h2
    cases h2
    cases ho
  · rw [World.putObj_heap_other e]; exact h2
theorem KeepC.below {bad : Nat → Prop} {W W' W2 : World} (h : KeepC bad W W') (hB : Below W'.heap.size W' W2) : KeepC bad W W2 := fun b cs t fz h1 h2 => by
  have h3 := h b cs t fz h1 h2
  exact (hB.block b (lt_of_heap h3)).trans h3
theorem KeepC.set {bad : Nat → Prop} {W W' : World} (h : KeepC bad W W') {q : Addr} (hq : bad q.block) (u : Value) : KeepC bad W (W'.setCell q u) := fun b cs t fz h1 h2 =>
  (Below.heap_setCell W' q u b (fun e => h1 (by rw [e]; exact hq))).trans (h b cs t fz h1 h2)
theorem KeepC.cells {bad : Nat → Prop} {W W' : World} (h : KeepC bad W W') {b : Nat} {cs : Array Value} {t : TypeId} {fz : Nat × Nat} (hb : ¬ bad b) (h1 : W.heap[b]? = some (.cells cs t fz)) : W'.heap[b]? = some (.cells cs t fz) := h b cs t fz hb h1
theorem cells_at {W : World} {b o : Nat} {v : Value} (h : W.cell? ⟨b, o, none⟩ = some v) : ∃ cs t fz, W.heap[b]? = some (.cells cs t fz) := by
  obtain ⟨ob, h1, h2⟩ := cells_of_cell h
  cases ob <;> first | (cases h2; done) | exact ⟨_, _, _, h1⟩
theorem KeepC.cell {bad : Nat → Prop} {W W' : World} (h : KeepC bad W W') {b o : Nat} {v : Value} (hb : ¬ bad b) (h1 : W.cell? ⟨b, o, none⟩ = some v) : W'.cell? ⟨b, o, none⟩ = some v := by
  obtain ⟨cs, t, fz, h2⟩ := cells_at h1
  exact (World.cell?_of_block (w := W) ((h b cs t fz hb h2).trans h2.symm)).trans h1

/-- an iterator whose elements are told by Ok in the world in which they are handed over -/
def SeqOk {α : Type} (n : Nat) (g : Nat) (lb : Array Value) (encs : α → Array Value) (Ok : α → World → Prop) (Kp : World → World → Prop) (S Sp : List α → Prop) (N : Nat) (w0 : World) : Prop :=
  ∀ (l : Nat) (J Jx : List α → World → Prop) (W : World), Below w0.heap.size w0 W → (∀ s A B, J s A → Below A.heap.size A B → J s B) → (∀ s A B, Jx s A → Below A.heap.size A B → Jx s B) →
    (∀ pre x W1, J pre W1 → pre.length < N → Ok x W1 → YieldAt Fence.wide (n - 1) Try.prog l (encs x) W1 fun e W' => (e = .returned (.bool true) ∧ J (pre ++ [x]) W' ∧ Kp W1 W' ∧ W1.heap.size ≤ W'.heap.size) ∨ (e = .returned (.bool false) ∧ Jx (pre ++ [x]) W')) →
    J [] W → CallsIn Fence.wide n Try.prog g (#[.func (.yield l) #[] #[]] ++ lb) W fun e W' => (∃ v, e = .returned v) ∧ ((∃ xs, S xs ∧ J xs W') ∨ (∃ pre, Sp pre ∧ Jx pre W'))

theorem below_grown {W W' : World} (h : Below W.heap.size W W') : W.grownBy W' none := ⟨h.os, h.tape, h.output, h.size, fun k hk _ => h.block k hk⟩
/-- the record of the loop, and the block of what is deferred -/
def recO (fn : FuncId) (tmps : Array Value) (ps : Array Tmp) (assign body : Code) (D : Nat) (st : LoopState) (pe : Option Code) : Obj := .loop { state := st, pending := pe, fn, tmps, params := ps, assign, body, defers := D }
def RecAt (D : Nat) (o : Obj) (W : World) : Prop := W.heap[D + 1]? = some o ∧ W.heap[D]? = some (.deferred (some []))
theorem RecAt.from {D : Nat} {o : Obj} {W W' : World} (h : RecAt D o W) (ho : o.isCells = false) (hk : KeepsFrom D W W') : RecAt D o W' := ⟨hk.same _ _ (by omega) h.1 ho, hk.same _ _ (Nat.le_refl _) h.2 rfl⟩
theorem RecAt.bel {D : Nat} {o : Obj} {W W' : World} (h : RecAt D o W) (hB : Below W.heap.size W W') : RecAt D o W' := ⟨(hB.block _ (lt_of_heap h.1)).trans h.1, (hB.block _ (lt_of_heap h.2)).trans h.2⟩
theorem RecAt.put {D : Nat} {o : Obj} {W : World} (h : RecAt D o W) (o' : Obj) : RecAt D o' (W.putObj (D + 1) o') := ⟨World.putObj_heap_same (lt_of_heap h.1), (World.putObj_heap_other (by omega)).trans h.2⟩

variable {n : Nat}
/-- one round -/
theorem round_ok {α : Type} {fn : FuncId} {tmps : Array Value} {ps : Array Tmp} {assign body : Code} {D : Nat} {encs : α → Array Value} (hps : ∀ x, (encs x).size = ps.size) (Ok : α → World → Prop) (bad : Nat → Prop)
    (I : List α → World → Prop) (Ix : Code → List α → World → Prop) (hI : OwnFrom D I) (hIx : ∀ c, OwnFrom D (Ix c)) (Ax : α → Act → World → Prop) (hAx : ∀ x a', OwnFrom D (fun (_ : Unit) W => Ax x a' W)) (N : Nat)
    (hassign : ∀ (pre : List α) (x : α) (W : World) (K : Act → World → Prop), I pre W → Ok x W → D + 1 < W.heap.size → (∀ a' W', KeepsFrom D W W' → KeepC bad W W' → I pre W' → Ax x a' W' → K a' W') →
      assign.wpIn (Fence.wide.inRound (D + 1)) n Try.prog (Exit.then K (fun _ _ _ => False)) { tmps := (ps.zip (encs x)).foldl (fun t (p, v) => t.setIfInBounds p v) tmps, defers := [] } W)
    (hbody : ∀ (pre : List α) (x : α) (a' : Act) (W : World), I pre W → Ax x a' W → D + 1 < W.heap.size → pre.length < N → body.wpIn (Fence.wide.inRound (D + 1)) n Try.prog (ownPostG D (KeepC bad) I Ix (pre ++ [x]) W) a' W)
    (pre : List α) (x : α) (W : World) (hJ : I pre W ∧ RecAt D (recO fn tmps ps assign body D .ready none) W) (hlen : pre.length < N) (hok : Ok x W) :
    YieldAt Fence.wide n Try.prog (D + 1) (encs x) W fun e W' => (e = .returned (.bool true) ∧ (I (pre ++ [x]) W' ∧ RecAt D (recO fn tmps ps assign body D .ready none) W') ∧ KeepC bad W W' ∧ W.heap.size ≤ W'.heap.size) ∨
      (e = .returned (.bool false) ∧ ∃ c, Ix c (pre ++ [x]) W' ∧ RecAt D (recO fn tmps ps assign body D .done (some c)) W') := by
  obtain ⟨hi, hr⟩ := hJ
  have hlt := lt_of_heap hr.1
  refine ⟨fn, _, assign, body, run_yield hr.1 (hps x), roundIn_of_wpIn trivial (hassign pre x W _ hi hok hlt ?_)⟩
  intro a' Wa hk1 hc1 hi1 hax
  have hra := hr.from rfl hk1
  have hltA := lt_of_heap hra.1
  refine ⟨_, run_beginRound hra.1 rfl, ?_⟩
  have hrb := hra.put (recO fn tmps ps assign body D .busy none)
  refine wpIn_mono (hbody pre x a' _ (hI.putObj _ hi1 (by omega) hra.1 rfl) ((hAx x a').putObj (s := ()) _ hax (by omega) hra.1 rfl) (lt_of_heap hrb.1) hlen) ?_
  have hcb : KeepC bad W (Wa.putObj (D + 1) (recO fn tmps ps assign body D .busy none)) := hc1.trans (KeepC.put _ hra.1 rfl)
  have hzb : W.heap.size ≤ (Wa.putObj (D + 1) (recO fn tmps ps assign body D .busy none)).heap.size := by simp only [World.putObj, Array.size_setIfInBounds]; exact hk1.size
  have fin : ∀ (jump : Option Code) (W3 : World), KeepsFrom D (Wa.putObj (D + 1) (recO fn tmps ps assign body D .busy none)) W3 →
      RecAt D (recO fn tmps ps assign body D .busy none) W3 := fun jump W3 h3 => hrb.from rfl h3
  rintro e a3 W3 hp
  cases e with
  | normal =>
    obtain ⟨hk3, hc3, hi3⟩ := hp
    have h3 := fin none W3 hk3
    exact ⟨_, _, run_endRound none h3.1, .inl ⟨rfl, ⟨hI.putObj _ hi3 (by omega) h3.1 rfl, h3.put _⟩, (hcb.trans hc3).trans (KeepC.put _ h3.1 rfl), Nat.le_trans hzb (Nat.le_trans hk3.size (by simp [World.putObj]))⟩⟩
  | ret =>
    obtain ⟨hk3, hi3⟩ := hp
    have h3 := fin (some .ret) W3 hk3
    exact ⟨_, _, run_endRound (some .ret) h3.1, .inr ⟨rfl, .ret, (hIx _).putObj _ hi3 (by omega) h3.1 rfl, h3.put _⟩⟩
  | exit id =>
    obtain ⟨hk3, hi3⟩ := hp
    have h3 := fin (some (.exit id)) W3 hk3
    exact ⟨_, _, run_endRound (some (.exit id)) h3.1, .inr ⟨rfl, .exit id, (hIx _).putObj _ hi3 (by omega) h3.1 rfl, h3.put _⟩⟩
  | goto t =>
    obtain ⟨hk3, hi3⟩ := hp
    have h3 := fin (some (.goto t)) W3 hk3
    exact ⟨_, _, run_endRound (some (.goto t)) h3.1, .inr ⟨rfl, .goto t, (hIx _).putObj _ hi3 (by omega) h3.1 rfl, h3.put _⟩⟩
  | panic ch => exact hp.elim
  | outgrown => exact hp.elim

theorem ownFrom_bel {β : Type} {B : Nat} {I : β → World → Prop} (h : OwnFrom B I) {s : β} {A C : World} (hs : I s A) (hB : Below A.heap.size A C) : I s C := h s A C none hs (below_grown hB) (fun r e => by cases e)

/-- the statement -/
theorem range_ok {α : Type} {g : Operand} {ps : Array Tmp} {assign body : Code} {Q : Exit → Act → World → Prop} {a : Act} {w : World} (h1 : 1 ≤ n)
    {gf : Nat} {lb : Array Value} (hg : a.eval g = .func (.func gf) #[] lb) (eg : Enters Try.prog gf) {encs : α → Array Value} (hps : ∀ x, (encs x).size = ps.size) (Ok : α → World → Prop) (bad : Nat → Prop) {S Sp : List α → Prop} {N : Nat} {w0 : World}
    (hseq : SeqOk (n - 1) gf lb encs Ok (KeepC bad) S Sp N w0) (hb0 : Below w0.heap.size w0 w)
    (I : List α → World → Prop) (Ix : Code → List α → World → Prop) (hI : OwnFrom w.heap.size I) (hIx : ∀ c, OwnFrom w.heap.size (Ix c)) (h0 : I [] w) (Ax : α → Act → World → Prop) (hAx : ∀ x a', OwnFrom w.heap.size (fun (_ : Unit) W => Ax x a' W))
    (hassign : ∀ (l : Nat) (pre : List α) (x : α) (W : World) (K : Act → World → Prop), I pre W → Ok x W → w.heap.size + 1 < W.heap.size → (∀ a' W', KeepsFrom w.heap.size W W' → KeepC bad W W' → I pre W' → Ax x a' W' → K a' W') →
      assign.wpIn (Fence.wide.inRound l) (n - 1 - 1) Try.prog (Exit.then K (fun _ _ _ => False)) { tmps := (ps.zip (encs x)).foldl (fun t (p, v) => t.setIfInBounds p v) a.tmps, defers := [] } W)
    (hbody : ∀ (l : Nat) (pre : List α) (x : α) (a' : Act) (W : World), I pre W → Ax x a' W → w.heap.size + 1 < W.heap.size → pre.length < N → body.wpIn (Fence.wide.inRound l) (n - 1 - 1) Try.prog (ownPostG w.heap.size (KeepC bad) I Ix (pre ++ [x]) W) a' W)
    (hdone : ∀ (D : Nat) (xs : List α) (W : World), w.heap.size ≤ D → S xs → I xs W → W.heap[D]? = some (.deferred (some [])) → Q .normal { a with defers := { target := .collected D, args := #[] } :: a.defers } W)
    (hstop : ∀ (D : Nat) (c : Code) (pre : List α) (W : World), w.heap.size ≤ D → Sp pre → Ix c pre W → W.heap[D]? = some (.deferred (some [])) → c.wpIn Fence.wide n Try.prog Q { a with defers := { target := .collected D, args := #[] } :: a.defers } W) :
    (Code.rangeFunc g ps assign body).wpIn Fence.wide n Try.prog Q a w := by
  refine wpIn_rangeFunc ?_
  intro fn hfn
  obtain ⟨W1, hW1⟩ : ∃ W1, (w.alloc (.deferred (some []))).alloc (recO fn a.tmps ps assign body w.heap.size .ready none) = W1 := ⟨_, rfl⟩
  have hB1 : Below w.heap.size w W1 := by rw [← hW1]; exact ((Below.refl _ w).alloc (Nat.le_refl _) _).alloc (by simp) _
  have hR1 : RecAt w.heap.size (recO fn a.tmps ps assign body w.heap.size .ready none) W1 := by
    rw [← hW1]
    exact ⟨heap_new _ _ _ (by simp), heap_up _ (heap_new _ _ _ rfl)⟩
  refine ⟨w.heap.size + 1, [{ target := .collected w.heap.size, args := #[] }], W1, { target := .fn (.func gf) lb, args := #[.func (.yield (w.heap.size + 1)) #[] #[]] }, W1, gf,
    #[.func (.yield (w.heap.size + 1)) #[] #[]] ++ lb, W1, ?_, ?_, ?_, ?_, fun _ => h1, ?_⟩
  · rw [← hW1]; exact run_enterLoop_outer _ _ _ _ _
  · simp only [resolve, hg]
    simp [go_sem]
  · intro f' hf'; simp [Target.leads] at hf'; subst hf'; trivial
  · have := eg
    unfold Enters at this
    simp [invoke, go_sem, this]
  · refine (hseq (w.heap.size + 1) (fun pre W => I pre W ∧ RecAt w.heap.size (recO fn a.tmps ps assign body w.heap.size .ready none) W)
      (fun pre W => ∃ c, Ix c pre W ∧ RecAt w.heap.size (recO fn a.tmps ps assign body w.heap.size .done (some c)) W) W1 (hb0.trans (hB1.mono hb0.size))
      (fun s A C h hB => ⟨ownFrom_bel hI h.1 hB, h.2.bel hB⟩) (fun s A C ⟨c, h, h2⟩ hB => ⟨c, ownFrom_bel (hIx c) h hB, h2.bel hB⟩)
      (fun pre x W hJ hlen hok => round_ok hps Ok bad I Ix hI hIx Ax hAx N (hassign _) (hbody _) pre x W hJ hlen hok) ⟨ownFrom_bel hI h0 hB1, hR1⟩).mono ?_
    rintro e W2 ⟨⟨v, rfl⟩, (⟨xs, hS, hi, hr⟩ | ⟨pre, hSp, c, hi, hr⟩)⟩
    · exact ⟨none, _, run_endLoop hr.1 (by simp), hdone _ xs _ (Nat.le_refl _) hS (hI.putObj _ hi (by omega) hr.1 rfl) ((World.putObj_heap_other (by omega)).trans hr.2)⟩
    · exact ⟨some c, _, run_endLoop hr.1 (by simp), hstop _ c pre _ (Nat.le_refl _) hSp ((hIx c).putObj _ hi (by omega) hr.1 rfl) ((World.putObj_heap_other (by omega)).trans hr.2)⟩
end Go.Proofs.Ytodniacnjdnffaa
