/- Words for slices that are read: no function of the program. -/
import Derived.Test.YtodniacnjdnffaaProg
import Derived.WalkKit
import Derived.WalkSpells
import Derived.WalkLawsBesides
import Derived.Lib.Hide
import Derived.Maps.AppendAt
import Derived.RangeFuncBox
namespace Go.Proofs.Ytodniacnjdnffaa
open Go.RowKit
set_option linter.unusedVariables false

/-- the slice value v has n elements of k cells each, which are xs, all below block B -/
def Rd (w : World) (B k : Nat) (v : Value) (n : Nat) (xs : List Value) : Prop :=
  xs.length = n * k ∧ ∃ A cap, v = .slice A n cap ∧ n ≤ cap ∧ cap ≤ maxLen ∧
    (0 < n → ∃ g o, A = some ⟨g, o, none⟩ ∧ g < B ∧ ∀ (i : Nat) (x : Value), xs[i]? = some x → w.cell? ⟨g, o + i, none⟩ = some x)

theorem Rd.below {w w' : World} {B B' k n : Nat} {v : Value} {xs : List Value} (h : Rd w B k v n xs) (hB : Below B' w w') (hle : B ≤ B') : Rd w' B k v n xs := by
  obtain ⟨h1, A, cap, hv, h2, h3, h4⟩ := h
  refine ⟨h1, A, cap, hv, h2, h3, fun hn => ?_⟩
  obtain ⟨g, o, hA, hg, hc⟩ := h4 hn
  exact ⟨g, o, hA, hg, fun i x hx => (hB.cell (p := ⟨g, o + i, none⟩) (by simp; omega)).trans (hc i x hx)⟩
theorem Rd.mono {w : World} {B B' k n : Nat} {v : Value} {xs : List Value} (h : Rd w B k v n xs) (hle : B ≤ B') : Rd w B' k v n xs := by
  obtain ⟨h1, A, cap, hv, h2, h3, h4⟩ := h
  refine ⟨h1, A, cap, hv, h2, h3, fun hn => ?_⟩
  obtain ⟨g, o, hA, hg, hc⟩ := h4 hn
  exact ⟨g, o, hA, by omega, hc⟩
/-- kept over whatever leaves the blocks below B as they were -/
theorem Rd.keep {w w' : World} {B k n : Nat} {v : Value} {xs : List Value} (h : Rd w B k v n xs) (hk : ∀ j o, j < B → w'.cell? ⟨j, o, none⟩ = w.cell? ⟨j, o, none⟩) : Rd w' B k v n xs := by
  obtain ⟨h1, A, cap, hv, h2, h3, h4⟩ := h
  refine ⟨h1, A, cap, hv, h2, h3, fun hn => ?_⟩
  obtain ⟨g, o, hA, hg, hc⟩ := h4 hn
  exact ⟨g, o, hA, hg, fun i x hx => (hk g (o + i) hg).trans (hc i x hx)⟩
theorem Rd.nil (w : World) (B k : Nat) : Rd w B k (.slice none 0 0) 0 [] := ⟨by simp, none, 0, rfl, Nat.le_refl _, Nat.zero_le _, fun h => absurd h (Nat.lt_irrefl _)⟩
theorem Rd.own {w : World} {base e k n : Nat} {v : Value} {xs : List Value} (h : w.ownsRow base e k v n xs) : Rd w w.heap.size k v n xs := by
  refine ⟨h.1, ?_⟩
  rcases h.2 with ⟨rfl, rfl⟩ | ⟨g, cap, cur, rfl, hb, hg, hnc, hcm, hcs, htake⟩
  · exact ⟨none, 0, rfl, Nat.le_refl _, Nat.zero_le _, fun h => absurd h (Nat.lt_irrefl _)⟩
  · refine ⟨some ⟨g, 0, none⟩, cap, rfl, hnc, hcm, fun _ => ⟨g, 0, rfl, ?_, fun i x hx => ?_⟩⟩
    · rcases Nat.lt_or_ge g w.heap.size with hlt | hge
      · exact hlt
      · rw [Array.getElem?_eq_none hge] at hg; cases hg
    · have hc : w.cell? ⟨g, i, none⟩ = cur[i]? := by simp [World.cell?, hg]
      rw [Nat.zero_add, hc]
      rw [← htake, List.getElem?_take] at hx
      split at hx
      · simpa using hx
      · cases hx
/-- a slice that a literal has just made -/
theorem Rd.new (w : World) (cs : Array Value) (t k n : Nat) (h : cs.size = n * k) (hn : n ≤ maxLen) :
    Rd (w.alloc (.cells cs t)) (w.heap.size + 1) k (.slice (some ⟨w.heap.size, 0, none⟩) n n) n cs.toList := by
  refine ⟨by simpa using h, _, n, rfl, Nat.le_refl _, hn, fun _ => ⟨w.heap.size, 0, rfl, Nat.lt_succ_self _, fun i x hx => ?_⟩⟩
  have : (w.alloc (.cells cs t)).heap[w.heap.size]? = some (.cells cs t (0, 0)) := heap_alloc_new w _
  simp only [World.cell?, this, Nat.zero_add]
  simpa using hx
/-- where a slice with elements lies -/
theorem Rd.addr {w : World} {B k n : Nat} {A : Option Addr} {len cap : Nat} {xs : List Value} (h : Rd w B k (.slice A len cap) n xs) (hn : 0 < n) :
    ∃ g o, A = some ⟨g, o, none⟩ ∧ g < B ∧ ∀ (i : Nat) (x : Value), xs[i]? = some x → w.cell? ⟨g, o + i, none⟩ = some x := by
  obtain ⟨h1, A', cap', hv, h2, h3, h4⟩ := h
  injection hv with e1 e2 e3
  subst e1 e2 e3
  exact h4 hn
/-- an element of one cell -/
theorem Rd.one {w : World} {B n : Nat} {A : Option Addr} {len cap : Nat} {xs : List Value} (h : Rd w B 1 (.slice A len cap) n xs) (i : Nat) (hi : i < n) :
    len = n ∧ ∃ g o x, A = some ⟨g, o, none⟩ ∧ g < B ∧ xs[i]? = some x ∧ w.cell? ⟨g, o + i, none⟩ = some x := by
  obtain ⟨h1, A', cap', hv, h2, h3, h4⟩ := h
  injection hv with e1 e2 e3
  subst e1 e2 e3
  obtain ⟨g, o, hA, hg, hc⟩ := h4 (by omega)
  have hx : xs[i]? = some (xs[i]'(by omega)) := List.getElem?_eq_getElem (by omega)
  exact ⟨rfl, g, o, _, hA, hg, hx, hc i _ hx⟩

/-- ints as cells -/
def intCells (xs : List Int) : List Value := xs.map (.int .i64)
theorem length_intCells (xs : List Int) : (intCells xs).length = xs.length := by simp [intCells]
theorem getElem?_intCells (xs : List Int) (i : Nat) : (intCells xs)[i]? = xs[i]?.map (.int .i64) := by simp [intCells]
theorem intCells_append (xs ys : List Int) : intCells (xs ++ ys) = intCells xs ++ intCells ys := by simp [intCells]
theorem one_intCells (xs : List Int) : ∀ u ∈ intCells xs, u.oneCell' = true := by
  intro u hu
  simp only [intCells, List.mem_map] at hu
  obtain ⟨x, _, rfl⟩ := hu
  rfl
/-- v reads as the ints xs -/
def IsInts (w : World) (B : Nat) (v : Value) (xs : List Int) : Prop := Rd w B 1 v xs.length (intCells xs)
theorem IsInts.below {w w' : World} {B B' : Nat} {v : Value} {xs : List Int} (h : IsInts w B v xs) (hB : Below B' w w') (hle : B ≤ B') : IsInts w' B v xs := Rd.below h hB hle
theorem IsInts.mono {w : World} {B B' : Nat} {v : Value} {xs : List Int} (h : IsInts w B v xs) (hle : B ≤ B') : IsInts w B' v xs := Rd.mono h hle
theorem IsInts.shape {w : World} {B : Nat} {v : Value} {xs : List Int} (h : IsInts w B v xs) : ∃ A cap, v = .slice A xs.length cap ∧ xs.length ≤ cap ∧ cap ≤ maxLen := by
  obtain ⟨_, A, cap, hv, h2, h3, _⟩ := h
  exact ⟨A, cap, hv, h2, h3⟩
theorem IsInts.at {w : World} {B : Nat} {A : Option Addr} {len cap : Nat} {xs : List Int} (h : IsInts w B (.slice A len cap) xs) (i : Nat) (hi : i < xs.length) :
    ∃ g o, A = some ⟨g, o, none⟩ ∧ g < B ∧ w.cell? ⟨g, o + i, none⟩ = some (.int .i64 (xs[i]?.getD 0)) := by
  obtain ⟨_, g, o, x, hA, hg, hx, hc⟩ := Rd.one h i hi
  rw [getElem?_intCells] at hx
  refine ⟨g, o, hA, hg, ?_⟩
  rw [hc, ← hx, List.getElem?_eq_getElem hi]
  rfl
end Go.Proofs.Ytodniacnjdnffaa
