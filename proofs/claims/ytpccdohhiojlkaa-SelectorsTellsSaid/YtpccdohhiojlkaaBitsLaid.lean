/- What something lays, as bits or as an error: the deferred recover. -/
import Derived.Test.YtpccdohhiojlkaaBitsLays
import Derived.Shelf.Abstract
namespace Go.Proofs.Ytpccdohhiojlkaa
open Go.RowKit
set_option linter.unusedVariables false

set_option maxHeartbeats 400000 in
theorem catch_idle (p q : Addr) (w : World) :
    CallsD Try.prog 46 #[.pointer (some p), .pointer (some q)] .returning w fun e u' w' => e = .returned (.tuple #[]) ∧ u' = .returning ∧ w' = w := by
  refine callsD_of_wpS Try.func46 rfl fun c₀ cs hu => ?_
  apply wpS_seq
  apply wpS_region
  simp [wpOpsS, go_sem, recoverD, hu, Try.ntmps46, Exit.thenS]
  refine wpS_of_wp ?_
  go_wp2
  obtain ⟨fn0, tm0, td0, df0, md0, kd0⟩ := c₀
  obtain rfl : md0 = _ := hu
  simp [bodyPostS, results, Try.results46]

theorem hta : ∀ w, (Instr.typeAssert (.iface 83 (.agg #[])) 20 83 true).run Try.prog w = .ok (.tuple #[.agg #[], .bool true]) w := fun _ => by kernel_rfl

set_option maxHeartbeats 400000 in
theorem catch_wrong (b g : Nat) (s : ByteArray) (n z : Int) (w : World) (hbg : ¬ b = g) (hgb : ¬ g = b) (hb : w.heap[b]? = some (.cells #[.string s, .int .i64 n] 28 (0, 0))) (hg : w.heap[g]? = some (.cells #[.int .i64 z] 29 (0, 0))) :
    CallsD Try.prog 46 #[.pointer (some ⟨b, 0, none⟩), .pointer (some ⟨g, 0, none⟩)] (.panicking [{ v := .iface 83 (.agg #[]), recovered := false }]) w fun e u' w' => e = .returned (.tuple #[]) ∧ u' = .panicking [{ v := .iface 83 (.agg #[]), recovered := true }] ∧ w' = (((w.setCell ⟨b, 0, none⟩ (.string ⟨#[]⟩)).setCell ⟨b, 1, none⟩ (.int .i64 0)).setCell ⟨g, 0, none⟩ (.int .i64 1)).alloc (.cells #[] 83) := by
  have hta := hta
  have c0 : w.cell? ⟨b, 0, none⟩ = some (.string s) := cell_of_heap hb 0
  have c1 : w.cell? ⟨b, 1, none⟩ = some (.int .i64 n) := cell_of_heap hb 1
  have c2 : w.cell? ⟨g, 0, none⟩ = some (.int .i64 z) := cell_of_heap hg 0
  have f0 := frozen_of_heap hb
  have f1 := frozen_of_heap hg
  have hbl := lt_of_heap hb
  have hgl := lt_of_heap hg
  refine callsD_of_wpS Try.func46 rfl fun c₀ cs hu => ?_
  apply wpS_seq
  apply wpS_region
  simp [wpOpsS, go_sem, recoverD, hu, Try.ntmps46, Exit.thenS]
  refine wpS_of_wp ?_
  go_wp2
  obtain ⟨fn0, tm0, td0, df0, md0, kd0⟩ := c₀
  obtain rfl : md0 = _ := hu
  simp [bodyPostS, results, Try.results46]

/-- bits as the program's value -/
def bitsVal (l : List Bool) : Value := .agg #[.string ⟨(B.pack l).toArray⟩, .int .i64 (l.length : Nat)]
/-- what laying comes to, as a pair -/
def laidVal : Option (List Bool) → Value
  | some l => .tuple #[bitsVal l, .int .i64 0]
  | none => .tuple #[.agg #[.string ⟨#[]⟩, .int .i64 0], .int .i64 1]

set_option maxHeartbeats 400000 in
theorem laid_any (w : World) (k : Nat) (cap : Array Value) (ls : Option (List Bool)) (hk : Enters Try.prog k)
    (hcl : ∀ (W : World) (b : Nat), Below w.heap.size w W → w.heap.size ≤ b → Wr W b [] → Calls Try.prog k (#[.pointer (some ⟨b, 0, none⟩)] ++ cap) W (Laid W b ls)) :
    Calls Try.prog 34 #[.func (.func k) #[] cap] w fun e w' => e = .returned (laidVal ls) ∧ Below w.heap.size w w' := by
  have hmf := hmf
  have Hcl := Lib.hid hcl
  clear hcl
  go_enter_defers Try.func34, Try.ntmps34
  have hW : ∀ (W : World), Wr ((W.alloc (.cells #[.slice none 0 0, .int .i64 0] 85))) W.heap.size [] := fun W =>
    ⟨.slice none 0 0, heap_alloc_new W _, World.ownsRow_nil _ _ _ _⟩
  obtain ⟨w3, hw3⟩ : ∃ w3, w3 = ((w.alloc (.cells #[.string ⟨#[]⟩, .int .i64 0] 28)).alloc (.cells #[.int .i64 0] 29)).alloc (.cells #[.slice none 0 0, .int .i64 0] 85) := ⟨_, rfl⟩
  have hsz : w.heap.size + 3 = w3.heap.size := by rw [hw3]; simp
  have hB3 : Below w.heap.size w w3 := by rw [hw3]; exact (((Below.refl _ _).alloc (Nat.le_refl _) _).alloc (by simp) _).alloc (by simp; omega) _
  have hW3 : Wr w3 (w.heap.size + 1 + 1) [] := by rw [hw3]; have := hW ((w.alloc (.cells #[.string ⟨#[]⟩, .int .i64 0] 28)).alloc (.cells #[.int .i64 0] 29)); simpa using this
  have hb0 : w3.heap[w.heap.size]? = some (.cells #[.string ⟨#[]⟩, .int .i64 0] 28 (0, 0)) := by
    rw [hw3, Below.heap_alloc _ _ _ (by simp; omega), Below.heap_alloc _ _ _ (by simp)]
    exact heap_alloc_new w _
  have hb1 : w3.heap[w.heap.size + 1]? = some (.cells #[.int .i64 0] 29 (0, 0)) := by
    rw [hw3, Below.heap_alloc _ _ _ (by simp)]
    have := heap_alloc_new (w.alloc (.cells #[.string ⟨#[]⟩, .int .i64 0] 28)) (.cells #[.int .i64 0] 29)
    simpa using this
  have Hw3 := Lib.hid hw3
  clear hw3 hW
  have C := Lib.hid (Hcl.out w3 _ hB3 (by omega) hW3)
  have hen := hk
  unfold Enters at hen
  go_wp2_with fail
  rw [← Hw3.out]
  refine C.out.mono ?_
  rintro e w4 ⟨hB4, hL⟩
  have h40 := (hB4.block w.heap.size (by omega)).trans hb0
  have h41 := (hB4.block (w.heap.size + 1) (by omega)).trans hb1
  have hz4 : w.heap.size + 3 ≤ w4.heap.size := by have := hB4.size; omega
  have hB := hB3.trans (hB4.mono (by omega))
  clear hb0 hb1 hW3 hB3 hsz Hw3 C hen
  cases ls with
  | none =>
    obtain rfl := hL
    go_wp2
    refine leaves_cons (f := 46) (args := #[.pointer (some ⟨w.heap.size, 0, none⟩), .pointer (some ⟨w.heap.size + 1, 0, none⟩)]) (by simp) (by simp [go_sem]) ?_
    refine (catch_wrong w.heap.size (w.heap.size + 1) _ _ _ w4 (by omega) (by omega) h40 h41).mono ?_
    rintro e u' w'' ⟨rfl, rfl, rfl⟩
    have s1 := heap_set_ (heap_set_ h40 0 (.string ⟨#[]⟩)) 1 (.int .i64 0)
    have s2 := ((Below.heap_setCell _ ⟨w.heap.size, 1, none⟩ (.int .i64 0) (w.heap.size + 1) (by simp)).trans (Below.heap_setCell w4 ⟨w.heap.size, 0, none⟩ (.string ⟨#[]⟩) (w.heap.size + 1) (by simp))).trans h41
    have s3 := heap_set_ s2 0 (.int .i64 1)
    have s4 := (Below.heap_setCell _ ⟨w.heap.size + 1, 0, none⟩ (.int .i64 1) w.heap.size (by simp)).trans s1
    have s5 := (Below.heap_alloc _ (.cells #[] 83) _ (lt_of_heap s4)).trans s4
    have s6 := (Below.heap_alloc _ (.cells #[] 83) _ (lt_of_heap s3)).trans s3
    have hB' : Below w.heap.size w ((((w4.setCell ⟨w.heap.size, 0, none⟩ (.string ⟨#[]⟩)).setCell ⟨w.heap.size, 1, none⟩ (.int .i64 0)).setCell ⟨w.heap.size + 1, 0, none⟩ (.int .i64 1)).alloc (.cells #[] 83)) :=
      (((hB.setCell (p := ⟨w.heap.size, 0, none⟩) (Nat.le_refl _) _).setCell (p := ⟨w.heap.size, 1, none⟩) (Nat.le_refl _) _).setCell (p := ⟨w.heap.size + 1, 0, none⟩) (by simp) _).alloc (by simp; omega) _
    generalize ((((w4.setCell ⟨w.heap.size, 0, none⟩ (.string ⟨#[]⟩)).setCell ⟨w.heap.size, 1, none⟩ (.int .i64 0)).setCell ⟨w.heap.size + 1, 0, none⟩ (.int .i64 1)).alloc (.cells #[] 83)) = W at *
    have c0 : W.cell? ⟨w.heap.size, 0, none⟩ = some (.string ⟨#[]⟩) := cell_of_heap s5 0
    have c1 : W.cell? ⟨w.heap.size, 1, none⟩ = some (.int .i64 0) := cell_of_heap s5 1
    have c2 : W.cell? ⟨w.heap.size + 1, 0, none⟩ = some (.int .i64 1) := cell_of_heap s6 0
    simp [Leaves, settle, results, Try.results34, go_sem, c0, c1, c2, laidVal]
    exact hB'
  | some l =>
    obtain ⟨rfl, v, hv, hown⟩ := hL
    have hcv := convert_own _ hown
    have c0 : w4.cell? ⟨w.heap.size, 0, none⟩ = some (.string ⟨#[]⟩) := cell_of_heap h40 0
    have c1 : w4.cell? ⟨w.heap.size, 1, none⟩ = some (.int .i64 0) := cell_of_heap h40 1
    have c2 : w4.cell? ⟨w.heap.size + 1, 0, none⟩ = some (.int .i64 0) := cell_of_heap h41 0
    have c3 : w4.cell? ⟨w.heap.size + 1 + 1, 0, none⟩ = some v := cell_of_heap hv 0
    have c4 : w4.cell? ⟨w.heap.size + 1 + 1, 1, none⟩ = some (.int .i64 l.length) := cell_of_heap hv 1
    have f0 := frozen_of_heap h40
    have f1 := frozen_of_heap h41
    have f2 := frozen_of_heap hv
    have Hown := Lib.hid hown
    have H40 := Lib.hid h40
    have H41 := Lib.hid h41
    have Hv := Lib.hid hv
    clear hown h40 h41 hv
    go_wp2
    refine leaves_cons (f := 46) (args := #[.pointer (some ⟨w.heap.size, 0, none⟩), .pointer (some ⟨w.heap.size + 1, 0, none⟩)]) (by simp) (by simp [go_sem]) ?_
    refine (catch_idle _ _ _).mono ?_
    rintro e u' w'' ⟨rfl, rfl, rfl⟩
    simp [Leaves, settle, results, Try.results34, go_sem, c0, c1, c2, laidVal]
    exact ⟨rfl, ((hB.setCell (p := ⟨w.heap.size, 0, none⟩) (Nat.le_refl _) _).setCell (p := ⟨w.heap.size, 1, none⟩) (Nat.le_refl _) _).setCell (p := ⟨w.heap.size + 1, 0, none⟩) (by simp) _⟩
end Go.Proofs.Ytpccdohhiojlkaa
