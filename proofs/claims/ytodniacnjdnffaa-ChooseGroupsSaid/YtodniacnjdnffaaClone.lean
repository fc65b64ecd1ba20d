/- slices.Clone at ints: the walk. -/
import Derived.Test.YtodniacnjdnffaaEnvK
import Derived.Test.YtodniacnjdnffaaKit3
namespace Go.Proofs.Ytodniacnjdnffaa
open Go.RowKit
set_option linter.unusedVariables false

theorem equalIn_nil (w : World) (d : Nat) (a : Addr) (l c : Nat) : (Op.equalIn (d + 1) 22 (.slice (some a) l c) (.slice none 0 0)).run Try.prog w = .ok false w := by
  simp [Op.equalIn, run_underlying under_ints]
theorem equal_nil (w : World) (a : Addr) (l c : Nat) : (Op.equal 22 (.slice (some a) l c) (.slice none 0 0)).run Try.prog w = .ok false w := equalIn_nil w 9999 a l c
theorem eql_nil (w : World) (a : Addr) (l c : Nat) : (binOp .eql 22 (.slice (some a) l c) (.slice none 0 0)).run Try.prog w = .ok (.bool false) w := by
  simp [binOp, equal_nil w a l c]
set_option maxRecDepth 100000 in
set_option maxHeartbeats 1600000 in
theorem clone_any (w : World) (v : Value) (xs : List Int) (hv : IsInts w w.heap.size v xs) (h0 : 0 < xs.length) (hl : xs.length ≤ 1000000) :
    Calls Try.prog 23 #[v] w fun e w' => ∃ q c, e = .returned (.slice q xs.length c) ∧ OwnInts w' w.heap.size (.slice q xs.length c) xs ∧ Below w.heap.size w w' := by
  obtain ⟨A, ca, rfl, hc1, hc2⟩ := hv.shape
  obtain ⟨g, o, rfl, hgb, hc⟩ := hv.at 0 h0
  have HV : Hid (IsInts (w.alloc (.cells #[] 3)) (w.alloc (.cells #[] 3)).heap.size (.slice (some ⟨g, o, none⟩) xs.length ca) xs) := ints_up hv ((Below.refl _ _).alloc (Nat.le_refl _) (.cells #[] 3))
  have HE : Hid (OwnInts (w.alloc (.cells #[] 3)) w.heap.size (.slice (some ⟨w.heap.size, 0, none⟩) 0 0) []) := OwnInts.new w w.heap.size [] #[] _ _ rfl rfl rfl (by simp [maxLen]) (Nat.le_refl _)
  obtain ⟨N, hN⟩ : ∃ N, xs.length = N := ⟨_, rfl⟩
  rw [hN] at HV hc1 hl ⊢
  have HN := Lib.hid hN
  have hnil : ∀ W, (binOp .eql 22 (.slice (some ⟨g, o, none⟩) N ca) (.slice none 0 0)).run Try.prog W = .ok (.bool false) W := fun W => eql_nil W _ _ _
  clear hv hc hN h0
  go_enter Try.func23, Try.ntmps23
  go_wp2_with
    (at_builtin
     refine wpList_append_ints rfl _ _ rfl w.heap.size _ [] rfl HE.out _ _ xs rfl HV.out (by rw [HN.out]; simp; omega) (by simp) ?_
     intro q c w1 hown hg hat
     rw [show ([] : List Int).length + xs.length = N by rw [HN.out]; exact Nat.zero_add _] at hown ⊢
     rw [List.nil_append] at hown
     have Hown := Lib.hid hown
     have HB : Hid (Below w.heap.size w w1) := bel_grown hg ((Below.refl _ _).alloc (Nat.le_refl _) _) (fun k hk => own_ge HE.out hk)
     clear hown hg hat)
  go_ret
  exact ⟨q, c, rfl, Hown.out, HB.out⟩
end Go.Proofs.Ytodniacnjdnffaa
