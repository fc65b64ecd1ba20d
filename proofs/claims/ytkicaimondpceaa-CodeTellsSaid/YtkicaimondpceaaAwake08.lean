/- awake of layer 8's law. -/
import Derived.Test.YtkicaimondpceaaCodePut
import Derived.Test.YtkicaimondpceaaCodeTake
namespace Go.Proofs.Ytkicaimondpceaa
open Go.RowKit
set_option linter.unusedVariables false

def awC : Array Value := #[.int .i64 2, .int .u64 2, .int .i64 1, .int .u64 0, .int .i64 2, .int .u64 3]
theorem aw_code : Code [2, 1, 2] := by
  have := (code_of_ok (l := [2, 1, 2]) (by decide)).1
  exact this
theorem aw_code2 : Code [2, 2] := by
  have := (code_of_ok (l := [2, 2]) (by decide)).1
  exact this
theorem aw8_words (w : World) (v : Value) (hv : IsInts w w.heap.size v [2, 1, 2]) : Calls Try.prog 13 #[v] w fun e w' => ∃ g c, e = .returned (.tuple #[.slice (some ⟨g, 0, none⟩) 3 c, .int .i64 0]) ∧ w'.heap[g]? = some (.cells awC 34 (0, 0)) ∧ Below w.heap.size w w' :=
  (words_ok w v [2, 1, 2] hv aw_code).mono fun e w' h => by
    obtain ⟨u, rfl, ⟨g, c, rfl, hg⟩, hB⟩ := h
    exact ⟨g, c, rfl, by rw [hg, show outC [2, 1, 2] (fun _ => true) = awC by kernel_rfl], hB⟩
theorem put_eq {w w' : World} {e : Ending} {l : List Bool} {z : Int} (s : ByteArray) (n : Int) (h : e = .returned (.tuple #[.agg #[.string (txt l), .int .i64 (l.length : Nat)], .int .i64 z]) ∧ Below w.heap.size w w') (h1 : txt l = s) (h2 : (l.length : Int) = n) :
    e = .returned (.tuple #[.agg #[.string s, .int .i64 n], .int .i64 z]) ∧ Below w.heap.size w w' := by
  subst h1 h2
  exact h
theorem aw8_put (w : World) (v u : Value) (hv : IsInts w w.heap.size v [2, 1, 2]) (hu : IsInts w w.heap.size u [2, 1, 0]) : Calls Try.prog 18 #[v, u] w fun e w' => e = .returned (.tuple #[.agg #[.string ⟨#[208]⟩, .int .i64 5], .int .i64 0]) ∧ Below w.heap.size w w' :=
  (cput_any w v u [2, 1, 2] [2, 1, 0] hv aw_code hu (by decide) (by intro x hx; simp at hx; omega)).mono fun e w' h => by
    have h1 : codePut [2, 1, 2] [2, 1, 0] = ([true, true, false, true, false], 0) := by kernel_rfl
    rw [h1] at h
    exact put_eq ⟨#[208]⟩ 5 h (by rfl) (by rfl)
theorem aw8_put2 (w : World) (v u : Value) (hv : IsInts w w.heap.size v [2, 1, 2]) (hu : IsInts w w.heap.size u [3]) : Calls Try.prog 18 #[v, u] w fun e w' => e = .returned (.tuple #[.agg #[.string ⟨#[]⟩, .int .i64 0], .int .i64 5]) ∧ Below w.heap.size w w' :=
  (cput_any w v u [2, 1, 2] [3] hv aw_code hu (by decide) (by intro x hx; simp at hx; omega)).mono fun e w' h => by
    have h1 : codePut [2, 1, 2] [3] = ([], 5) := by kernel_rfl
    rw [h1] at h
    exact put_eq ⟨#[]⟩ 0 h (by rfl) (by rfl)
theorem take8_is (w : World) (v : Value) (l : List Nat) (s : ByteArray) (a : Int) (hv : IsInts w w.heap.size v (ints l)) (hl : Code l) (hs : s.size ≤ 281474976710656) (r : Int × Int × Int) (hr : resT (takeF l s.data.toList a) = r) :
    Calls Try.prog 20 #[v, .string s, .int .i64 a] w fun e w' => e = .returned (.tuple #[.int .i64 r.1, .int .i64 r.2.1, .int .i64 r.2.2]) ∧ Below w.heap.size w w' := by
  subst hr
  exact take_any w v l s a hv hl hs
theorem aw8_take1 (w : World) (v : Value) (hv : IsInts w w.heap.size v [2, 1, 2]) : Calls Try.prog 20 #[v, .string ⟨#[208]⟩, .int .i64 0] w fun e w' => e = .returned (.tuple #[.int .i64 2, .int .i64 2, .int .i64 0]) ∧ Below w.heap.size w w' :=
  take8_is w v [2, 1, 2] ⟨#[208]⟩ 0 hv aw_code (by decide) (2, 2, 0) (by kernel_rfl)
theorem aw8_take2 (w : World) (v : Value) (hv : IsInts w w.heap.size v [2, 1, 2]) : Calls Try.prog 20 #[v, .string ⟨#[255]⟩, .int .i64 7] w fun e w' => e = .returned (.tuple #[.int .i64 0, .int .i64 0, .int .i64 2]) ∧ Below w.heap.size w w' :=
  take8_is w v [2, 1, 2] ⟨#[255]⟩ 7 hv aw_code (by decide) (0, 0, 2) (by kernel_rfl)
theorem aw8_take3 (w : World) (v : Value) (hv : IsInts w w.heap.size v [2, 2]) : Calls Try.prog 20 #[v, .string ⟨#[255]⟩, .int .i64 0] w fun e w' => e = .returned (.tuple #[.int .i64 0, .int .i64 0, .int .i64 3]) ∧ Below w.heap.size w w' :=
  take8_is w v [2, 2] ⟨#[255]⟩ 0 hv aw_code2 (by decide) (0, 0, 3) (by kernel_rfl)
theorem aw8_chk (w : World) (v : Value) (l : List Int) (z : Int) (hv : IsInts w w.heap.size v l) (hl : l.length ≤ 1000000) (hz : checkF l = z) : Calls Try.prog 15 #[v] w fun e w' => e = .returned (.int .i64 z) ∧ Below w.heap.size w w' := by
  subst hz
  exact check_any w v l hv hl

set_option maxRecDepth 100000 in
set_option maxHeartbeats 3200000 in
theorem awake08_any (w : World) : Calls Try.prog 10 #[] w fun e w' => e = .returned (.bool true) ∧ Below w.heap.size w w' := by
  go_enter Try.func10, Try.ntmps10
  have E0 := Lib.hid (Env.nil w)
  have E1 := Lib.hid (E0.out.lit [2, 1, 2] #[.int .i64 2, .int .i64 1, .int .i64 2] (w.heap.size) (by simp) rfl (by simp [maxLen]))
  clear E0 
  go_wp2_with fail
  refine (aw8_words _ _ (E1.out.get 0 rfl)).mono ?_
  rintro e w1 ⟨gw, cw, rfl, hg, hB⟩
  have E2 := Lib.hid (E1.out.fresh hB hg)
  clear E1 hB hg
  have E3 := Lib.hid (E2.out.lit [2, 1, 0] #[.int .i64 2, .int .i64 1, .int .i64 0] (w1.heap.size) (by simp) rfl (by simp [maxLen]))
  clear E2 
  go_wp2_with fail
  refine (aw8_put _ _ _ (E3.out.get 1 rfl) (E3.out.get 0 rfl)).mono ?_
  rintro e w2 ⟨rfl, hB⟩
  have E4 := Lib.hid (E3.out.step hB)
  clear E3 hB  
  have E5 := Lib.hid (E4.out.box #[.string ⟨#[208]⟩, .int .i64 5] 37 (w2.heap.size) (by simp))
  clear E4 
  go_wp2_with fail
  refine (aw8_take1 _ _ (E5.out.get 1 rfl)).mono ?_
  rintro e w3 ⟨rfl, hB⟩
  have E6 := Lib.hid (E5.out.step hB)
  clear E5 hB  
  go_wp2_with fail
  refine (aw8_take2 _ _ (E6.out.get 1 rfl)).mono ?_
  rintro e w4 ⟨rfl, hB⟩
  have E7 := Lib.hid (E6.out.step hB)
  clear E6 hB  
  have E8 := Lib.hid (E7.out.lit [2, 2] #[.int .i64 2, .int .i64 2] (w4.heap.size) (by simp) rfl (by simp [maxLen]))
  clear E7 
  go_wp2_with fail
  refine (aw8_take3 _ _ (E8.out.get 0 rfl)).mono ?_
  rintro e w5 ⟨rfl, hB⟩
  have E9 := Lib.hid (E8.out.step hB)
  clear E8 hB  
  have E10 := Lib.hid (E9.out.lit [3] #[.int .i64 3] (w5.heap.size) (by simp) rfl (by simp [maxLen]))
  clear E9 
  go_wp2_with fail
  refine (aw8_put2 _ _ _ (E10.out.get 3 rfl) (E10.out.get 0 rfl)).mono ?_
  rintro e w6 ⟨rfl, hB⟩
  have E11 := Lib.hid (E10.out.step hB)
  clear E10 hB  
  have E12 := Lib.hid (E11.out.box #[.string ⟨#[]⟩, .int .i64 0] 37 (w6.heap.size) (by simp))
  clear E11 
  have k_b0 := E12.out.cellv 1 rfl 0 _ rfl
  have k_b1 := E12.out.cellv 1 rfl 1 _ rfl
  have k_w0 : _ = some _ := E12.out.cellv 2 rfl 0 _ (by rfl)
  have k_w1 : _ = some _ := E12.out.cellv 2 rfl 1 _ (by rfl)
  have k_w2 : _ = some _ := E12.out.cellv 2 rfl 2 _ (by rfl)
  have k_w3 : _ = some _ := E12.out.cellv 2 rfl 3 _ (by rfl)
  have k_w4 : _ = some _ := E12.out.cellv 2 rfl 4 _ (by rfl)
  have k_w5 : _ = some _ := E12.out.cellv 2 rfl 5 _ (by rfl)
  simp only [awC, List.getElem_toArray, List.getElem_cons_zero, List.getElem_cons_succ] at k_w0 k_w1 k_w2 k_w3 k_w4 k_w5
  have E13 := Lib.hid (E12.out.lit [1, 1, 1] #[.int .i64 1, .int .i64 1, .int .i64 1] (w6.heap.size + 1) (by simp) rfl (by simp [maxLen]))
  clear E12 
  go_wp2_with fail
  refine (aw8_chk _ _ [1, 1, 1] 6 (E13.out.get 0 rfl) (by decide) (by decide)).mono ?_
  rintro e w7 ⟨rfl, hB⟩
  have E14 := Lib.hid (E13.out.step hB)
  clear E13 hB  
  clear k_b0 k_b1
  have E15 := Lib.hid (E14.out.lit [1] #[.int .i64 1] (w7.heap.size) (by simp) rfl (by simp [maxLen]))
  clear E14 
  go_wp2_with fail
  refine (aw8_chk _ _ [1] 1 (E15.out.get 0 rfl) (by decide) (by decide)).mono ?_
  rintro e w8 ⟨rfl, hB⟩
  have E16 := Lib.hid (E15.out.step hB)
  clear E15 hB  
  go_wp2_with fail
  refine (aw8_chk _ _ [2, 1, 2] 0 (E16.out.get 5 rfl) (by decide) (by decide)).mono ?_
  rintro e w9 ⟨rfl, hB⟩
  have E17 := Lib.hid (E16.out.step hB)
  clear E16 hB  
  go_wp2
  go_ret
  exact ⟨rfl, E17.out.bel⟩
end Go.Proofs.Ytkicaimondpceaa
