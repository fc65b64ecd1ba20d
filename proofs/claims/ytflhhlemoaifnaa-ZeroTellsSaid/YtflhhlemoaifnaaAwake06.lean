/- awake of the law's package: its first calls answer as they must. -/
import Derived.Test.YtflhhlemoaifnaaZeroDec
import Derived.Test.YtflhhlemoaifnaaRefInts
import Derived.Test.YtflhhlemoaifnaaFew06
namespace Go.Proofs.Ytflhhlemoaifnaa
open Go.RowKit
set_option linter.unusedVariables false

theorem aw_enc1 (W : World) (v : Value) (hv : IsInts W W.heap.size v [0, 0, 0, 5, 0]) : Calls Try.prog 14 #[v] W fun e w' => ∃ u, e = .returned (.tuple #[u, .int .i64 0]) ∧ IsInts w' w'.heap.size u [0, 0, 6, 0] ∧ Below W.heap.size W w' := by
  have h1 : encE [0, 0, 0, 5, 0] = 0 := by decide
  have h2 : encV [0, 0, 0, 5, 0] = [0, 0, 6, 0] := by simp [encV, negF, bigF, enc, encA, digs_pos, digs_zero]
  refine (encode_any W v _ hv (by decide)).mono ?_
  rintro e w' ⟨u, rfl, ho, hB⟩
  rw [h2] at ho
  rw [h1]
  exact ⟨u, rfl, ho.is, hB⟩
theorem aw_enc2 (W : World) (v : Value) (hv : IsInts W W.heap.size v [-1]) : Calls Try.prog 14 #[v] W fun e w' => ∃ u, e = .returned (.tuple #[u, .int .i64 1]) ∧ Below W.heap.size W w' := by
  have h1 : encE [-1] = 1 := by decide
  refine (encode_any W v _ hv (by decide)).mono ?_
  rintro e w' ⟨u, rfl, ho, hB⟩
  rw [h1]
  exact ⟨u, rfl, hB⟩
theorem aw_dec1 (W : World) (v : Value) (hv : IsInts W W.heap.size v [0, 0, 6, 0]) : Calls Try.prog 19 #[v, .int .i64 5] W fun e w' => ∃ u, e = .returned (.tuple #[u, .int .i64 0]) ∧ IsInts w' w'.heap.size u [0, 0, 0, 5, 0] ∧ Below W.heap.size W w' := by
  have h1 : decE [0, 0, 6, 0] 5 = 0 := by decide
  have h2 : decV [0, 0, 6, 0] 5 = [0, 0, 0, 5, 0] := by decide
  refine (decode_any W v _ 5 hv (by decide) (by unfold I64s; decide) (by decide) (by decide)).mono ?_
  rintro e w' ⟨u, rfl, ho, hB⟩
  rw [h2] at ho
  rw [h1]
  exact ⟨u, rfl, ho.is, hB⟩
theorem aw_dec2 (W : World) (v : Value) (hv : IsInts W W.heap.size v [0, 0, 6, 0]) : Calls Try.prog 19 #[v, .int .i64 4] W fun e w' => ∃ u, e = .returned (.tuple #[u, .int .i64 4]) ∧ Below W.heap.size W w' := by
  have h1 : decE [0, 0, 6, 0] 4 = 4 := by decide
  refine (decode_any W v _ 4 hv (by decide) (by unfold I64s; decide) (by decide) (by decide)).mono ?_
  rintro e w' ⟨u, rfl, ho, hB⟩
  rw [h1]
  exact ⟨u, rfl, hB⟩
theorem aw_num1 (W : World) (v : Value) (hv : IsInts W W.heap.size v [1, 0]) : Calls Try.prog 16 #[v] W fun e w' => e = .returned (.tuple #[.int .i64 4, .int .i64 0]) ∧ Below W.heap.size W w' :=
  (number_any v _ W hv (by decide)).mono fun _ _ h => ⟨h.1.trans (by rw [show numV [1, 0] = 4 by decide, show numE [1, 0] = 0 by decide]), h.2⟩
theorem aw_num2 (W : World) (v : Value) (hv : IsInts W W.heap.size v [2]) : Calls Try.prog 16 #[v] W fun e w' => e = .returned (.tuple #[.int .i64 0, .int .i64 1]) ∧ Below W.heap.size W w' :=
  (number_any v _ W hv (by decide)).mono fun _ _ h => ⟨h.1.trans (by rw [show numV [2] = 0 by decide, show numE [2] = 1 by decide]), h.2⟩
theorem aw_ints (W : World) (va vb : Value) (xs : List Int) (ha : IsInts W W.heap.size va xs) (hb : IsInts W W.heap.size vb xs) (hl : xs.length ≤ 281474976710656) : Calls Try.prog 10 #[va, vb] W fun e w' => e = .returned (.bool true) ∧ Below W.heap.size W w' :=
  (refInts_any W va vb _ _ ha hb hl hl).mono fun _ _ h => ⟨h.1.trans (congrArg (fun b => Ending.returned (.bool b)) (by simp)), h.2⟩
theorem aw_dig (W : World) (n : Int) (xs : List Int) (h : digs n.toNat = xs) (h1 : -9223372036854775808 ≤ n) (h2 : n ≤ 9223372036854775807) : Calls Try.prog 11 #[.int .i64 n] W fun e w' => ∃ q c, e = .returned (.slice q xs.length c) ∧ IsInts w' w'.heap.size (.slice q xs.length c) xs ∧ Below W.heap.size W w' := by
  refine (digits_any n W h1 h2).mono ?_
  rintro e w' ⟨u, rfl, ho, hB⟩
  rw [h] at ho
  obtain ⟨q, c, rfl⟩ := ho.shape
  exact ⟨q, c, rfl, ho.is, hB⟩

set_option maxRecDepth 100000 in
set_option maxHeartbeats 1600000 in
theorem awake06_any (w : World) : Calls Try.prog 9 #[] w fun e w' => e = .returned (.bool true) ∧ Below w.heap.size w w' := by
  go_enter Try.func9, Try.ntmps9
  have L0 := Lib.hid (Live.nil w)
  have L1 := Lib.hid (L0.out.lit [0, 0, 0, 5, 0] #[.int .i64 0, .int .i64 0, .int .i64 0, .int .i64 5, .int .i64 0] _ rfl rfl (by decide))
  clear L0
  go_wp2_with fail
  refine (aw_enc1 _ _ (L1.out.get 0 rfl)).mono ?_
  rintro e w2 ⟨l, rfl, hv, hB⟩
  have L2 := Lib.hid ((L1.out.step hB).add hv)
  clear L1 hB hv
  have L3 := Lib.hid (L2.out.drop (m := [(l, [0, 0, 6, 0])]) (by simp))
  clear L2
  go_wp2_with fail
  refine (aw_dec1 _ _ (L3.out.get 0 rfl)).mono ?_
  rintro e w4 ⟨m, rfl, hv, hB⟩
  have L4 := Lib.hid ((L3.out.step hB).add hv)
  clear L3 hB hv
  go_wp2_with fail
  refine (aw_dec2 _ _ (L4.out.get 1 rfl)).mono ?_
  rintro e w5 ⟨_, rfl, hB⟩
  have L5 := Lib.hid (L4.out.step hB)
  clear L4 hB
  have L6 := Lib.hid (L5.out.lit [-1] #[.int .i64 (-1)] _ rfl rfl (by decide))
  clear L5
  go_wp2_with fail
  refine (aw_enc2 _ _ (L6.out.get 0 rfl)).mono ?_
  rintro e w7 ⟨_, rfl, hB⟩
  have L7 := Lib.hid (L6.out.step hB)
  clear L6 hB
  have L8 := Lib.hid (L7.out.drop (m := [(m, [0, 0, 0, 5, 0]), (l, [0, 0, 6, 0])]) (by simp))
  clear L7
  have L9 := Lib.hid (L8.out.lit [1, 0] #[.int .i64 1, .int .i64 0] _ rfl rfl (by decide))
  clear L8
  go_wp2_with fail
  refine (aw_num1 _ _ (L9.out.get 0 rfl)).mono ?_
  rintro e w10 ⟨rfl, hB⟩
  have L10 := Lib.hid (L9.out.step hB)
  clear L9 hB
  have L11 := Lib.hid (L10.out.drop (m := [(m, [0, 0, 0, 5, 0]), (l, [0, 0, 6, 0])]) (by simp))
  clear L10
  have L12 := Lib.hid (L11.out.lit [2] #[.int .i64 2] _ rfl rfl (by decide))
  clear L11
  go_wp2_with fail
  refine (aw_num2 _ _ (L12.out.get 0 rfl)).mono ?_
  rintro e w13 ⟨rfl, hB⟩
  have L13 := Lib.hid (L12.out.step hB)
  clear L12 hB
  have L14 := Lib.hid (L13.out.drop (m := [(m, [0, 0, 0, 5, 0]), (l, [0, 0, 6, 0])]) (by simp))
  clear L13
  go_wp2_with fail
  refine (aw_dig _ 4 [1, 0] (by simp [digs_pos, digs_zero]) (by decide) (by decide)).mono ?_
  rintro e w15 ⟨a, c1, rfl, hv, hB⟩
  have L15 := Lib.hid ((L14.out.step hB).add hv)
  clear L14 hB hv
  have L16 := Lib.hid (L15.out.lit [1, 0] #[.int .i64 1, .int .i64 0] _ rfl rfl (by decide))
  clear L15
  go_wp2_with fail
  refine (aw_ints _ _ _ [1, 0] (L16.out.get 1 rfl) (L16.out.get 0 rfl) (by decide)).mono ?_
  rintro e w17 ⟨rfl, hB⟩
  have L17 := Lib.hid (L16.out.step hB)
  clear L16 hB
  have L18 := Lib.hid (L17.out.drop (m := [(.slice a [1, 0].length c1, [1, 0]), (m, [0, 0, 0, 5, 0]), (l, [0, 0, 6, 0])]) (by simp))
  clear L17
  have L19 := Lib.hid (L18.out.drop (m := [(m, [0, 0, 0, 5, 0]), (l, [0, 0, 6, 0])]) (by simp))
  clear L18
  go_wp2_with fail
  refine (aw_dig _ 3 [0, 0] (by simp [digs_pos, digs_zero]) (by decide) (by decide)).mono ?_
  rintro e w20 ⟨a2, c2, rfl, hv, hB⟩
  have L20 := Lib.hid ((L19.out.step hB).add hv)
  clear L19 hB hv
  have L21 := Lib.hid (L20.out.lit [0, 0] #[.int .i64 0, .int .i64 0] _ rfl rfl (by decide))
  clear L20
  go_wp2_with fail
  refine (aw_ints _ _ _ [0, 0] (L21.out.get 1 rfl) (L21.out.get 0 rfl) (by decide)).mono ?_
  rintro e w22 ⟨rfl, hB⟩
  have L22 := Lib.hid (L21.out.step hB)
  clear L21 hB
  have L23 := Lib.hid (L22.out.drop (m := [(.slice a2 [0, 0].length c2, [0, 0]), (m, [0, 0, 0, 5, 0]), (l, [0, 0, 6, 0])]) (by simp))
  clear L22
  have L24 := Lib.hid (L23.out.drop (m := [(m, [0, 0, 0, 5, 0]), (l, [0, 0, 6, 0])]) (by simp))
  clear L23
  go_wp2_with fail
  refine (aw_dig _ 0 [] (by simp [digs_zero]) (by decide) (by decide)).mono ?_
  rintro e w25 ⟨a3, c3, rfl, hv, hB⟩
  have L25 := Lib.hid ((L24.out.step hB).add hv)
  clear L24 hB hv
  have L26 := Lib.hid (L25.out.drop (m := [(m, [0, 0, 0, 5, 0]), (l, [0, 0, 6, 0])]) (by simp))
  clear L25
  have L27 := Lib.hid (L26.out.lit [0, 0, 6, 0] #[.int .i64 0, .int .i64 0, .int .i64 6, .int .i64 0] _ rfl rfl (by decide))
  clear L26
  go_wp2_with fail
  refine (aw_ints _ _ _ [0, 0, 6, 0] (L27.out.get 2 rfl) (L27.out.get 0 rfl) (by decide)).mono ?_
  rintro e w28 ⟨rfl, hB⟩
  have L28 := Lib.hid (L27.out.step hB)
  clear L27 hB
  have L29 := Lib.hid (L28.out.drop (m := [(m, [0, 0, 0, 5, 0]), (l, [0, 0, 6, 0])]) (by simp))
  clear L28
  have L30 := Lib.hid (L29.out.lit [0, 0, 0, 5, 0] #[.int .i64 0, .int .i64 0, .int .i64 0, .int .i64 5, .int .i64 0] _ rfl rfl (by decide))
  clear L29
  go_wp2_with fail
  refine (aw_ints _ _ _ [0, 0, 0, 5, 0] (L30.out.get 1 rfl) (L30.out.get 0 rfl) (by decide)).mono ?_
  rintro e w31 ⟨rfl, hB⟩
  have L31 := Lib.hid (L30.out.step hB)
  clear L30 hB
  have L32 := Lib.hid (L31.out.drop (m := [(m, [0, 0, 0, 5, 0]), (l, [0, 0, 6, 0])]) (by simp))
  clear L31
  go_wp2
  go_ret
  exact ⟨rfl, L32.out.bel⟩
end Go.Proofs.Ytflhhlemoaifnaa
