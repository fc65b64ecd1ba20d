/- awake of the law's package: its first calls answer as they must. -/
import Derived.Test.YtdngbmoippadhaaDeltaTake
import Derived.Test.YtdngbmoippadhaaEnv2
import Derived.Test.YtdngbmoippadhaaRefInts
namespace Go.Proofs.Ytdngbmoippadhaa
open Go.RowKit
set_option linter.unusedVariables false

/-- what is taken, as the walks are told -/
theorem take_ok (w : World) (s : ByteArray) (a n : Nat) (l : List Nat) (x : Nat) (hs : s.size ≤ 1099511627776) (ha : a ≤ 9223372036854775807) (hn : 2 ≤ n ∧ n ≤ 258) (h : takeR s.data.toList a n = .ok (l, x)) :
    Calls Try.prog 14 #[.string s, .int .i64 a, .int .i64 n] w fun e w' => ∃ q c, e = .returned (.tuple #[.slice q l.length c, .int .i64 (x : Nat), .int .i64 0]) ∧ IsInts w' w'.heap.size (.slice q l.length c) (ints l) ∧ Below w.heap.size w w' := by
  refine (take_any w s a n hs ha hn.1 hn.2).mono ?_
  rw [h]
  rintro e w' ⟨v, rfl, ho, hB⟩
  obtain ⟨q, c, rfl⟩ := ho.shape
  rw [length_ints] at ho ⊢
  exact ⟨q, c, rfl, ho.is, hB⟩
theorem take_er (w : World) (s : ByteArray) (a n : Nat) (c : Int) (hs : s.size ≤ 1099511627776) (ha : a ≤ 9223372036854775807) (hn : 2 ≤ n ∧ n ≤ 258) (h : takeR s.data.toList a n = .error c) :
    Calls Try.prog 14 #[.string s, .int .i64 a, .int .i64 n] w fun e w' => e = .returned (.tuple #[.slice none 0 0, .int .i64 0, .int .i64 c]) ∧ Below w.heap.size w w' := by
  refine (take_any w s a n hs ha hn.1 hn.2).mono ?_
  rw [h]
  exact fun e w' h => h
theorem aw_take (w : World) (s : ByteArray) (a n : Nat) (l : List Nat) (x : Nat) (hs : s.size ≤ 1099511627776) (ha : a ≤ 9223372036854775807) (hn : 2 ≤ n ∧ n ≤ 258) (h : takeR s.data.toList a n = .ok (l, x)) :
    Calls Try.prog 14 #[.string s, .int .i64 a, .int .i64 n] w fun e w' => ∃ q c, e = .returned (.tuple #[.slice q l.length c, .int .i64 (x : Nat), .int .i64 0]) ∧ IsInts w' w'.heap.size (.slice q l.length c) (ints l) ∧ Below w.heap.size w w' := take_ok w s a n l x hs ha hn h
theorem aw_take0 (w : World) (s : ByteArray) (a n : Nat) (c : Int) (hs : s.size ≤ 1099511627776) (ha : a ≤ 9223372036854775807) (hn : 2 ≤ n ∧ n ≤ 258) (h : takeR s.data.toList a n = .error c) :
    Calls Try.prog 14 #[.string s, .int .i64 a, .int .i64 n] w fun e w' => e = .returned (.tuple #[.slice none 0 0, .int .i64 0, .int .i64 c]) ∧ Below w.heap.size w w' := take_er w s a n c hs ha hn h
theorem aw_put1 (w : World) (v : Value) (hv : IsInts w w.heap.size v [3, 4, 4, 2]) : Calls Try.prog 11 #[v] w fun e w' => e = .returned (.tuple #[.agg #[.string ⟨#[26, 60]⟩, .int .i64 15], .int .i64 0]) ∧ Below w.heap.size w w' :=
  (delta_put_ok w v [3, 4, 4, 2] hv (by decide) (by decide) (by decide)).mono fun _ _ h => ⟨h.1.trans (congrArg (fun b => Ending.returned (.tuple #[.agg b, .int .i64 0])) (show #[Value.string (txt (deltaL [3, 4, 4, 2])), .int .i64 ((deltaL [3, 4, 4, 2]).length : Nat)] = #[.string ⟨#[26, 60]⟩, .int .i64 15] by kernel_rfl)), h.2⟩
theorem aw_ints (W : World) (va vb : Value) (ha : IsInts W W.heap.size va [3, 4, 4, 2]) (hb : IsInts W W.heap.size vb [3, 4, 4, 2]) : Calls Try.prog 16 #[va, vb] W fun e w' => e = .returned (.bool true) ∧ Below W.heap.size W w' :=
  (refInts_any W va vb _ _ ha hb (by decide) (by decide)).mono fun _ _ h => ⟨h.1.trans (congrArg (fun b => Ending.returned (.bool b)) (by decide)), h.2⟩

set_option maxRecDepth 100000 in
set_option maxHeartbeats 1600000 in
theorem awake9_any (w : World) : Calls Try.prog 9 #[] w fun e w' => e = .returned (.bool true) ∧ Below w.heap.size w w' := by
  go_enter Try.func9, Try.ntmps9
  have E0 := Lib.hid (Env.nil w)
  have E1 := Lib.hid (E0.out.lit [3, 4, 4, 2] #[.int .i64 3, .int .i64 4, .int .i64 4, .int .i64 2] (w.heap.size) (by simp) rfl (by simp [maxLen]))
  clear E0 
  go_wp2_with fail
  refine (aw_put1 _ _ (E1.out.get 0 rfl)).mono ?_
  rintro e w1 ⟨rfl, hB⟩
  have E2 := Lib.hid (E1.out.step hB)
  clear E1 hB  
  have E3 := Lib.hid (E2.out.box #[.string ⟨#[26, 60]⟩, .int .i64 15] 27 (w1.heap.size) (by simp))
  clear E2 
  have k_b0 := E3.out.cellv 0 rfl 0 _ rfl
  have k_b1 := E3.out.cellv 0 rfl 1 _ rfl
  go_wp2_with fail
  refine (aw_take _ ⟨#[26, 60]⟩ 0 4 [3, 4, 4, 2] 15 (by decide) (by decide) (by decide) (by kernel_rfl)).mono ?_
  rintro e w2 ⟨q1, c1, rfl, hv, hB⟩
  have E4 := Lib.hid ((E3.out.step hB).add hv)
  clear E3 hB hv 
  clear k_b0 k_b1
  have k_b0 := E4.out.cellv 0 rfl 0 _ rfl
  have k_b1 := E4.out.cellv 0 rfl 1 _ rfl
  go_wp2_with fail
  refine (aw_take _ ⟨#[26, 60]⟩ 0 5 [3, 4, 4, 2, 2] 16 (by decide) (by decide) (by decide) (by kernel_rfl)).mono ?_
  rintro e w3 ⟨q2, c2, rfl, hv, hB⟩
  have E5 := Lib.hid ((E4.out.step hB).add hv)
  clear E4 hB hv 
  clear k_b0 k_b1
  go_wp2_with fail
  refine (aw_take0 _ ⟨#[0]⟩ 0 2 3 (by decide) (by decide) (by decide) (by kernel_rfl)).mono ?_
  rintro e w4 ⟨rfl, hB⟩
  have E6 := Lib.hid (E5.out.step hB)
  clear E5 hB  
  go_wp2_with fail
  refine (aw_take0 _ ⟨#[]⟩ 0 2 2 (by decide) (by decide) (by decide) (by kernel_rfl)).mono ?_
  rintro e w5 ⟨rfl, hB⟩
  have E7 := Lib.hid (E6.out.step hB)
  clear E6 hB  
  go_wp2_with fail
  refine (take_no _ ⟨#[]⟩ 0 1 (.inr (by decide))).mono ?_
  rintro e w6 ⟨rfl, hB⟩
  have E8 := Lib.hid (E7.out.step hB)
  clear E7 hB  
  have E9 := Lib.hid (E8.out.lit [3, 21] #[.int .i64 3, .int .i64 21] (w6.heap.size) (by simp) rfl (by simp [maxLen]))
  clear E8 
  go_wp2_with fail
  refine (delta_put_no _ _ [3, 21] (E9.out.get 0 rfl) (by decide) (by decide)).mono ?_
  rintro e w7 ⟨rfl, hB⟩
  have E10 := Lib.hid (E9.out.step hB)
  clear E9 hB  
  have E11 := Lib.hid (E10.out.box #[.string ⟨#[]⟩, .int .i64 0] 27 (w7.heap.size) (by simp))
  clear E10 
  have k_b0 := E11.out.cellv 1 rfl 0 _ rfl
  have k_b1 := E11.out.cellv 1 rfl 1 _ rfl
  have E12 := Lib.hid (E11.out.lit [3, 4, 4, 2] #[.int .i64 3, .int .i64 4, .int .i64 4, .int .i64 2] (w7.heap.size + 1) (by simp) rfl (by simp [maxLen]))
  clear E11 
  go_wp2_with fail
  refine (aw_ints _ _ _ (E12.out.get 3 rfl) (E12.out.get 0 rfl)).mono ?_
  rintro e w8 ⟨rfl, hB⟩
  have E13 := Lib.hid (E12.out.step hB)
  clear E12 hB  
  clear k_b0 k_b1
  go_wp2
  go_ret
  exact ⟨rfl, E13.out.bel⟩
end Go.Proofs.Ytdngbmoippadhaa
