/- ZeroDigits: the walk. -/
import Derived.Test.YtflhhlemoaifnaaAwake06
namespace Go.Proofs.Ytflhhlemoaifnaa
open Go.RowKit
set_option linter.unusedVariables false

theorem number_ok (v : Value) (d : List Int) (X : Nat) (W : World) (hd : Dig d) (hX : numD d = X) (hl : X ≤ 1099511627776) (hlen : d.length ≤ 281474976710656) (hv : IsInts W W.heap.size v d) :
    Calls Try.prog 16 #[v] W fun e w' => e = .returned (.tuple #[.int .i64 (X : Nat), .int .i64 0]) ∧ Below W.heap.size W w' := by
  subst hX
  refine (number_any v d W hv hlen).mono ?_
  rintro e w' ⟨rfl, hB⟩
  have h1 : ¬ 1099511627776 < numD d := by omega
  have h2 := oddF_of_dig hd
  exact ⟨by simp [numV, numE, h1, h2], hB⟩

theorem dig_one {b : Int} {d : List Int} (h : b = 0 ∨ b = 1) (hd : Dig d) : Dig ([b] ++ d) := fun x hx => by
  rcases List.mem_append.1 hx with h1 | h1
  · simp at h1; subst h1; exact h
  · exact hd x h1

set_option maxRecDepth 100000 in
set_option maxHeartbeats 1600000 in
theorem zdigits_walk (w : World) (n : Int) (v : Value) (raw : List Int) (hn : -9223372036854775808 ≤ n) (hn' : n ≤ 9223372036854775807) (hr : IsInts w w.heap.size v raw) (hrb : I64s raw) :
    Calls Try.prog 5 #[.int .i64 n, v] w fun e w' => e = .returned (.bool true) ∧ Below w.heap.size w w' := by
  have hp := pickF_lt n 1099511627777 (by omega)
  obtain ⟨k, hk⟩ : ∃ k : Nat, pickF n 1099511627777 = (k : Int) := ⟨(pickF n 1099511627777).toNat, by omega⟩
  have hk1 : k ≤ 1099511627776 := by omega
  have Hk := Lib.hid hk
  have HR := Lib.hid hr
  have HRB := Lib.hid hrb
  obtain ⟨A, ca, rfl, hc1, hc2⟩ := hr.shape
  clear hp hk hr hrb
  have hfl := fewF_len raw 38 2
  have hdg : Dig (fewF raw 38 2) := fun x hx => by have := fewF_mem (by omega) x hx; omega
  have hnl := numD_lt _ hdg
  have hback := digs_numD _ hdg
  have CF : ∀ W, IsInts W W.heap.size (.slice A raw.length ca) raw → Calls Try.prog 13 #[.slice A raw.length ca, .int .i64 38, .int .i64 2] W fun e w' => ∃ u, e = .returned u ∧ IsInts w' w'.heap.size u (fewF raw 38 2) ∧ Below W.heap.size W w' := fun W hv =>
    (few06_any W _ raw 38 2 hv HRB.out (by omega) (by omega) (by omega)).mono fun _ _ ⟨u, h1, h2, h3⟩ => ⟨u, h1, h2.is, h3⟩
  generalize fewF raw 38 2 = d at *
  have h2 : 2 ^ (d.length + 1) ≤ 2 ^ 39 := Nat.pow_le_pow_right (by omega) (by omega)
  have hX : numD d ≤ 549755813887 := by omega
  have CX : Hid (∀ (v : Value) W, IsInts W W.heap.size v d → Calls Try.prog 16 #[v] W fun e w' => e = .returned (.tuple #[.int .i64 (numD d : Nat), .int .i64 0]) ∧ Below W.heap.size W w') := fun v W hv => number_ok v d _ W hdg rfl (by omega) (by omega) hv
  have CY : Hid (∀ (v : Value) W, IsInts W W.heap.size v ([0] ++ d) → Calls Try.prog 16 #[v] W fun e w' => e = .returned (.tuple #[.int .i64 (2 * (numD d : Nat) + 1), .int .i64 0]) ∧ Below W.heap.size W w') := fun v W hv =>
    (number_ok v ([0] ++ d) (2 * numD d + 1) W (dig_one (by simp) hdg) (by simp [numD_cons]) (by omega) (by simp; omega) hv).mono fun _ _ h => ⟨h.1.trans (by push_cast; rfl), h.2⟩
  have CZ : Hid (∀ (v : Value) W, IsInts W W.heap.size v ([1] ++ d) → Calls Try.prog 16 #[v] W fun e w' => e = .returned (.tuple #[.int .i64 (2 * (numD d : Nat) + 2), .int .i64 0]) ∧ Below W.heap.size W w') := fun v W hv =>
    (number_ok v ([1] ++ d) (2 * numD d + 2) W (dig_one (by simp) hdg) (by simp [numD_cons]) (by omega) (by simp; omega) hv).mono fun _ _ h => ⟨h.1.trans (by push_cast; rfl), h.2⟩
  have CB : Hid (∀ W, Calls Try.prog 11 #[.int .i64 (numD d : Nat)] W fun e w' => ∃ q c, e = .returned (.slice q d.length c) ∧ IsInts w' w'.heap.size (.slice q d.length c) d ∧ Below W.heap.size W w') := fun W => aw_dig W (numD d : Nat) d (by rw [Int.toNat_natCast, hback]) (by omega) (by omega)
  have CI : Hid (∀ W, IsInts W W.heap.size (.slice A raw.length ca) raw → Calls Try.prog 13 #[.slice A raw.length ca, .int .i64 38, .int .i64 2] W fun e w' => ∃ u, e = .returned u ∧ IsInts w' w'.heap.size u d ∧ Below W.heap.size W w') := fun W hv => CF W hv
  generalize numD d = X at *
  clear hdg hnl hback h2 CF
  go_enter Try.func5, Try.ntmps5
  have L0 := Lib.hid (Live.nil w)
  go_wp2_with fail
  refine (awake06_any _).mono ?_
  rintro e w1 ⟨rfl, hB⟩
  have L1 := Lib.hid (L0.out.step hB)
  clear L0 hB 
  go_wp2_with fail
  refine (pick06_any n 1099511627777 _ hn hn' (by omega) (by omega)).mono ?_
  rintro e w_ ⟨rfl, rfl⟩
  rw [Hk.out]
  go_wp2_with fail
  refine (aw_dig _ (k : Int) (digs k) (by rw [Int.toNat_natCast]) (by omega) (by omega)).mono ?_
  rintro e w2 ⟨q1, c1, rfl, hv, hB⟩
  have L2 := Lib.hid ((L1.out.step hB).add hv)
  clear L1 hB hv 
  go_wp2_with fail
  refine (number_ok _ (digs k) k _ (dig_digs k) (numD_digs k) (by omega) (by have := length_digs_64 k (by omega); omega) (L2.out.get 0 rfl)).mono ?_
  rintro e w3 ⟨rfl, hB⟩
  have L3 := Lib.hid (L2.out.step hB)
  clear L2 hB 
  go_wp2_with fail
  refine (CI.out _ (L3.out.old HR.out)).mono ?_
  rintro e w4 ⟨vd, rfl, hv, hB⟩
  obtain ⟨q2, c2, rfl⟩ : ∃ q c, vd = .slice q d.length c := by obtain ⟨q, c, h, _⟩ := hv.shape; exact ⟨q, c, h⟩
  have L4 := Lib.hid ((L3.out.step hB).add hv)
  clear L3 hB hv 
  go_wp2_with fail
  refine (CX.out _ _ (L4.out.get 0 rfl)).mono ?_
  rintro e w5 ⟨rfl, hB⟩
  have L5 := Lib.hid (L4.out.step hB)
  clear L4 hB 
  go_wp2_with
    (at_builtin
     refine wpList_append_ints rfl _ _ rfl w5.heap.size _ [0] rfl (OwnInts.new w5 _ [0] _ _ _ rfl rfl rfl (by simp [maxLen]) (Nat.le_refl _)) _ _ d rfl ((L5.out.alloc _).get 0 rfl) (by simp; omega) (by simp) ?_
     intro q6 c6 w6 hown hg hat
     have hB : Below w5.heap.size w5 w6 := ((Below.refl _ _).alloc (Nat.le_refl _) _).grown hg (by simp) (fun k hk => own_ge (OwnInts.new w5 w5.heap.size [0] #[.int .i64 0] _ _ rfl rfl rfl (by simp [maxLen]) (Nat.le_refl _)) hk)
     have hv := hown.is
     have L6 := Lib.hid ((L5.out.step hB).add hv)
     clear hown hg hat hB hv L5)
  refine (CY.out _ _ (L6.out.get 0 rfl)).mono ?_
  rintro e w7 ⟨rfl, hB⟩
  have L7 := Lib.hid (L6.out.step hB)
  clear L6 hB 
  go_wp2_with
    (at_builtin
     refine wpList_append_ints rfl _ _ rfl w7.heap.size _ [1] rfl (OwnInts.new w7 _ [1] _ _ _ rfl rfl rfl (by simp [maxLen]) (Nat.le_refl _)) _ _ d rfl ((L7.out.alloc _).get 1 rfl) (by simp; omega) (by simp) ?_
     intro q8 c8 w8 hown hg hat
     have hB : Below w7.heap.size w7 w8 := ((Below.refl _ _).alloc (Nat.le_refl _) _).grown hg (by simp) (fun k hk => own_ge (OwnInts.new w7 w7.heap.size [1] #[.int .i64 1] _ _ rfl rfl rfl (by simp [maxLen]) (Nat.le_refl _)) hk)
     have hv := hown.is
     have L8 := Lib.hid ((L7.out.step hB).add hv)
     clear hown hg hat hB hv L7)
  refine (CZ.out _ _ (L8.out.get 0 rfl)).mono ?_
  rintro e w9 ⟨rfl, hB⟩
  have L9 := Lib.hid (L8.out.step hB)
  clear L8 hB 
  go_wp2_with fail
  refine (CB.out _).mono ?_
  rintro e w10 ⟨q5, c5, rfl, hv, hB⟩
  have L10 := Lib.hid ((L9.out.step hB).add hv)
  clear L9 hB hv 
  go_wp2_with fail
  refine (aw_ints _ _ _ d (L10.out.get 0 rfl) (L10.out.get 3 rfl) (by omega)).mono ?_
  rintro e w11 ⟨rfl, hB⟩
  have L11 := Lib.hid (L10.out.step hB)
  clear L10 hB 
  go_wp2
  go_ret
  exact ⟨rfl, L11.out.bel⟩
end Go.Proofs.Ytflhhlemoaifnaa
