/- awake of the law's package; its own words: pick, Symbols. -/
import Derived.Test.YtpccdohhiojlkaaSelPut
import Derived.Test.YtpccdohhiojlkaaRefInts
namespace Go.Proofs.Ytpccdohhiojlkaa
open Go.RowKit
set_option linter.unusedVariables false

/-- what is taken, as the walks are told -/
theorem take_ok (w : World) (s : ByteArray) (a c t : Nat) (l : List Nat) (x : Nat) (hs : s.size ≤ 1099511627776) (ha : a ≤ 9223372036854775807) (hc : c ≤ 1048576) (ht : 2 ≤ t ∧ t ≤ 6) (h : selR s.data.toList t a c = .ok (l, x)) :
    Calls Try.prog 13 #[.string s, .int .i64 (a : Nat), .int .i64 (c : Nat), .int .i64 (t : Nat)] w fun e w' => ∃ q c, e = .returned (.tuple #[.slice q l.length c, .int .i64 (x : Nat), .int .i64 0]) ∧ IsInts w' w'.heap.size (.slice q l.length c) (ints l) ∧ Below w.heap.size w w' := by
  refine (selTake_any w s a c t hs ha hc ht.1 ht.2).mono ?_
  rw [h]
  rintro e w' ⟨v, rfl, ho, hB⟩
  obtain ⟨q, c, rfl⟩ := ho.shape
  rw [length_ints] at ho ⊢
  exact ⟨q, c, rfl, ho.is, hB⟩
theorem take_er (w : World) (s : ByteArray) (a c t : Nat) (e0 : Int) (hs : s.size ≤ 1099511627776) (ha : a ≤ 9223372036854775807) (hc : c ≤ 1048576) (ht : 2 ≤ t ∧ t ≤ 6) (h : selR s.data.toList t a c = .error e0) :
    Calls Try.prog 13 #[.string s, .int .i64 (a : Nat), .int .i64 (c : Nat), .int .i64 (t : Nat)] w fun e w' => e = .returned (.tuple #[.slice none 0 0, .int .i64 0, .int .i64 e0]) ∧ Below w.heap.size w w' := by
  refine (selTake_any w s a c t hs ha hc ht.1 ht.2).mono ?_
  rw [h]
  exact fun e w' h => h
theorem aw_put1 (w : World) (v : Value) (hv : IsInts w w.heap.size v [1, 1, 0, 2]) : Calls Try.prog 11 #[v, .int .i64 3] w fun e w' => e = .returned (.tuple #[.agg #[.string ⟨#[150]⟩, .int .i64 8], .int .i64 0]) ∧ Below w.heap.size w w' :=
  (selPut_any w v [1, 1, 0, 2] 3 hv (by decide) (by decide) (by decide) (by decide)).mono fun _ _ h => ⟨h.1.trans (congrArg (fun b => Ending.returned (.tuple #[.agg b, .int .i64 0])) (show #[Value.string (txt (selL (List.range 6) [1, 1, 0, 2])), .int .i64 ((selL (List.range 6) [1, 1, 0, 2]).length : Nat)] = #[.string ⟨#[150]⟩, .int .i64 8] by kernel_rfl)), h.2⟩
theorem aw_ints (W : World) (va vb : Value) (ha : IsInts W W.heap.size va [1, 1, 0, 2]) (hb : IsInts W W.heap.size vb [1, 1, 0, 2]) : Calls Try.prog 15 #[va, vb] W fun e w' => e = .returned (.bool true) ∧ Below W.heap.size W w' :=
  (refInts_any W va vb _ _ ha hb (by decide) (by decide)).mono fun _ _ h => ⟨h.1.trans (congrArg (fun b => Ending.returned (.bool b)) (by decide)), h.2⟩

set_option maxRecDepth 100000 in
set_option maxHeartbeats 1600000 in
theorem awake12_any (w : World) : Calls Try.prog 8 #[] w fun e w' => e = .returned (.bool true) ∧ Below w.heap.size w w' := by
  go_enter Try.func8, Try.ntmps8
  have E0 := Lib.hid (Env.nil w)
  have E1 := Lib.hid (E0.out.lit [1, 1, 0, 2] #[.int .i64 1, .int .i64 1, .int .i64 0, .int .i64 2] (w.heap.size) (by simp) rfl (by simp [maxLen]))
  clear E0 
  go_wp2_with fail
  refine (aw_put1 _ _ (E1.out.get 0 rfl)).mono ?_
  rintro e w1 ⟨rfl, hB⟩
  have E2 := Lib.hid (E1.out.step hB)
  clear E1 hB  
  have E3 := Lib.hid (E2.out.box #[.string ⟨#[150]⟩, .int .i64 8] 28 (w1.heap.size) (by simp))
  clear E2 
  have k_b0 := E3.out.cellv 0 rfl 0 _ rfl
  have k_b1 := E3.out.cellv 0 rfl 1 _ rfl
  go_wp2_with fail
  refine (take_ok _ ⟨#[150]⟩ 0 4 3 [1, 1, 0, 2] 8 (by decide) (by decide) (by decide) (by decide) (by kernel_rfl)).mono ?_
  rintro e w2 ⟨q1, c1, rfl, hv, hB⟩
  have E4 := Lib.hid ((E3.out.step hB).add hv)
  clear E3 hB hv 
  clear k_b0 k_b1
  go_wp2_with fail
  refine (take_er _ ⟨#[255]⟩ 0 1 3 3 (by decide) (by decide) (by decide) (by decide) (by kernel_rfl)).mono ?_
  rintro e w3 ⟨rfl, hB⟩
  have E5 := Lib.hid (E4.out.step hB)
  clear E4 hB  
  go_wp2_with fail
  refine (take_er _ ⟨#[]⟩ 0 1 3 2 (by decide) (by decide) (by decide) (by decide) (by kernel_rfl)).mono ?_
  rintro e w4 ⟨rfl, hB⟩
  have E6 := Lib.hid (E5.out.step hB)
  clear E5 hB  
  go_wp2_with fail
  refine (selTake_arg _ ⟨#[]⟩ 0 0 7 (by decide)).mono ?_
  rintro e w5 ⟨rfl, hB⟩
  have E7 := Lib.hid (E6.out.step hB)
  clear E6 hB  
  have E8 := Lib.hid (E7.out.lit [3] #[.int .i64 3] (w5.heap.size) (by simp) rfl (by simp [maxLen]))
  clear E7 
  go_wp2_with fail
  refine (selPut_none _ _ [3] 3 (E8.out.get 0 rfl) (by decide) (by decide) (by decide) (by decide)).mono ?_
  rintro e w6 ⟨rfl, hB⟩
  have E9 := Lib.hid (E8.out.step hB)
  clear E8 hB  
  have E10 := Lib.hid (E9.out.box #[.string ⟨#[]⟩, .int .i64 0] 28 (w6.heap.size) (by simp))
  clear E9 
  go_wp2_with fail
  refine (selPut_arg _ _ 1 (by decide)).mono ?_
  rintro e w7 ⟨rfl, hB⟩
  have E11 := Lib.hid (E10.out.step hB)
  clear E10 hB  
  have E12 := Lib.hid (E11.out.box #[.string ⟨#[]⟩, .int .i64 0] 28 (w7.heap.size) (by simp))
  clear E11 
  have k_b0 := E12.out.cellv 2 rfl 0 _ rfl
  have k_b1 := E12.out.cellv 2 rfl 1 _ rfl
  have E13 := Lib.hid (E12.out.lit [1, 1, 0, 2] #[.int .i64 1, .int .i64 1, .int .i64 0, .int .i64 2] (w7.heap.size + 1) (by simp) rfl (by simp [maxLen]))
  clear E12 
  go_wp2_with fail
  refine (aw_ints _ _ _ (E13.out.get 2 rfl) (E13.out.get 0 rfl)).mono ?_
  rintro e w8 ⟨rfl, hB⟩
  have E14 := Lib.hid (E13.out.step hB)
  clear E13 hB  
  clear k_b0 k_b1
  go_wp2
  go_ret
  exact ⟨rfl, E14.out.bel⟩
set_option maxHeartbeats 400000 in
theorem pick12_any (c n : Int) (w : World) (hc : -9223372036854775808 ≤ c) (hc' : c ≤ 9223372036854775807) (hn : 0 < n) (hn' : n ≤ 9223372036854775807) :
    Calls Try.prog 9 #[.int .i64 c, .int .i64 n] w fun e w' => e = .returned (.int .i64 (pickF c n)) ∧ w = w' := by
  by_cases h : c < 0
  · have e : pickF c n = (-(c + 1)) % n := by unfold pickF; rw [if_pos h]
    rw [e]; clear e
    go_enter Try.func9, Try.ntmps9
    go_wp2
    go_ret
    exact ⟨ret_int (by rw [← Int.neg_tmod]; exact Int.tmod_eq_emod_of_nonneg (by omega)), rfl⟩
  · have e : pickF c n = c % n := by unfold pickF; rw [if_neg h]
    rw [e]; clear e
    go_enter Try.func9, Try.ntmps9
    go_wp2
    go_ret
    exact ⟨rfl, rfl⟩
set_option maxHeartbeats 400000 in
theorem pick08_any (c n : Int) (w : World) (hc : -9223372036854775808 ≤ c) (hc' : c ≤ 9223372036854775807) (hn : 0 < n) (hn' : n ≤ 9223372036854775807) :
    Calls Try.prog 20 #[.int .i64 c, .int .i64 n] w fun e w' => e = .returned (.int .i64 (pickF c n)) ∧ w = w' := by
  by_cases h : c < 0
  · have e : pickF c n = (-(c + 1)) % n := by unfold pickF; rw [if_pos h]
    rw [e]; clear e
    go_enter Try.func20, Try.ntmps20
    go_wp2
    go_ret
    exact ⟨ret_int (by rw [← Int.neg_tmod]; exact Int.tmod_eq_emod_of_nonneg (by omega)), rfl⟩
  · have e : pickF c n = c % n := by unfold pickF; rw [if_neg h]
    rw [e]; clear e
    go_enter Try.func20, Try.ntmps20
    go_wp2
    go_ret
    exact ⟨rfl, rfl⟩
/-- symbols of raw numbers -/
def symsF (raw : List Int) (n : Nat) (i : Nat) : List Nat := (raw.take i).map fun c => (pickF c n).toNat
theorem symsF_lt (raw : List Int) (n i : Nat) (hn : 0 < n) : ∀ x ∈ symsF raw n i, x < n := by
  intro x hx
  simp only [symsF, List.mem_map] at hx
  obtain ⟨c, _, rfl⟩ := hx
  have := pickF_lt c n (by omega)
  omega
theorem symsF_len (raw : List Int) (n i : Nat) : (symsF raw n i).length ≤ i := by simp [symsF]; omega
theorem symsF_snoc (raw : List Int) (n i : Nat) (x : Int) (hx : raw[i]? = some x) : symsF raw n (i + 1) = symsF raw n i ++ [(pickF x n).toNat] := by
  unfold symsF
  rw [List.take_add_one, hx, List.map_append]
  rfl
set_option maxRecDepth 100000 in
set_option maxHeartbeats 1600000 in
theorem syms_any (w : World) (v : Value) (raw : List Int) (n m : Nat) (hv : IsInts w w.heap.size v raw) (hr : I64s raw) (hn : 0 < n) (hn' : n ≤ 1000000) (hm : m ≤ 1000000) :
    Calls Try.prog 10 #[v, .int .i64 (n : Nat), .int .i64 (m : Nat)] w fun e w' => ∃ u, e = .returned u ∧ OwnInts w' w.heap.size u (ints (symsF raw n m)) ∧ Below w.heap.size w w' := by
  obtain ⟨A, ca, rfl, hc1, hc2⟩ := hv.shape
  obtain ⟨N, hN⟩ : ∃ N, raw.length = N := ⟨_, rfl⟩
  rw [hN] at hv hc1 ⊢
  have HN := Lib.hid hN
  have Hv := Lib.hid hv
  have Hr := Lib.hid hr
  clear hv hr hN
  go_enter Try.func10, Try.ntmps10
  go_wp2
  go_loopw [7, 8] (fun ov iv wr => ∃ i : Nat, i ≤ N ∧ i ≤ m ∧ iv = .int .i64 i ∧ OwnInts wr w.heap.size ov (ints (symsF raw n i)) ∧ Below w.heap.size w wr) (fun _ iv _ => N + 1 - (intOf iv).toNat)
  case atStart => exact ⟨0, Nat.zero_le _, Nat.zero_le _, rfl, OwnInts.nil _ _, Below.refl _ _⟩
  case round =>
    obtain ⟨i, hi, him, rfl, hown, hB⟩ := hrel
    have Hown := Lib.hid hown
    have hzB := hB.size
    have hfl := symsF_len raw n i
    clear hown
    by_cases hlt : i < N
    · by_cases hlm : i < m
      · obtain ⟨g, o, rfl, hg, hc⟩ := Hv.out.at i (by rw [HN.out]; exact hlt)
        obtain ⟨x, hx⟩ : ∃ x, raw[i]? = some x := ⟨_, List.getElem?_eq_getElem (by rw [HN.out]; exact hlt)⟩
        rw [hx] at hc
        simp only [Option.getD_some] at hc
        have hc' : wr.cell? ⟨g, o + i, none⟩ = some (.int .i64 x) := (hB.cell (p := ⟨g, o + i, none⟩) hg).trans hc
        have hxb := Hr.out x (List.mem_of_getElem? hx)
        have hsnoc := Lib.hid (symsF_snoc raw n i x hx)
        have hp := pickF_lt x n (by omega)
        obtain ⟨p, hpe⟩ : ∃ p : Nat, pickF x n = (p : Int) := ⟨(pickF x n).toNat, by omega⟩
        rw [hpe, Int.toNat_natCast] at hsnoc
        have CP : Hid (∀ W, Calls Try.prog 20 #[.int .i64 x, .int .i64 (n : Nat)] W fun e w' => e = .returned (.int .i64 (p : Nat)) ∧ W = w') := fun W => by
          have := pick08_any x n W (by omega) (by omega) (by omega) (by omega)
          rw [hpe] at this; exact this
        clear hc hx hpe hxb hp
        go_wp2_with fail
        refine (CP.out _).mono ?_
        rintro e w1 ⟨rfl, rfl⟩
        go_wp2_with
          (at_builtin
           refine wpList_append_ints rfl _ _ rfl w.heap.size _ (ints (symsF raw n i)) rfl (Hown.out.alloc _) (wr.heap.size + 1) _ [(p : Int)] rfl (IsInts.new wr [(p : Int)] _ _ _ rfl rfl rfl (by simp [maxLen])) (by rw [length_ints]; simp; omega) (by simp; omega) ?_
           intro q' c' w1 hown1 hg1 hat1
           have Hown1 := Lib.hid hown1
           have hB1 : Below w.heap.size w w1 := (hB.alloc (by omega) _).grown hg1 (by simp; omega) (fun k hk => by have := own_ge Hown.out hk; omega)
           clear hg1 hat1 hown1)
        go_roundw
        case rel => exact ⟨i + 1, by omega, by omega, by go_num, by rw [hsnoc.out, ints_snoc]; exact Hown1.out, hB1⟩
        case measure => simp [intOf]; omega
      · obtain rfl : i = m := by omega
        go_wp2
        go_ret
        exact ⟨_, rfl, Hown.out, hB⟩
    · have he : Hid (symsF raw n m = symsF raw n i) := by
        show _ = _
        unfold symsF
        rw [List.take_of_length_le (by have := HN.out; omega), List.take_of_length_le (by have := HN.out; omega)]
      go_wp2
      go_ret
      exact ⟨_, rfl, by rw [he.out]; exact Hown.out, hB⟩
theorem syms_is (W : World) (v : Value) (raw : List Int) (n m : Nat) (h : IsInts W W.heap.size v raw) (hr : I64s raw) (hn : 0 < n) (hn' : n ≤ 1000000) (hm : m ≤ 1000000) : Calls Try.prog 10 #[v, .int .i64 (n : Nat), .int .i64 (m : Nat)] W fun e w' => ∃ q c, e = .returned (.slice q (symsF raw n m).length c) ∧ IsInts w' w'.heap.size (.slice q (symsF raw n m).length c) (ints (symsF raw n m)) ∧ Below W.heap.size W w' := by
  refine (syms_any W v raw n m h hr hn hn' hm).mono ?_
  rintro e w' ⟨u, rfl, ho, hB⟩
  obtain ⟨q, c, rfl⟩ := ho.shape
  rw [length_ints] at ho ⊢
  exact ⟨q, c, rfl, ho.is, hB⟩
end Go.Proofs.Ytpccdohhiojlkaa
