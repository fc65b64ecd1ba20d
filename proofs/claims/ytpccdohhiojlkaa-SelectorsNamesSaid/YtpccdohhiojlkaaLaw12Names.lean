/- SelectorsNames: the walk. -/
import Derived.Test.YtpccdohhiojlkaaAwake12
namespace Go.Proofs.Ytpccdohhiojlkaa
open Go.RowKit
set_option linter.unusedVariables false

/-- to and fro between two tables -/
def froL (k : Nat) : List Nat := (List.range k).map fun j => (j + 1) % 2
theorem froL_snoc (k : Nat) : froL (k + 1) = froL k ++ [(k + 1) % 2] := by simp [froL, List.range_succ]
theorem froL_lt (k : Nat) : ∀ n ∈ froL k, n < 2 := by
  intro n hn
  simp only [froL, List.mem_map] at hn
  obtain ⟨j, _, rfl⟩ := hn
  omega
def alt : Nat → Nat → List Nat
  | _, 0 => []
  | s, k + 1 => (s % 2) :: alt (s + 1) k
theorem alt_range (k : Nat) : ∀ s, alt s k = (List.range k).map fun j => (s + j) % 2 := by
  induction k with
  | zero => intro s; rfl
  | succ k ih =>
    intro s
    rw [alt, ih, List.range_succ_eq_map, List.map_cons, List.map_map]
    congr 1
    apply List.map_congr_left
    intro j _
    simp only [Function.comp]
    congr 1
    omega
theorem froL_alt (k : Nat) : froL k = alt 1 k := by
  rw [alt_range]
  unfold froL
  apply List.map_congr_left
  intro j _
  rw [Nat.add_comm]
theorem length_alt (k : Nat) : ∀ s, (s % 2 = 1 → (selL [0, 1, 2, 3, 4, 5] (alt s k)).length = 2 * k) ∧ (s % 2 = 0 → (selL [1, 0, 2, 3, 4, 5] (alt s k)).length = 2 * k) := by
  induction k with
  | zero => intro s; exact ⟨fun _ => rfl, fun _ => rfl⟩
  | succ k ih =>
    intro s
    refine ⟨fun h => ?_, fun h => ?_⟩
    · rw [alt, selL, h, show ([0, 1, 2, 3, 4, 5] : List Nat).idxOf 1 = 1 from rfl, show mtf [0, 1, 2, 3, 4, 5] 1 = [1, 0, 2, 3, 4, 5] from rfl, List.length_append, (ih (s + 1)).2 (by omega), length_unary]
      omega
    · rw [alt, selL, h, show ([1, 0, 2, 3, 4, 5] : List Nat).idxOf 0 = 1 from rfl, show mtf [1, 0, 2, 3, 4, 5] 1 = [0, 1, 2, 3, 4, 5] from rfl, List.length_append, (ih (s + 1)).1 (by omega), length_unary]
      omega
theorem length_fro (k : Nat) : (selL (List.range 6) (froL k)).length = 2 * k := by
  rw [froL_alt]
  exact (length_alt k 1).1 rfl
theorem selL_zeros (k : Nat) : selL (List.range 6) (List.replicate k 0) = List.replicate k false := by
  induction k with
  | zero => rfl
  | succ k ih =>
    rw [List.replicate_succ, selL, show (List.range 6).idxOf 0 = 0 from rfl, show mtf (List.range 6) 0 = List.range 6 from rfl, ih]
    rfl
theorem low_zeros (k : Nat) : B.low 0 k = List.replicate k false := by
  induction k with
  | zero => rfl
  | succ k ih => rw [B.low_succ, ih, List.replicate_succ, Nat.zero_testBit]

set_option maxRecDepth 100000 in
set_option maxHeartbeats 6400000 in
theorem snames_walk (w : World) (v : Value) (raw : List Int) (tables more n : Int) (hv : IsInts w w.heap.size v raw) (hr : I64s raw) (ht : -9223372036854775808 ≤ tables) (ht' : tables ≤ 9223372036854775807) (hm0 : -9223372036854775808 ≤ more) (hm0' : more ≤ 9223372036854775807) (hn : -9223372036854775808 ≤ n) (hn' : n ≤ 9223372036854775807) :
    Calls Try.prog 5 #[.int .i64 tables, v, .int .i64 more, .int .i64 n] w fun e w' => e = .returned (.bool true) ∧ Below w.heap.size w w' := by
  have HRW := Lib.hid hv
  have hp5 := pickF_lt tables 5 (by omega)
  obtain ⟨a, ha⟩ : ∃ k : Nat, pickF tables 5 = (k : Int) := ⟨(pickF tables 5).toNat, by omega⟩
  obtain ⟨t, hta⟩ : ∃ t, t = 2 + a := ⟨_, rfl⟩
  have hta2 : (2 : Int) + (a : Int) = (t : Int) := by omega
  have ht2 : 2 ≤ t := by omega
  have ht6 : t ≤ 6 := by omega
  have HA := Lib.hid ha
  have hlt := symsF_lt raw t 60 (by omega)
  have hl60 := symsF_len raw t 60
  have CS : Hid (∀ W, IsInts W W.heap.size v raw → Calls Try.prog 10 #[v, .int .i64 (t : Nat), .int .i64 60] W fun e w' => ∃ q c, e = .returned (.slice q (symsF raw t 60).length c) ∧ IsInts w' w'.heap.size (.slice q (symsF raw t 60).length c) (ints (symsF raw t 60)) ∧ Below W.heap.size W w') := fun W h => syms_is W v raw t 60 h hr (by omega) (by omega) (by omega)
  generalize symsF raw t 60 = l at *
  have hpm := pickF_lt more (7 - (t : Int)) (by omega)
  obtain ⟨m, hm⟩ : ∃ m : Nat, pickF more (7 - (t : Int)) = (m : Int) := ⟨(pickF more (7 - (t : Int))).toNat, by omega⟩
  obtain ⟨t2, ht2e⟩ : ∃ t2, t2 = t + m := ⟨_, rfl⟩
  have htm : (t : Int) + (m : Int) = (t2 : Int) := by omega
  have hpk := pickF_lt n 60 (by omega)
  obtain ⟨k, hk⟩ : ∃ k : Nat, pickF n 60 = (k : Int) := ⟨(pickF n 60).toNat, by omega⟩
  have hk60 : k < 60 := by omega
  have CP : Hid (∀ W (u : Value) (y : Nat), t ≤ y → y ≤ 6 → IsInts W W.heap.size u (ints l) → Calls Try.prog 11 #[u, .int .i64 (y : Nat)] W fun e w' => e = .returned (.tuple #[.agg #[.string (txt (selL (List.range 6) l)), .int .i64 ((selL (List.range 6) l).length : Nat)], .int .i64 0]) ∧ Below W.heap.size W w') := fun W u y h1 h2 h => selPut_any W u l y h (by omega) (by omega) (by omega) (fun n hn => by have := hlt n hn; omega)
  have CZ : Hid (∀ W (u : Value), IsInts W W.heap.size u (ints (List.replicate k 0)) → Calls Try.prog 11 #[u, .int .i64 (t : Nat)] W fun e w' => e = .returned (.tuple #[.agg #[.string (txt (List.replicate k false)), .int .i64 ((List.replicate k false).length : Nat)], .int .i64 0]) ∧ Below W.heap.size W w') := fun W u h => by
    have := selPut_any W u (List.replicate k 0) t h (by simp; omega) ht2 ht6 (fun n hn => by rw [List.eq_of_mem_replicate hn]; omega)
    rw [selL_zeros] at this
    exact this
  obtain ⟨F, hF⟩ : ∃ F, selL (List.range 6) (froL k) = F := ⟨_, rfl⟩
  have hFl : F.length = 2 * k := by rw [← hF]; exact length_fro k
  have CF : Hid (∀ W (u : Value), IsInts W W.heap.size u (ints (froL k)) → Calls Try.prog 11 #[u, .int .i64 (t : Nat)] W fun e w' => e = .returned (.tuple #[.agg #[.string (txt F), .int .i64 ((2 * k : Nat))], .int .i64 0]) ∧ Below W.heap.size W w') := fun W u h => by
    have := selPut_any W u (froL k) t h (by simp [froL]; omega) ht2 ht6 (fun n hn => by have := froL_lt k n hn; omega)
    rw [hF, hFl] at this
    exact this
  have CB : Hid (∀ W, Calls Try.prog 18 #[.agg #[.string ⟨#[]⟩, .int .i64 0], .int .u64 0, .int .i64 (k : Nat)] W fun e w' => e = .returned (.tuple #[.agg #[.string (txt (List.replicate k false)), .int .i64 ((List.replicate k false).length : Nat)], .int .i64 0]) ∧ Below W.heap.size W w') := fun W => put_nil W 0 k _ (low_zeros k) (by omega) (by omega)
  obtain ⟨cs, hcs, hmk⟩ := run_make_ints k (by omega)
  have hzc : (ints (List.replicate k 0)) = List.replicate k (0 : Int) := by simp [ints]
  rw [← hzc] at hcs
  obtain ⟨Z, hZ⟩ : ∃ Z : List Bool, List.replicate k false = Z := ⟨_, rfl⟩
  have hZl : Z.length = k := by rw [← hZ]; simp
  rw [hZ, hZl] at CZ CB
  generalize selL (List.range 6) l = D at *
  obtain ⟨d, hd⟩ : ∃ d, D.length = d := ⟨_, rfl⟩
  rw [hd] at CP
  obtain ⟨n1, hn1⟩ : ∃ n, l.length = n := ⟨_, rfl⟩
  rw [hn1] at CS hl60
  have HM := Lib.hid hm
  have HK := Lib.hid hk
  have Hcs := Lib.hid hcs
  have Hzl : Hid ((ints (List.replicate k 0)).length = k) := by show _ = _; simp [ints]
  have ht26 : t2 ≤ 6 := by omega
  have htt2 : t ≤ t2 := by omega
  have Hsn := Lib.hid (fun i => froL_snoc i)
  have Hfl : Hid (∀ i, (froL i).length = i) := fun i => by simp [froL]
  have h7 : (7 : Int) - (t : Int) = (7 - (t : Int)) := rfl
  clear hv hr ha hp5 hta hlt hpm hm ht2e hpk hk hF hFl hcs hzc hZ hZl hd hn1 h7
  go_enter Try.func5, Try.ntmps5
  have E0 := Lib.hid (Env.nil w)
  go_wp2_with fail
  refine (awake12_any _).mono ?_
  rintro e w1 ⟨rfl, hB⟩
  have E1 := Lib.hid (E0.out.step hB)
  clear E0 hB  
  go_wp2_with fail
  refine (pick12_any tables 5 _ ht ht' (by omega) (by omega)).mono ?_
  rintro e w_ ⟨rfl, rfl⟩
  rw [HA.out]
  go_wp2_with fail
  refine (CS.out _ (E1.out.old HRW.out)).mono ?_
  rintro e w2 ⟨q1, c1, rfl, hv, hB⟩
  have E2 := Lib.hid ((E1.out.step hB).add hv)
  clear E1 hB hv 
  go_wp2_with fail
  refine (CP.out _ _ t (Nat.le_refl _) ht6 (E2.out.get 0 rfl)).mono ?_
  rintro e w3 ⟨rfl, hB⟩
  have E3 := Lib.hid (E2.out.step hB)
  clear E2 hB  
  have E4 := Lib.hid (E3.out.box #[.string (txt D), .int .i64 (d : Nat)] 28 (w3.heap.size) (by simp))
  clear E3 
  go_wp2_with fail
  refine (pick12_any more (7 - (t : Int)) _ hm0 hm0' (by omega) (by omega)).mono ?_
  rintro e w_ ⟨rfl, rfl⟩
  rw [HM.out]
  go_wp2_with fail
  refine (CP.out _ _ t2 htt2 ht26 (E4.out.get 0 rfl)).mono ?_
  rintro e w4 ⟨rfl, hB⟩
  have E5 := Lib.hid (E4.out.step hB)
  clear E4 hB  
  have E6 := Lib.hid (E5.out.box #[.string (txt D), .int .i64 (d : Nat)] 28 (w4.heap.size) (by simp))
  clear E5 
  go_wp2_with fail
  refine (pick12_any n 60 _ hn hn' (by omega) (by omega)).mono ?_
  rintro e w_ ⟨rfl, rfl⟩
  rw [HK.out]
  go_wp2_with fail
  have E7 := Lib.hid ((E6.out.alloc (.cells cs 3)).add (ints_of_heap (heap_new _ (.cells cs 3) (w4.heap.size + 1) (by simp)) Hcs.out Hzl.out (by rw [Hzl.out]; simp [maxLen]; omega)))
  clear E6
  refine (CZ.out _ _ (E7.out.get 0 rfl)).mono ?_
  rintro e w5 ⟨rfl, hB⟩
  have E8 := Lib.hid (E7.out.step hB)
  clear E7 hB  
  have E9 := Lib.hid (E8.out.box #[.string (txt Z), .int .i64 (k : Nat)] 28 (w5.heap.size) (by simp))
  clear E8 
  clear CS CP CZ hmk
  go_wp2_with fail
  obtain ⟨W, hW⟩ : ∃ W, w5.alloc (.cells #[.string (txt Z), .int .i64 (k : Nat)] 28) = W := ⟨_, rfl⟩
  rw [hW] at E9 ⊢
  clear hW
  go_loopw [19, 20] (fun fv iv wr => ∃ i : Nat, i ≤ k ∧ iv = .int .i64 i ∧ OwnInts wr W.heap.size fv (ints (froL i)) ∧ Below W.heap.size W wr) (fun _ iv _ => k + 1 - (intOf iv).toNat)
  case atStart => exact ⟨0, Nat.zero_le _, rfl, OwnInts.nil _ _, Below.refl _ _⟩
  case round =>
    obtain ⟨i, hi, rfl, hown, hB⟩ := hrel
    have Hown := Lib.hid hown
    have HB := Lib.hid hB
    have hz := hB.size
    clear hown hB
    by_cases hlt : i < k
    · have hil := Hfl.out i
      have hmod : ((i : Int) + 1).tmod 2 = (((i + 1) % 2 : Nat) : Int) := by rw [Int.tmod_eq_emod_of_nonneg (by omega)]; omega
      obtain ⟨y, hy⟩ : ∃ y, (i + 1) % 2 = y := ⟨_, rfl⟩
      rw [hy] at hmod
      have hmod2 : ((i : Int) + 1) % 2 = (y : Int) := by omega
      have hsn := Hsn.out i
      rw [hy] at hsn
      have HS := Lib.hid hsn
      clear hsn hy
      go_wp2_with
        (at_builtin
         refine wpList_append_ints rfl _ _ rfl W.heap.size _ (ints (froL i)) rfl (Hown.out.alloc _) (wr.heap.size + 1) _ [(y : Int)] rfl (IsInts.new wr [(y : Int)] _ _ _ rfl rfl rfl (by simp [maxLen])) (by rw [length_ints]; simp; omega) (by simp; omega) ?_
         intro q' c' w1 hown1 hg1 hat1
         have Hown1 := Lib.hid hown1
         have hB1 : Below W.heap.size W w1 := (HB.out.alloc (by omega) _).grown hg1 (by simp; omega) (fun k hk => by have := own_ge Hown.out hk; omega)
         have HB1 := Lib.hid hB1
         clear hg1 hat1 hown1 hB1)
      go_roundw
      case rel => exact ⟨i + 1, by omega, by go_num, by rw [HS.out, ints_snoc]; exact Hown1.out, HB1.out⟩
      case measure => simp [intOf]; omega
    · obtain rfl : i = k := by omega
      have E20 := Lib.hid ((E9.out.step HB.out).add Hown.out.is)
      clear E9 Hown HB hz
      go_wp2_with fail
      refine (CF.out _ _ (E20.out.get 0 rfl)).mono ?_
      rintro e w9 ⟨rfl, hB⟩
      have E21 := Lib.hid (E20.out.step hB)
      clear E20 hB  
      have E22 := Lib.hid (E21.out.box #[.string (txt F), .int .i64 ((2 * i : Nat))] 28 (w9.heap.size) (by simp))
      clear E21 
      go_wp2_with fail
      refine (CB.out _).mono ?_
      rintro e w10 ⟨rfl, hB⟩
      have E23 := Lib.hid (E22.out.step hB)
      clear E22 hB  
      have E24 := Lib.hid (E23.out.box #[.string (txt Z), .int .i64 (i : Nat)] 28 (w10.heap.size) (by simp))
      clear E23 
      have k_a0 := E24.out.cellv 4 rfl 0 _ rfl
      have k_a1 := E24.out.cellv 4 rfl 1 _ rfl
      have k_b0 := E24.out.cellv 3 rfl 0 _ rfl
      have k_b1 := E24.out.cellv 3 rfl 1 _ rfl
      have k_c0 := E24.out.cellv 2 rfl 0 _ rfl
      have k_c1 := E24.out.cellv 2 rfl 1 _ rfl
      have k_d0 := E24.out.cellv 1 rfl 0 _ rfl
      have k_d1 := E24.out.cellv 1 rfl 1 _ rfl
      have k_e0 := E24.out.cellv 0 rfl 0 _ rfl
      have k_e1 := E24.out.cellv 0 rfl 1 _ rfl
      go_wp2
      go_ret
      exact ⟨rfl, E24.out.bel⟩
end Go.Proofs.Ytpccdohhiojlkaa
