/- CodeFull: the walk. -/
import Derived.Test.YtkicaimondpceaaCodeHelp
namespace Go.Proofs.Ytkicaimondpceaa
open Go.RowKit
set_option linter.unusedVariables false

theorem check_more {l : List Nat} (h : Code l) (hn : l.length ≤ 60) : checkF (ints (l ++ [20])) = if kraft l = 1048576 then 6 else 0 := by
  have h1 := h.two
  have h2 := h.room
  rw [checkF_ints, if_neg, kraft_snoc]
  · by_cases hk : kraft l = 1048576
    · rw [if_pos hk, if_pos (by rw [hk]; decide)]
    · rw [if_neg hk, if_neg (by have : (2 : Nat) ^ (20 - 20) = 1 := by decide
                                omega)]
  · rw [List.length_append]
    have hf : Fits (l ++ [20]) := by
      intro x hx
      rcases List.mem_append.1 hx with hx | hx
      · exact h.fits x hx
      · simp at hx
        omega
    simp [hf]
    omega

set_option maxRecDepth 100000 in
set_option maxHeartbeats 6400000 in
theorem cfull_walk (w : World) (v : Value) (raw : List Int) (s : ByteArray) (hv : IsInts w w.heap.size v raw) (hr : I64s raw) (hs : s.size ≤ 9223372036854775807) :
    Calls Try.prog 6 #[v, .string s] w fun e w' => e = .returned (.bool true) ∧ Below w.heap.size w w' := by
  obtain ⟨L, hL⟩ : ∃ L : Nat, L = min s.size 20 := ⟨_, rfl⟩
  have hL1 : (if (20 : Int) < s.size then 20 else (s.size : Int)) = L := by rw [hL]; split <;> omega
  have hL2 : L ≤ s.size := by omega
  have hL3 : L ≤ 20 := by omega
  have hfr := front_size s L hL2
  unfold front at hfr
  clear hL
  have HRW := Lib.hid hv
  have HR := Lib.hid hr
  clear hv hr
  go_enter Try.func6, Try.ntmps6
  have E0 := Lib.hid (Env.nil w)
  go_wp2_with fail
  refine (awake08_any _).mono ?_
  rintro e w1 ⟨rfl, hB⟩
  have E1 := Lib.hid (E0.out.step hB)
  clear E0 hB  
  go_wp2_with fail
  refine (lens08_is _ _ raw 40 (E1.out.old HRW.out) HR.out (by omega) (by omega)).mono ?_
  rintro e w2 ⟨l, q1, c1, rfl, hv, hcode, hl60, hB⟩
  have E2 := Lib.hid ((E1.out.step hB).add hv)
  clear E1 hB hv
  obtain ⟨n, hn⟩ : ∃ n, l.length = n := ⟨_, rfl⟩
  have HN := Lib.hid hn
  have Hcode := Lib.hid hcode
  have hn2 := hcode.two
  rw [hn] at E2 hl60 hn2 ⊢
  clear hn hcode
  have hlv := (E2.out.get 0 rfl)
  have HLV := Lib.hid hlv
  have hkl := kraft_le l
  rw [HN.out] at hkl
  have Hend : Hid (kraft (l.take n) = kraft l) := by rw [← HN.out, List.take_length]; exact rfl
  clear hlv
  go_wp2_with fail
  go_loopw [7, 8] (fun av iv wr => w2 = wr ∧ ∃ i : Nat, i ≤ n ∧ iv = .int .i64 i ∧ av = .int .i64 (kraft (l.take i) : Nat)) (fun _ iv _ => n + 1 - (intOf iv).toNat)
  case atStart => exact ⟨rfl, 0, Nat.zero_le _, rfl, rfl⟩
  case round =>
    obtain ⟨rfl, i, hi, rfl, rfl⟩ := hrel
    by_cases hit : i < n
    · obtain ⟨t, ht⟩ : ∃ t, l[i]? = some t := ⟨_, List.getElem?_eq_getElem (by rw [HN.out]; exact hit)⟩
      obtain ⟨g1, o1, rfl, hg1, hx1⟩ := HLV.out.at i (by rw [length_ints, HN.out]; exact hit)
      rw [show (ints l)[i]?.getD 0 = (t : Int) by simp [ints, ht]] at hx1
      have ht20 := Hcode.out.fits t (List.mem_of_getElem? ht)
      have Hnx : Hid (kraft (l.take (i + 1)) = kraft (l.take i) + 2 ^ (20 - t)) := by
        show _ = _
        rw [List.take_add_one, ht]
        exact kraft_snoc _ _
      have hle := kraft_le (l.take i)
      have hlt2 : (l.take i).length ≤ i := by simp; omega
      generalize kraft (l.take i) = z at *
      have h1p : 2 ^ (20 - t) ≤ 2 ^ 20 := Nat.pow_le_pow_right (by omega) (by omega)
      have h2p : (2 : Nat) ^ 20 = 1048576 := by decide
      have hw : IntKind.i64.wrap (20 - (t : Int)) = ((20 - t : Nat) : Int) := by rw [IntWalk.i64_in _ (by omega)]; omega
      clear ht
      go_wp2
      go_roundw
      case rel => exact ⟨trivial, i + 1, by omega, by go_num, by rw [Hnx.out, pow_cast, wrap_sum _ _ (by omega) (by omega)]⟩
      case measure => simp [intOf]; omega
    · obtain rfl : i = n := by omega
      rw [Hend.out]
      obtain ⟨t2, ht2⟩ : ∃ t2, s.extract 0 L ++ ⟨#[0, 0, 0]⟩ = t2 := ⟨_, rfl⟩
      have htz : t2.size = L + 3 := by rw [← ht2, ByteArray.size_append, hfr]; rfl
      have htl : t2.data.toList.length = L + 3 := by rw [← htz]; simp
      have hmore := check_more Hcode.out (by rw [HN.out]; omega)
      obtain ⟨x, b, z, hr1, hr2, hr3⟩ : ∃ (x b z : Int), resT (takeF l t2.data.toList 0) = (x, b, z) ∧ (kraft l = 1048576 → z = 0 ∧ 1 ≤ b ∧ b ≤ 20) ∧ (z = 0 ∨ z = 3) := by
        cases hh : takeF l t2.data.toList 0 with
        | error e =>
          have h3 := (takeF_long (by omega) (by rw [htl]; omega) hh).1
          refine ⟨0, 0, e, rfl, fun hk => absurd hh (takeF_full Hcode.out hk (by omega) (by rw [htl]; omega) e), .inr h3⟩
        | ok p =>
          obtain ⟨s1, b1⟩ := p
          obtain ⟨n1, h4, h5⟩ := takeF_ok hh
          have h6 := Hcode.out.fits n1 (List.mem_of_getElem? h4.1)
          exact ⟨_, _, 0, rfl, fun _ => ⟨rfl, by omega, by omega⟩, .inl rfl⟩
      have CT : Hid (∀ W (u : Value), IsInts W W.heap.size u (ints l) → Calls Try.prog 20 #[u, .string t2, .int .i64 0] W fun e w' => e = .returned (.tuple #[.int .i64 x, .int .i64 b, .int .i64 z]) ∧ Below W.heap.size W w') := fun W u h =>
        take8_is W u l t2 0 h Hcode.out (by omega) (x, b, z) hr1
      have CK : Hid (∀ W (bb : Nat) (u : Value), OwnInts W bb u (ints (l ++ [20])) → Calls Try.prog 15 #[u] W fun e w' => e = .returned (.int .i64 (if kraft l = 1048576 then 6 else 0)) ∧ Below W.heap.size W w') := fun W bb u h => aw8_chk W u _ _ h.is (by rw [length_ints, List.length_append, HN.out]; simp; omega) hmore
      have CO : Hid (kraft l ≠ 1048576 → ∀ W (u : Value), IsInts W W.heap.size u (ints l) → Calls Try.prog 20 #[u, .string ⟨#[255, 255, 255]⟩, .int .i64 0] W fun e w' => e = .returned (.tuple #[.int .i64 0, .int .i64 0, .int .i64 3]) ∧ Below W.heap.size W w') := fun hk W u h =>
        take8_is W u l ⟨#[255, 255, 255]⟩ 0 h Hcode.out (by decide) (0, 0, 3) (by rw [show (⟨#[255, 255, 255]⟩ : ByteArray).data.toList = [255, 255, 255] from rfl, takeF_ones Hcode.out (by have := Hcode.out.room; omega)]; rfl)
      clear hr1 hmore htl
      go_wp2_with fail
      refine (CT.out _ _ HLV.out).mono ?_
      rintro e w3 ⟨rfl, hB⟩
      have E3 := Lib.hid (E2.out.step hB)
      have hz3 := E3.out.size
      clear hB ht2 htz
      go_wp2_with
        (at_builtin
         first
         | (refine wpList_append_ints rfl _ _ rfl w3.heap.size (.slice none 0 0) [] rfl (OwnInts.nil _ _) w3.heap.size _ (ints l) rfl (E3.out.get 0 rfl) (by rw [length_ints, HN.out]; simp; omega) (Nat.le_refl _) ?_
            intro q' c' w4 hown1 hg1 hat1
            rw [show ([] : List Int).length + (ints l).length = i by rw [length_ints, HN.out]; exact Nat.zero_add _] at hown1 ⊢
            rw [List.nil_append] at hown1
            have Hown1 := Lib.hid hown1
            have HB1 : Hid (Below w3.heap.size w3 w4) := bel_grown hg1 (Below.refl _ _) (fun k hk => by simp [Value.ownBlock] at hk)
            have hz1 := HB1.out.size
            clear hown1 hat1 hg1)
         | (refine wpList_append_ints rfl _ _ rfl w3.heap.size _ (ints l) rfl (Hown1.out.alloc _) (w4.heap.size + 1) _ [20] rfl (IsInts.new w4 [20] _ _ _ rfl rfl rfl (by simp [maxLen])) (by rw [length_ints, HN.out]; simp; omega) (by simp; omega) ?_
            intro q2 c2 w5 hown2 hg2 hat2
            rw [show (ints l).length + ([20] : List Int).length = i + 1 by rw [length_ints, HN.out]; rfl] at hown2 ⊢
            rw [show ints l ++ [20] = ints (l ++ [20]) by simp [ints]] at hown2
            have HB2 : Hid (Below w3.heap.size w3 w5) := bel_grown hg2 (HB1.out.alloc HB1.out.size _) (fun k hk => own_ge Hown1.out hk)
            have Hown2 := Lib.hid hown2
            clear hown2 hat2 hg2))
      refine (CK.out _ _ _ Hown2.out).mono ?_
      rintro e w6 ⟨rfl, hB⟩
      have E6 := Lib.hid ((E3.out.step HB2.out).step hB)
      clear hB
      by_cases hk : kraft l = 1048576
      · obtain ⟨rfl, hb1, hb2⟩ := hr2 hk
        rw [if_pos hk, hk]
        clear hk hr2 hr3
        go_wp2
        go_ret
        exact ⟨by rfl, E6.out.bel⟩
      · rw [if_neg hk]
        have CO2 := Lib.hid (CO.out hk)
        have hkk : ((kraft l : Nat) : Int) ≠ 1048576 := by omega
        generalize kraft l = kl at *
        have hke : ((kl : Int) == 1048576) = false := by rw [beq_eq_false_iff_ne]; exact hkk
        clear hr2 hk hkk CO
        go_wp2_with fail
        refine (CO2.out _ _ (E6.out.get 0 rfl)).mono ?_
        rintro e w7 ⟨rfl, hB⟩
        have E7 := Lib.hid (E6.out.step hB)
        clear hB
        rcases hr3 with rfl | rfl
        · go_wp2
          go_ret
          exact ⟨by rfl, E7.out.bel⟩
        · go_wp2
          go_ret
          exact ⟨by rfl, E7.out.bel⟩
end Go.Proofs.Ytkicaimondpceaa
