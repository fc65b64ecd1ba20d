/- MagicOnes: every bit is in one of the two lists: the walk. -/
import Derived.Test.YtbanageccecmnaaLaw02First
import Derived.Test.YtbanageccecmnaaTurn
namespace Go.Proofs.Ytbanageccecmnaa
open Go.RowKit
set_option linter.unusedVariables false

theorem at_one (s : List UInt8) (a : Nat) : at_ s 1 1 a = (B.num (B.slice s a 1) == 1) := rfl
theorem at_nought (s : List UInt8) (a : Nat) : at_ s 0 1 a = (B.num (B.slice s a 1) == 0) := rfl
theorem num1_lt (s : List UInt8) (a : Nat) : B.num (B.slice s a 1) < 2 := by
  have := B.num_lt (B.slice s a 1)
  rwa [B.length_slice] at this
/-- the place that a list holds next -/
theorem plc_at {h : Nat → Bool} {c b : Nat} {P R : List Nat} (hb : b < c) (hh : h b = true) (hP : P = R ++ plc h c b) : P = (R ++ [b]) ++ plc h c (b + 1) ∧ R.length < P.length ∧ (ints P)[R.length]?.getD 0 = (b : Int) := by
  rw [plc_yes hb hh] at hP
  subst hP
  refine ⟨by simp, by simp, by simp [ints]⟩
theorem plc_skip {h : Nat → Bool} {c b : Nat} {P R : List Nat} (hh : h b = false) (hP : P = R ++ plc h c b) : P = R ++ plc h c (b + 1) := by
  rw [plc_no fun _ => hh] at hP
  exact hP
theorem plc_end {h : Nat → Bool} {c b : Nat} {P R : List Nat} (hb : c ≤ b) (hP : P = R ++ plc h c b) : P = R := by
  rw [plc_ge hb, List.append_nil] at hP
  exact hP
theorem at_bit (s : List UInt8) (a : Nat) : at_ s 1 1 a = B.bitAt s a := by
  rw [at_one, show B.slice s a 1 = [B.bitAt s a] from rfl]
  cases B.bitAt s a <;> rfl
theorem match_bit (s : ByteArray) (x : Nat) (W : World) (hs : s.size ≤ 1048576) (hx : x < 8 * s.size) : Calls Try.prog 11 #[.string s, .int .i64 x, .int .u64 1, .int .i64 1] W fun e W' => e = .returned (.bool (B.bitAt s.data.toList x)) ∧ Below W.heap.size W W' := by
  have hl : s.data.toList.length = s.size := by simp
  refine (match_any s x 1 (1 : Nat) W hs (by omega) (by omega) (by omega) (by omega) (by omega)).mono ?_
  rintro e W' ⟨rfl, hB⟩
  rw [matchV_nat _ _ _ _ (by omega) (by omega), hl, at_bit, show decide (x < cntOf s.size 1) = true by rw [decide_eq_true_eq]; unfold cntOf; omega]
  exact ⟨rfl, hB⟩

set_option maxRecDepth 100000 in
set_option maxHeartbeats 3200000 in
theorem ones_walk (w : World) (s : ByteArray) (at0 : Int) (ha : -9223372036854775808 ≤ at0) (ha' : at0 ≤ 9223372036854775807) (hs : s.size ≤ 9223372036854775807) :
    Calls Try.prog 5 #[.string s, .int .i64 at0] w fun e w' => e = .returned (.bool true) ∧ Below w.heap.size w w' := by
  obtain ⟨L, hL⟩ : ∃ L : Nat, L = min s.size 40 := ⟨_, rfl⟩
  have hL1 : (if (40 : Int) < s.size then 40 else (s.size : Int)) = L := by rw [hL]; split <;> omega
  have hL2 : L ≤ s.size := by omega
  have hL3 : L ≤ 40 := by omega
  have hfr := front_size s L hL2
  have Hfr := Lib.hid hfr
  have Ha := Lib.hid awake2_any
  clear hL hfr
  go_enter Try.func5, Try.ntmps5
  go_wp2_with fail
  refine (Ha.out _).mono ?_
  rintro e w1 ⟨rfl, hB1⟩
  go_wp2_with fail
  have hts : (s.extract 0 L).size = L := Hfr.out
  generalize s.extract 0 L = t at *
  have hsz : t.size ≤ 40 := by omega
  have Hts := Lib.hid hts
  clear hts Hfr hL1 hL2 hL3
  have htl : t.data.toList.length = t.size := by simp
  have hc : cntOf t.size 1 = 8 * t.size := by unfold cntOf; omega
  have hall1 : Hid (∀ W, Calls Try.prog 9 #[.string t, .int .u64 1, .int .i64 1] W fun e W' => ∃ v, e = .returned v ∧ IsInts W' W'.heap.size v (ints (plc (at_ t.data.toList 1 1) (8 * t.size) 0)) ∧ Below W.heap.size W W') := fun W => by
    refine (all_any t 1 (1 : Nat) W (by omega) (by omega) (by omega) (by omega)).mono ?_
    rintro e W' ⟨v, rfl, hr, hB⟩
    rw [allL_nat _ _ _ (by omega) (by omega), htl, hc] at hr
    exact ⟨v, rfl, Rd.own hr, hB⟩
  have hall0 : Hid (∀ W, Calls Try.prog 9 #[.string t, .int .u64 0, .int .i64 1] W fun e W' => ∃ v, e = .returned v ∧ IsInts W' W'.heap.size v (ints (plc (at_ t.data.toList 0 1) (8 * t.size) 0)) ∧ Below W.heap.size W W') := fun W => by
    refine (all_any t 0 (1 : Nat) W (by omega) (by omega) (by omega) (by omega)).mono ?_
    rintro e W' ⟨v, rfl, hr, hB⟩
    rw [allL_nat _ _ _ (by omega) (by omega), htl, hc] at hr
    exact ⟨v, rfl, Rd.own hr, hB⟩
  have hget : Hid (∀ (b : Nat) W, b < 8 * t.size → Calls Try.prog 13 #[.string t, .int .i64 b, .int .i64 1] W fun e w' => e = .returned (.tuple #[.int .u64 (B.num (B.slice t.data.toList b 1) : Nat), .int .i64 0]) ∧ W = w') := fun b W hb => by
    have := get_any t b (1 : Nat) W (by omega)
    rw [getE_ok _ b 1 (by omega) (by omega), getV_ok _ b 1 (by omega) (by omega)] at this
    exact this
  obtain ⟨P1, hP1⟩ : ∃ P, plc (at_ t.data.toList 1 1) (8 * t.size) 0 = P := ⟨_, rfl⟩
  obtain ⟨P0, hP0⟩ : ∃ P, plc (at_ t.data.toList 0 1) (8 * t.size) 0 = P := ⟨_, rfl⟩
  have hl1 : P1.length ≤ 320 := by have := plc_len (h := at_ t.data.toList 1 1) (c := 8 * t.size) (f := 0); rw [hP1] at this; omega
  have hl0 : P0.length ≤ 320 := by have := plc_len (h := at_ t.data.toList 0 1) (c := 8 * t.size) (f := 0); rw [hP0] at this; omega
  rw [hP1] at hall1
  rw [hP0] at hall0
  have HP1 := Lib.hid hP1
  have HP0 := Lib.hid hP0
  have Hw1 := hB1.size
  clear hP1 hP0 hc htl Ha
  refine (hall1.out _).mono ?_
  rintro e w2 ⟨v1, rfl, hv1, hB2⟩
  obtain ⟨A1, cap1, rfl, hv11, hv12⟩ := hv1.shape
  rw [length_ints] at hv1 hv11 ⊢
  have Hv1 := Lib.hid hv1
  have hBw2 : Below w.heap.size w w2 := hB1.trans (hB2.mono Hw1)
  clear hv1 hall1 hB1 hB2
  go_wp2_with fail
  refine (hall0.out _).mono ?_
  rintro e w3 ⟨v0, rfl, hv0, hB3⟩
  obtain ⟨A0, cap0, rfl, hv01, hv02⟩ := hv0.shape
  rw [length_ints] at hv0 hv01 ⊢
  have Hv0 := Lib.hid hv0
  have Hv : Hid (IsInts w3 w3.heap.size (.slice A1 P1.length cap1) (ints P1)) := (Hv1.out.below hB3 (Nat.le_refl _)).mono hB3.size
  have hBw3 : Below w.heap.size w w3 := hBw2.trans (hB3.mono hBw2.size)
  clear hv0 hall0 hB3 Hv1 hBw2
  go_wp2_with fail
  go_loopw [9, 10, 11] (fun iv kv bv wr => ∃ (b : Nat) (R1 R0 : List Nat), b ≤ 8 * t.size ∧ P1 = R1 ++ plc (at_ t.data.toList 1 1) (8 * t.size) b ∧ P0 = R0 ++ plc (at_ t.data.toList 0 1) (8 * t.size) b ∧ iv = .int .i64 (R1.length : Nat) ∧ kv = .int .i64 (R0.length : Nat) ∧ bv = .int .i64 b ∧ Below w3.heap.size w3 wr) (fun _ _ bv _ => 8 * t.size + 1 - (intOf bv).toNat)
  case atStart => exact ⟨0, [], [], by omega, HP1.out.symm, HP0.out.symm, rfl, rfl, rfl, Below.refl _ _⟩
  case round =>
    obtain ⟨b, R1, R0, hb, hR1, hR0, rfl, rfl, rfl, hBr⟩ := hrel
    obtain ⟨r1, hr1⟩ : ∃ k, R1.length = k := ⟨_, rfl⟩
    obtain ⟨r0, hr0⟩ : ∃ k, R0.length = k := ⟨_, rfl⟩
    have Hr1 := Lib.hid hr1
    have Hr0 := Lib.hid hr0
    rw [hr1, hr0]
    by_cases hlt : b < 8 * t.size
    · have hg : Hid (∀ W, Calls Try.prog 13 #[.string t, .int .i64 b, .int .i64 1] W fun e w' => e = .returned (.tuple #[.int .u64 (B.num (B.slice t.data.toList b 1) : Nat), .int .i64 0]) ∧ W = w') := fun W => hget.out b W hlt
      obtain ⟨N, hN⟩ : ∃ N, B.num (B.slice t.data.toList b 1) = N := ⟨_, rfl⟩
      have hN2 : N < 2 := by rw [← hN]; exact num1_lt _ _
      rw [hN] at hg
      rcases (show N = 1 ∨ N = 0 by omega) with rfl | rfl
      · obtain ⟨e1, e2, e3⟩ := plc_at (P := P1) hlt (show at_ t.data.toList 1 1 b = true by rw [at_one, hN]; rfl) hR1
        have s0 := plc_skip (P := P0) (show at_ t.data.toList 0 1 b = false by rw [at_nought, hN]; rfl) hR0
        obtain ⟨ga, o, rfl, hga, hcl⟩ := Hv.out.at R1.length (by rw [length_ints]; exact e2)
        rw [e3, hr1] at hcl
        rw [hr1] at e2
        have hcl' : wr.cell? ⟨ga, o + r1, none⟩ = some (.int .i64 (b : Int)) := (hBr.cell (p := ⟨ga, o + r1, none⟩) hga).trans hcl
        have E1 := Lib.hid e1
        have S0 := Lib.hid s0
        obtain ⟨n1, hn1⟩ : ∃ k, P1.length = k := ⟨_, rfl⟩
        rw [hn1] at e2 hl1 hv11 ⊢
        clear hR1 hR0 e1 e3 s0 hget hN hcl hr1 hr0 hn1 Hv
        go_wp2_with (go_at_call 13; refine (hg.out _).mono ?_; rintro e w4 ⟨rfl, rfl⟩)
        go_roundw
        case rel => exact ⟨b + 1, R1 ++ [b], R0, by omega, E1.out, S0.out, by simp [Hr1.out], by rw [Hr0.out], by go_num, hBr⟩
        case measure => simp [intOf]; omega
      · obtain ⟨e1, e2, e3⟩ := plc_at (P := P0) hlt (show at_ t.data.toList 0 1 b = true by rw [at_nought, hN]; rfl) hR0
        have s0 := plc_skip (P := P1) (show at_ t.data.toList 1 1 b = false by rw [at_one, hN]; rfl) hR1
        obtain ⟨ga, o, rfl, hga, hcl⟩ := Hv0.out.at R0.length (by rw [length_ints]; exact e2)
        rw [e3, hr0] at hcl
        rw [hr0] at e2
        have hcl' : wr.cell? ⟨ga, o + r0, none⟩ = some (.int .i64 (b : Int)) := (hBr.cell (p := ⟨ga, o + r0, none⟩) hga).trans hcl
        have E1 := Lib.hid e1
        have S0 := Lib.hid s0
        obtain ⟨n1, hn1⟩ : ∃ k, P0.length = k := ⟨_, rfl⟩
        rw [hn1] at e2 hl0 hv01 ⊢
        clear hR1 hR0 e1 e3 s0 hget hN hcl hr1 hr0 hn1 Hv0
        go_wp2_with (go_at_call 13; refine (hg.out _).mono ?_; rintro e w4 ⟨rfl, rfl⟩)
        go_roundw
        case rel => exact ⟨b + 1, R1, R0 ++ [b], by omega, S0.out, E1.out, by rw [Hr1.out], by simp [Hr0.out], by go_num, hBr⟩
        case measure => simp [intOf]; omega
    · obtain rfl : b = 8 * t.size := by omega
      have p1 : P1 = R1 := plc_end (Nat.le_refl _) hR1
      have p0 : P0 = R0 := plc_end (Nat.le_refl _) hR0
      rw [p1, hr1, p0, hr0]
      have hBw : Below w.heap.size w wr := hBw3.trans (hBr.mono hBw3.size)
      clear hR1 hR0 p1 p0 hget HP1 HP0 Hv Hv0 hBr hBw3
      by_cases ht : t = ⟨#[]⟩
      · subst ht
        go_wp2
        go_ret
        exact ⟨rfl, hBw⟩
      · have hpos : 0 < t.size := by
          rcases Nat.eq_zero_or_pos t.size with h0 | h0
          · exact absurd (ByteArray.ext (Array.eq_empty_of_size_eq_zero h0)) ht
          · exact h0
        have hx := pickF_lt at0 (8 * (t.size : Int)) (by omega)
        obtain ⟨x, hxx⟩ : ∃ k : Nat, pickF at0 (8 * (t.size : Int)) = (k : Int) := ⟨(pickF at0 (8 * (t.size : Int))).toNat, by omega⟩
        have hx1 : x < 8 * t.size := by omega
        have Hxx := Lib.hid hxx
        have hte : t.toList.isEmpty = false := by
          rw [ByteArray.toList_eq, List.isEmpty_eq_false_iff]
          intro hq
          have h3 : t.data.toList.length = t.size := by simp
          rw [hq] at h3
          simp at h3
          omega
        clear hx hxx ht
        go_wp2_with fail
        refine (pick2_any at0 (8 * (t.size : Int)) _ ha ha' (by omega) (by omega)).mono ?_
        rintro e w4 ⟨rfl, rfl⟩
        rw [Hxx.out]
        go_wp2_with fail
        rw [Lib.run_convert_string_bytes wr 9 36 5 t Try.underlying9 Try.underlying36 Try.underlying5]
        have hc1 := Lib.bytesWorld_cell wr 5 t (x / 8) (by omega)
        have hcs : Hid (∀ j, j < t.size → (Lib.bytesWorld wr 5 t).cell? ⟨wr.heap.size, j, none⟩ = some (.int .u8 ((t.data.toList.getD j 0).toNat : Nat))) := fun j hj => Lib.bytesWorld_cell wr 5 t j hj
        have hn1 := Lib.bytesWorld_at_new wr 5 t
        have ho1 := Lib.bytesWorld_at_old wr 5 t
        have hs1 := Lib.bytesWorld_size wr 5 t
        have hf1 : (Lib.bytesWorld wr 5 t).frozen? ⟨wr.heap.size, x / 8, none⟩ = false := by
          have hsz1 : x / 8 < (Lib.bytesCells wr 5 t).size := by simp [Lib.bytesCells]; omega
          simp [World.frozen?, hn1]; omega
        have hBc : Below wr.heap.size wr (Lib.bytesWorld wr 5 t) := ⟨rfl, rfl, rfl, by rw [hs1]; omega, fun k hk => ho1 k hk⟩
        obtain ⟨y, hy⟩ : ∃ y, (t.data.toList.getD (x / 8) 0).toNat = y := ⟨_, rfl⟩
        rw [hy] at hc1
        generalize Lib.bytesWorld wr 5 t = W at *
        have hd : (x : Int).tdiv 8 = (x : Int) / 8 := Int.tdiv_eq_ediv_of_nonneg (by omega)
        have hm : (x : Int).tmod 8 = (x : Int) % 8 := Int.tmod_eq_emod_of_nonneg (by omega)
        have hq1 : 0 ≤ (x : Int) / 8 := by omega
        have hq2 : (x : Int) / 8 < (t.size : Int) := by omega
        have hq3 : ((x : Int) / 8).toNat = x / 8 := by omega
        have hq4 : 0 ≤ (x : Int) % 8 := by omega
        have hq5 : ((x : Int) % 8).toNat = x % 8 := by omega
        have hq6 : IntKind.i64.wrap ((x : Int) / 8) = (x : Int) / 8 := IntWalk.i64_in _ (by omega)
        have hx8 : x / 8 < t.size := by omega
        have Hy := Lib.hid hy
        clear hn1 ho1 hy
        go_wp2_with fail
        go_still_tail 12, (by kernel_rfl)
        go_wp2_with fail
        have hy256 : y < 256 := by rw [← Hy.out]; exact UInt8.toNat_lt _
        have hr256 : 128 / 2 ^ (x % 8) < 256 := Nat.lt_of_le_of_lt (Nat.div_le_self _ _) (by omega)
        have hxr : y ^^^ (128 / 2 ^ (x % 8)) < 256 := Nat.xor_lt_two_pow (n := 8) hy256 hr256
        obtain ⟨v, hvv⟩ : ∃ v : UInt8, v.toNat = y ^^^ (128 / 2 ^ (x % 8)) := ⟨UInt8.ofNat (y ^^^ (128 / 2 ^ (x % 8))), by rw [UInt8.toNat_ofNat', Nat.mod_eq_of_lt hxr]⟩
        have hbx : bits .xor .u8 (y : Int) (128 / 2 ^ (x % 8)) = (v.toNat : Int) := by
          rw [hvv, ← u8_xor_nat _ _ hy256 hr256]; congr 1
        rw [hbx]
        obtain ⟨u, hu⟩ : ∃ u, t.data.toList.set (x / 8) v = u := ⟨_, rfl⟩
        have hul : u.length = t.size := by rw [← hu]; simp
        have hcu : ∀ j (hj : j < u.length), ((W.setCell ⟨wr.heap.size, x / 8, none⟩ (.int .u8 (v.toNat : Int))).drew).cell? ((⟨wr.heap.size, 0, none⟩ : Addr).add j) = some (.int .u8 (u[j].toNat : Int)) := by
          subst hu
          exact turned_cells W wr.heap.size t.data.toList (x / 8) v (by simpa using hx8) (by simpa using hcs.out)
        have hconv := run_convert_bytes_back (P := Try.prog) ((W.setCell ⟨wr.heap.size, x / 8, none⟩ (.int .u8 (v.toNat : Int))).drew) 36 9 5 ⟨wr.heap.size, 0, none⟩ (grownCap wr t.size 0 5) u Try.underlying36 Try.underlying5 Try.underlying9 hcu
        rw [hul] at hconv
        rw [hconv]
        have hflip : (B.bitAt u x != B.bitAt t.data.toList x) = true := by
          rw [← hu, bitAt_turned t.data.toList x v (by simpa using hx8) (by rw [hvv, Hy.out])]
          cases B.bitAt t.data.toList x <;> rfl
        have hus : (⟨u.toArray⟩ : ByteArray).size = t.size := by rw [← hul]; simp [ByteArray.size]
        have M1 : Hid (∀ W, Calls Try.prog 11 #[.string ⟨u.toArray⟩, .int .i64 x, .int .u64 1, .int .i64 1] W fun e W' => e = .returned (.bool (B.bitAt u x)) ∧ Below W.heap.size W W') := fun W => match_bit ⟨u.toArray⟩ x W (by omega) (by omega)
        have M2 : Hid (∀ W, Calls Try.prog 11 #[.string t, .int .i64 x, .int .u64 1, .int .i64 1] W fun e W' => e = .returned (.bool (B.bitAt t.data.toList x)) ∧ Below W.heap.size W W') := fun W => match_bit t x W (by omega) (by omega)
        generalize B.bitAt u x = b1 at *
        generalize B.bitAt t.data.toList x = b2 at *
        have hBs : Below w.heap.size w ((W.setCell ⟨wr.heap.size, x / 8, none⟩ (.int .u8 (v.toNat : Int))).drew) := ((hBw.trans (hBc.mono hBw.size)).setCell (by have := hBw.size; simp; omega) _).drew
        rw [← hvv] at *
        clear hconv hcu hcs hc1 hf1 hs1 Hy hbx hu hvv hul hus hBc hBw
        go_wp2_with fail
        refine (M1.out _).mono ?_
        rintro e w5 ⟨rfl, hB5⟩
        have hBw5 : Below w.heap.size w w5 := hBs.trans (hB5.mono hBs.size)
        clear hBs hB5
        go_wp2_with fail
        refine (M2.out _).mono ?_
        rintro e w6 ⟨rfl, hB6⟩
        have hBw6 : Below w.heap.size w w6 := hBw5.trans (hB6.mono hBw5.size)
        clear hBw5 hB6
        go_wp2_with fail
        go_ret
        exact ⟨ret_bool (a := !(b1 == b2)) hflip, hBw6⟩
end Go.Proofs.Ytbanageccecmnaa
