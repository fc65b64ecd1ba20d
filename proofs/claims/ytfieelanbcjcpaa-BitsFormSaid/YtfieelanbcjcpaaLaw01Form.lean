/- BitsForm: the walk. -/
import Derived.Test.YtfieelanbcjcpaaAwake01
import Derived.Test.YtfieelanbcjcpaaEnv
import Derived.Test.YtfieelanbcjcpaaTurn
import Derived.Deep.RegionHeld3
import Derived.Deep.DeepCutAuto
namespace Go.Proofs.Ytfieelanbcjcpaa
open Go.RowKit
set_option linter.unusedVariables false

/-- Cat of some bits alone -/
def oneVal (s : ByteArray) (n : Int) : Value := if rightB s.data.toList n then .agg #[.string s, .int .i64 n] else .agg #[.string ⟨#[]⟩, .int .i64 0]
def oneE (s : ByteArray) (n : Int) : Int := if rightB s.data.toList n then 0 else 1
theorem cat_one (W : World) (v : Value) (s : ByteArray) (n : Int) (hv : IsPairs W W.heap.size v [(s, n)]) (hn : -9223372036854775808 ≤ n) (hn' : n ≤ 9223372036854775807) (hs : s.size ≤ 1048576) :
    Calls Try.prog 15 #[v] W fun e w' => e = .returned (.tuple #[oneVal s n, .int .i64 (oneE s n)]) ∧ Below W.heap.size W w' := by
  refine (cat_any W v [(s, n)] hv (fun p hp => by simp at hp; subst hp; exact ⟨hn, hn'⟩) (by simp [pairBits]; omega)).mono ?_
  rintro e w' ⟨rfl, hB⟩
  refine ⟨?_, hB⟩
  congr 2
  unfold oneVal oneE catFrom
  by_cases h : rightB s.data.toList n = true
  · rw [if_pos h, if_pos h, if_pos h]
    have h' := h
    simp only [rightB, Bool.and_eq_true, decide_eq_true_eq] at h'
    obtain ⟨⟨h0, h1⟩, h2⟩ := h'
    have hR : B.Right s.data.toList n.toNat := ⟨h1, fun i hi hj => h2 i hj (by omega)⟩
    have hp : B.pack (B.slice s.data.toList 0 n.toNat) = s.data.toList := B.pack_slice hR
    have hl : (B.slice s.data.toList 0 n.toNat).length = n.toNat := B.length_slice ..
    show laidVal (some ([] ++ B.slice s.data.toList 0 n.toNat)) = _
    show Value.tuple #[.agg #[.string ⟨(B.pack ([] ++ B.slice s.data.toList 0 n.toNat)).toArray⟩, .int .i64 (([] ++ B.slice s.data.toList 0 n.toNat).length : Nat)], .int .i64 0] = _
    rw [List.nil_append, hp, hl, Int.toNat_of_nonneg h0]
  · rw [if_neg h, if_neg h, if_neg h]; rfl

theorem rightB_more (s : ByteArray) (n : Nat) (h : s.size = (n + 7) / 8) : rightB (s ++ ⟨#[0]⟩).data.toList (n : Nat) = false := by
  have hl : (s ++ ⟨#[0]⟩).data.toList.length = s.size + 1 := by
    show (s ++ ⟨#[0]⟩).size = _
    rw [ByteArray.size_append]; rfl
  unfold rightB
  rw [hl, decide_eq_false (by rw [Int.toNat_natCast]; omega), Bool.false_and]

theorem rightB_turned (s : List UInt8) (n k : Nat) (v : UInt8) (h : rightB s (n : Nat) = true) (hn : n ≤ k) (hk : k / 8 < s.length) (hv : v.toNat = (s.getD (k / 8) 0).toNat ^^^ (128 / 2 ^ (k % 8))) : rightB (s.set (k / 8) v) (n : Nat) = false := by
  have h' := h
  simp only [rightB, Bool.and_eq_true, decide_eq_true_eq] at h'
  have hb : B.bitAt s k = false := h'.2 k (by omega) (by omega)
  unfold rightB
  rw [Bool.and_eq_false_iff]
  refine Or.inr (decide_eq_false fun hh => ?_)
  have := hh k (by simp; omega) (by omega)
  rw [bitAt_turned s k v hk hv, hb] at this
  simp at this

set_option maxRecDepth 100000 in
set_option maxHeartbeats 6400000 in
theorem form_walk (w : World) (s : ByteArray) (n : Int) (v : Value) (raw : List Int) (which : Int) (hs : s.size ≤ 9223372036854775807) (hn : -9223372036854775808 ≤ n) (hn' : n ≤ 9223372036854775807) (hr : IsInts w w.heap.size v raw) (hrb : I64s raw) (h0 : -9223372036854775808 ≤ which) (h1 : which ≤ 9223372036854775807) :
    Calls Try.prog 7 #[.agg #[.string s, .int .i64 n], v, .int .i64 which] w fun e w' => e = .returned (.bool true) ∧ Below w.heap.size w w' := by
  have HR := Lib.hid hr
  obtain ⟨A0, ca0, rfl, hc1, hc2⟩ := hr.shape
  obtain ⟨L, hL⟩ : ∃ L : Nat, L = min s.size 60 := ⟨_, rfl⟩
  have hL1 : (if (60 : Int) < s.size then 60 else (s.size : Int)) = L := by rw [hL]; split <;> omega
  have hL2 : L ≤ s.size := by omega
  have hL3 : L ≤ 60 := by omega
  have hfr : (s.extract 0 L).size = L := front_size s L hL2
  have Hfr := Lib.hid hfr
  have hyl := length_rawBits raw 100
  have CA : Hid (∀ W, IsInts W W.heap.size (.slice A0 raw.length ca0) raw → Calls Try.prog 9 #[.slice A0 raw.length ca0, .int .i64 100] W fun e w' => e = .returned (.agg #[.string (txt (rawBits raw 100)), .int .i64 ((rawBits raw 100).length : Nat)]) ∧ Below W.heap.size W w') := fun W hv => lawBits_any W _ raw 100 hv hrb (by omega)
  generalize rawBits raw 100 = y at *
  clear hL hfr hr hrb
  have E0 := Lib.hid ((Env.nil w).box #[.string s, .int .i64 n] 26 _ rfl)
  go_enter Try.func7, Try.ntmps7
  go_wp2_with fail
  refine (awake_any _).mono ?_
  rintro e w1 ⟨rfl, hB⟩
  have E1 := Lib.hid (E0.out.step hB)
  clear hB E0
  have k00 := E1.out.cellv 0 rfl 0 _ rfl
  have k01 := E1.out.cellv 0 rfl 1 _ rfl
  go_wp2_with fail
  go_upto_region 2 with fail
  go_cut [8] (fun s8 wx => s8 = .pointer (some ⟨w1.heap.size, 0, none⟩) ∧ wx = (w1.alloc (.cells #[.string (s.extract 0 L), .int .i64 n] 26)).drew)
  case first =>
    go_region_held3 (fun w' => w'.cell? ⟨w.heap.size, 0, none⟩ = some (.string s) ∧ w'.cell? ⟨w.heap.size, 1, none⟩ = some (.int .i64 n)) (go_keep) (fail)
    all_goals (go_wp2_with fail; go_meet; exact ⟨rfl, rfl⟩)
  case rest =>
    obtain ⟨rfl, rfl⟩ := hcut
    have E2 := Lib.hid ((E1.out.box #[.string (s.extract 0 L), .int .i64 n] 26 _ rfl).drew)
    clear E1
    go_wp2_with fail
    refine (CA.out _ (E2.out.old HR.out)).mono ?_
    rintro e w2 ⟨rfl, hB⟩
    have E3 := Lib.hid (E2.out.step hB)
    clear hB E2
    have x1 : w1.heap.size < w2.heap.size := E3.out.lt 0 rfl
    have b00 : w2.cell? ⟨w1.heap.size, 0, none⟩ = some (.string (s.extract 0 L)) := E3.out.cellv 0 rfl 0 _ rfl
    have b01 : w2.cell? ⟨w1.heap.size, 1, none⟩ = some (.int .i64 n) := E3.out.cellv 0 rfl 1 _ rfl
    go_wp2_with fail
    have E4 := Lib.hid ((E3.out.box #[.string (txt y), .int .i64 (y.length : Nat)] 26 _ rfl).box #[.string (s.extract 0 L), .int .i64 n, .string (txt y), .int .i64 (y.length : Nat)] 26 (w2.heap.size + 1) (by simp))
    clear E3 b00 b01
    have eR : Hid (rightB (txt y).data.toList (y.length : Nat) = true) := rightB_pack y
    have eyl : Hid ((txt y).size = (y.length + 7) / 8) := txt_size y
    generalize s.extract 0 L = x at *
    generalize txt y = ys at *
    generalize y.length = yn at *
    have ex : Hid (x.size ≤ 60) := Lib.hid (by have := Hfr.out; omega)
    have ey : Hid (ys.size ≤ 13) := Lib.hid (by have := eyl.out; omega)
    clear Hfr CA HR
    go_loopw [34] (fun jv wr => ∃ j : Nat, j ≤ 2 ∧ jv = .int .i64 j ∧ Env w wr [] [(w2.heap.size + 1, #[.string x, .int .i64 n, .string ys, .int .i64 (yn : Nat)], 26), (w2.heap.size, #[.string ys, .int .i64 (yn : Nat)], 26)]) (fun jv _ => 3 - (intOf jv).toNat)
    case atStart => exact ⟨0, by omega, rfl, E4.out.drop (by simp) (by simp)⟩
    case round =>
      obtain ⟨j, hj, rfl, hE⟩ := hrel
      have E5 := Lib.hid hE
      clear hE E4
      have x2 : w2.heap.size + 1 < wr.heap.size := E5.out.lt 0 rfl
      have d00 : wr.cell? ⟨w2.heap.size + 1, 0, none⟩ = some (.string x) := E5.out.cellv 0 rfl 0 _ rfl
      have d01 : wr.cell? ⟨w2.heap.size + 1, 1, none⟩ = some (.int .i64 n) := E5.out.cellv 0 rfl 1 _ rfl
      have d02 : wr.cell? ⟨w2.heap.size + 1, 2, none⟩ = some (.string ys) := E5.out.cellv 0 rfl 2 _ rfl
      have d03 : wr.cell? ⟨w2.heap.size + 1, 3, none⟩ = some (.int .i64 (yn : Nat)) := E5.out.cellv 0 rfl 3 _ rfl
      rcases (show j = 0 ∨ j = 1 ∨ j = 2 by omega) with rfl | rfl | rfl
      · have C : Hid (∀ W v, IsPairs W W.heap.size v [(x, n)] → Calls Try.prog 15 #[v] W fun e w' => e = .returned (.tuple #[oneVal x n, .int .i64 (oneE x n)]) ∧ Below W.heap.size W w') := fun W v hv => cat_one W v x n hv hn hn' (by have := ex.out; omega)
        have R : Hid (∀ W, Calls Try.prog 13 #[.agg #[.string x, .int .i64 n]] W fun e w' => e = .returned (.bool (rightB x.data.toList n)) ∧ Below W.heap.size W w') := fun W => right_any x n W (by have := ex.out; omega) hn hn'
        have hOV : oneVal x n = if rightB x.data.toList n then .agg #[.string x, .int .i64 n] else .agg #[.string ⟨#[]⟩, .int .i64 0] := rfl
        have hOE : oneE x n = if rightB x.data.toList n then 0 else 1 := rfl
        rcases hr : rightB x.data.toList n with _ | _
        · rw [hr] at hOV hOE R
          simp only [Bool.false_eq_true, if_false] at hOV hOE
          rw [hOV, hOE] at C
          clear hOV hOE hr
          go_wp2_with fail
          refine (C.out _ _ (IsPairs.new _ _ (by simp) [(x, n)] _ rfl (by simp [maxLen]))).mono ?_
          rintro e w3 ⟨rfl, hB⟩
          have F2 := Lib.hid ((((E5.out.box #[.string x, .int .i64 n] 26 _ rfl).alloc _).step hB))
          have x5 : wr.heap.size < w3.heap.size := F2.out.lt 0 rfl
          have c00 : w3.cell? ⟨wr.heap.size, 0, none⟩ = some (.string x) := F2.out.cellv 0 rfl 0 _ rfl
          have c01 : w3.cell? ⟨wr.heap.size, 1, none⟩ = some (.int .i64 n) := F2.out.cellv 0 rfl 1 _ rfl
          clear hB E5 C
          go_wp2_with fail
          refine (R.out _).mono ?_
          rintro e w4 ⟨rfl, hB⟩
          have F3 := Lib.hid ((F2.out.box #[.string ⟨#[]⟩, .int .i64 0] 26 _ rfl).step hB)
          have x6 : w3.heap.size < w4.heap.size := F3.out.lt 0 rfl
          have x7 : wr.heap.size < w4.heap.size := F3.out.lt 1 rfl
          have k00 : w4.cell? ⟨wr.heap.size, 0, none⟩ = some (.string x) := F3.out.cellv 1 rfl 0 _ rfl
          have k01 : w4.cell? ⟨wr.heap.size, 1, none⟩ = some (.int .i64 n) := F3.out.cellv 1 rfl 1 _ rfl
          have k02 : w4.cell? ⟨w3.heap.size, 0, none⟩ = some (.string ⟨#[]⟩) := F3.out.cellv 0 rfl 0 _ rfl
          have k03 : w4.cell? ⟨w3.heap.size, 1, none⟩ = some (.int .i64 0) := F3.out.cellv 0 rfl 1 _ rfl
          clear hB F2 R
          go_wp2_with fail
          go_roundw
          case rel => exact ⟨1, by omega, by go_num, F3.out.drop (by simp) (by simp)⟩
          case measure => simp [intOf]
        · rw [hr] at hOV hOE R
          simp only [if_true] at hOV hOE
          rw [hOV, hOE] at C
          clear hOV hOE hr
          go_wp2_with fail
          refine (C.out _ _ (IsPairs.new _ _ (by simp) [(x, n)] _ rfl (by simp [maxLen]))).mono ?_
          rintro e w3 ⟨rfl, hB⟩
          have F2 := Lib.hid ((((E5.out.box #[.string x, .int .i64 n] 26 _ rfl).alloc _).step hB))
          have x5 : wr.heap.size < w3.heap.size := F2.out.lt 0 rfl
          have c00 : w3.cell? ⟨wr.heap.size, 0, none⟩ = some (.string x) := F2.out.cellv 0 rfl 0 _ rfl
          have c01 : w3.cell? ⟨wr.heap.size, 1, none⟩ = some (.int .i64 n) := F2.out.cellv 0 rfl 1 _ rfl
          clear hB E5 C
          go_wp2_with fail
          refine (R.out _).mono ?_
          rintro e w4 ⟨rfl, hB⟩
          have F3 := Lib.hid ((F2.out.box #[.string x, .int .i64 n] 26 _ rfl).step hB)
          have x6 : w3.heap.size < w4.heap.size := F3.out.lt 0 rfl
          have x7 : wr.heap.size < w4.heap.size := F3.out.lt 1 rfl
          have k00 : w4.cell? ⟨wr.heap.size, 0, none⟩ = some (.string x) := F3.out.cellv 1 rfl 0 _ rfl
          have k01 : w4.cell? ⟨wr.heap.size, 1, none⟩ = some (.int .i64 n) := F3.out.cellv 1 rfl 1 _ rfl
          have k02 : w4.cell? ⟨w3.heap.size, 0, none⟩ = some (.string x) := F3.out.cellv 0 rfl 0 _ rfl
          have k03 : w4.cell? ⟨w3.heap.size, 1, none⟩ = some (.int .i64 n) := F3.out.cellv 0 rfl 1 _ rfl
          clear hB F2 R
          go_wp2_with fail
          go_roundw
          case rel => exact ⟨1, by omega, by go_num, F3.out.drop (by simp) (by simp)⟩
          case measure => simp [intOf]
      · have hOV : oneVal ys (yn : Nat) = .agg #[.string ys, .int .i64 (yn : Nat)] := by unfold oneVal; rw [if_pos eR.out]
        have hOE : oneE ys (yn : Nat) = 0 := by unfold oneE; rw [if_pos eR.out]
        have C : Hid (∀ W v, IsPairs W W.heap.size v [(ys, (yn : Nat))] → Calls Try.prog 15 #[v] W fun e w' => e = .returned (.tuple #[.agg #[.string ys, .int .i64 (yn : Nat)], .int .i64 0]) ∧ Below W.heap.size W w') := fun W v hv => by
          have := cat_one W v ys (yn : Nat) hv (by omega) (by omega) (by have := ey.out; omega)
          rw [hOV, hOE] at this
          exact this
        have R : Hid (∀ W, Calls Try.prog 13 #[.agg #[.string ys, .int .i64 (yn : Nat)]] W fun e w' => e = .returned (.bool true) ∧ Below W.heap.size W w') := fun W => by
          have := right_any ys (yn : Nat) W (by have := ey.out; omega) (by omega) (by omega)
          rw [eR.out] at this
          exact this
        clear hOV hOE
        go_wp2_with fail
        refine (C.out _ _ (IsPairs.new _ _ (by simp) [(ys, (yn : Nat))] _ rfl (by simp [maxLen]))).mono ?_
        rintro e w3 ⟨rfl, hB⟩
        have F2 := Lib.hid ((((E5.out.box #[.string ys, .int .i64 (yn : Nat)] 26 _ rfl).alloc _).step hB))
        have x5 : wr.heap.size < w3.heap.size := F2.out.lt 0 rfl
        have c00 : w3.cell? ⟨wr.heap.size, 0, none⟩ = some (.string ys) := F2.out.cellv 0 rfl 0 _ rfl
        have c01 : w3.cell? ⟨wr.heap.size, 1, none⟩ = some (.int .i64 (yn : Nat)) := F2.out.cellv 0 rfl 1 _ rfl
        clear hB E5 C
        go_wp2_with fail
        refine (R.out _).mono ?_
        rintro e w4 ⟨rfl, hB⟩
        have F3 := Lib.hid ((F2.out.box #[.string ys, .int .i64 (yn : Nat)] 26 _ rfl).step hB)
        have x6 : w3.heap.size < w4.heap.size := F3.out.lt 0 rfl
        have x7 : wr.heap.size < w4.heap.size := F3.out.lt 1 rfl
        have k00 : w4.cell? ⟨wr.heap.size, 0, none⟩ = some (.string ys) := F3.out.cellv 1 rfl 0 _ rfl
        have k01 : w4.cell? ⟨wr.heap.size, 1, none⟩ = some (.int .i64 (yn : Nat)) := F3.out.cellv 1 rfl 1 _ rfl
        have k02 : w4.cell? ⟨w3.heap.size, 0, none⟩ = some (.string ys) := F3.out.cellv 0 rfl 0 _ rfl
        have k03 : w4.cell? ⟨w3.heap.size, 1, none⟩ = some (.int .i64 (yn : Nat)) := F3.out.cellv 0 rfl 1 _ rfl
        clear hB F2 R
        go_wp2_with fail
        go_roundw
        case rel => exact ⟨2, by omega, by go_num, F3.out.drop (by simp) (by simp)⟩
        case measure => simp [intOf]
      · have x1 : w2.heap.size < wr.heap.size := E5.out.lt 1 rfl
        have b00 : wr.cell? ⟨w2.heap.size, 0, none⟩ = some (.string ys) := E5.out.cellv 1 rfl 0 _ rfl
        have b01 : wr.cell? ⟨w2.heap.size, 1, none⟩ = some (.int .i64 (yn : Nat)) := E5.out.cellv 1 rfl 1 _ rfl
        clear d00 d01 d02 d03
        obtain ⟨R, hR⟩ : ∃ R : Nat, 8 * (ys.size : Int) - (yn : Int) = R := ⟨8 * ys.size - yn, by have := eyl.out; omega⟩
        have hR1 : R < 8 := by have := eyl.out; omega
        have hy1 : ys.size ≤ 13 := ey.out
        go_upto_region 12 with fail
        have R1 : Hid (∀ W, Calls Try.prog 13 #[.agg #[.string ys, .int .i64 (yn : Nat)]] W fun e w' => e = .returned (.bool true) ∧ Below W.heap.size W w') := fun W => by
          have := right_any ys (yn : Nat) W (by have := ey.out; omega) (by omega) (by omega)
          rw [eR.out] at this
          exact this
        have R2 : Hid (∀ W, Calls Try.prog 13 #[.agg #[.string (ys ++ ⟨#[0]⟩), .int .i64 (yn : Nat)]] W fun e w' => e = .returned (.bool false) ∧ Below W.heap.size W w') := fun W => by
          have := right_any (ys ++ ⟨#[0]⟩) (yn : Nat) W (by rw [ByteArray.size_append, show (⟨#[0]⟩ : ByteArray).size = 1 from rfl]; omega) (by omega) (by omega)
          rw [rightB_more ys yn eyl.out] at this
          exact this
        have E6 := Lib.hid (E5.out.drop (m := []) (cs := [(w2.heap.size, #[.string ys, .int .i64 (yn : Nat)], 26)]) (by simp) (by simp))
        clear E5
        rcases Nat.eq_zero_or_pos R with rfl | hR0
        · go_wp2_with fail
          refine (R1.out _).mono ?_
          rintro e w5 ⟨rfl, hB⟩
          have G1 := Lib.hid (E6.out.step hB)
          have x2 : w2.heap.size < w5.heap.size := G1.out.lt 0 rfl
          have l00 : w5.cell? ⟨w2.heap.size, 0, none⟩ = some (.string ys) := G1.out.cellv 0 rfl 0 _ rfl
          have l01 : w5.cell? ⟨w2.heap.size, 1, none⟩ = some (.int .i64 (yn : Nat)) := G1.out.cellv 0 rfl 1 _ rfl
          clear hB E6
          go_wp2_with fail
          refine (R2.out _).mono ?_
          rintro e w6 ⟨rfl, hB⟩
          have G2 := G1.out.step hB
          clear hB G1
          go_wp2_with fail
          go_ret
          exact ⟨rfl, G2.bel⟩
        · obtain ⟨q, hq⟩ : ∃ q : Nat, pickF which (R : Int) = (q : Int) := ⟨(pickF which (R : Int)).toNat, by have := pickF_lt which (R : Int) (by omega); omega⟩
          have hq1 : q < R := by have := pickF_lt which (R : Int) (by omega); omega
          have P1 : Hid (∀ W, Calls Try.prog 10 #[.int .i64 which, .int .i64 (R : Nat)] W fun e w' => e = .returned (.int .i64 (q : Nat)) ∧ W = w') := fun W => by
            have := pick_any which (R : Int) W h0 h1 (by omega) (by omega)
            rw [hq] at this
            exact this
          clear hq
          go_wp2_with fail
          go_quiet ((go_at_call 10; exact quiet_l (P1.out _)))
          go_wp2_with fail
          obtain ⟨k, hk⟩ : ∃ k : Nat, (yn : Int) + (q : Int) = (k : Nat) := ⟨yn + q, by push_cast; rfl⟩
          rw [hk]
          have hk1 : yn ≤ k := by omega
          have hk2 : k < 8 * ys.size := by omega
          have htl : ys.data.toList.length = ys.size := by simp
          have E7 := Lib.hid (E6.out.drewN nq)
          generalize wr.drewN nq = W0 at *
          rw [Lib.run_convert_string_bytes W0 9 43 5 ys Try.underlying9 Try.underlying43 Try.underlying5]
          have hc1 := Lib.bytesWorld_cell W0 5 ys (k / 8) (by omega)
          have hcs : Hid (∀ j, j < ys.size → (Lib.bytesWorld W0 5 ys).cell? ⟨W0.heap.size, j, none⟩ = some (.int .u8 ((ys.data.toList.getD j 0).toNat : Nat))) := fun j hj => Lib.bytesWorld_cell W0 5 ys j hj
          have hn1 := Lib.bytesWorld_at_new W0 5 ys
          have ho1 := Lib.bytesWorld_at_old W0 5 ys
          have hs1 := Lib.bytesWorld_size W0 5 ys
          have hf1 : (Lib.bytesWorld W0 5 ys).frozen? ⟨W0.heap.size, k / 8, none⟩ = false := by
            have hsz1 : k / 8 < (Lib.bytesCells W0 5 ys).size := by simp [Lib.bytesCells]; omega
            simp [World.frozen?, hn1]; omega
          have hBc : Below W0.heap.size W0 (Lib.bytesWorld W0 5 ys) := ⟨rfl, rfl, rfl, by rw [hs1]; omega, fun k hk => ho1 k hk⟩
          have E8 := Lib.hid (E7.out.step hBc)
          have z1 : w2.heap.size < W0.heap.size := E7.out.lt 0 rfl
          have v00 : (Lib.bytesWorld W0 5 ys).cell? ⟨w2.heap.size, 0, none⟩ = some (.string ys) := E8.out.cellv 0 rfl 0 _ rfl
          have v01 : (Lib.bytesWorld W0 5 ys).cell? ⟨w2.heap.size, 1, none⟩ = some (.int .i64 (yn : Nat)) := E8.out.cellv 0 rfl 1 _ rfl
          obtain ⟨yy, hyy⟩ : ∃ yy, (ys.data.toList.getD (k / 8) 0).toNat = yy := ⟨_, rfl⟩
          rw [hyy] at hc1
          generalize Lib.bytesWorld W0 5 ys = W at *
          have hd : (k : Int).tdiv 8 = (k : Int) / 8 := Int.tdiv_eq_ediv_of_nonneg (by omega)
          have hm : (k : Int).tmod 8 = (k : Int) % 8 := Int.tmod_eq_emod_of_nonneg (by omega)
          have hq1 : 0 ≤ (k : Int) / 8 := by omega
          have hq2 : (k : Int) / 8 < (ys.size : Int) := by omega
          have hq3 : ((k : Int) / 8).toNat = k / 8 := by omega
          have hq4 : 0 ≤ (k : Int) % 8 := by omega
          have hq5 : ((k : Int) % 8).toNat = k % 8 := by omega
          have hq6 : IntKind.i64.wrap ((k : Int) / 8) = (k : Int) / 8 := IntWalk.i64_in _ (by omega)
          have hx8 : k / 8 < ys.size := by omega
          have Hyy := Lib.hid hyy
          clear hn1 ho1 hyy
          go_wp2_with fail
          go_still_tail 12, (by kernel_rfl)
          go_wp2_with fail
          have hy256 : yy < 256 := by rw [← Hyy.out]; exact UInt8.toNat_lt _
          have hr256 : 128 / 2 ^ (k % 8) < 256 := Nat.lt_of_le_of_lt (Nat.div_le_self _ _) (by omega)
          have hxr : yy ^^^ (128 / 2 ^ (k % 8)) < 256 := Nat.xor_lt_two_pow (n := 8) hy256 hr256
          obtain ⟨v, hvv⟩ : ∃ v : UInt8, v.toNat = yy ^^^ (128 / 2 ^ (k % 8)) := ⟨UInt8.ofNat (yy ^^^ (128 / 2 ^ (k % 8))), by rw [UInt8.toNat_ofNat', Nat.mod_eq_of_lt hxr]⟩
          have hbx : bits .xor .u8 (yy : Int) (128 / 2 ^ (k % 8)) = (v.toNat : Int) := by
            rw [hvv, ← u8_xor_nat _ _ hy256 hr256]; congr 1
          rw [hbx]
          obtain ⟨u, hu⟩ : ∃ u, ys.data.toList.set (k / 8) v = u := ⟨_, rfl⟩
          have hul : u.length = ys.size := by rw [← hu]; simp
          have hcu : ∀ j (hj : j < u.length), ((W.setCell ⟨W0.heap.size, k / 8, none⟩ (.int .u8 (v.toNat : Int))).drew).cell? ((⟨W0.heap.size, 0, none⟩ : Addr).add j) = some (.int .u8 (u[j].toNat : Int)) := by
            subst hu
            exact turned_cells W W0.heap.size ys.data.toList (k / 8) v (by simpa using hx8) (by simpa using hcs.out)
          have hconv := run_convert_bytes_back (P := Try.prog) ((W.setCell ⟨W0.heap.size, k / 8, none⟩ (.int .u8 (v.toNat : Int))).drew) 43 9 5 ⟨W0.heap.size, 0, none⟩ (grownCap W0 ys.size 0 5) u Try.underlying43 Try.underlying5 Try.underlying9 hcu
          rw [hul] at hconv
          rw [hconv]
          have hfl : rightB u (yn : Nat) = false := by rw [← hu]; exact rightB_turned ys.data.toList yn k v eR.out hk1 (by omega) (by rw [hvv, Hyy.out])
          have hus : (⟨u.toArray⟩ : ByteArray).size = ys.size := by rw [← hul]; simp [ByteArray.size]
          have R3 : Hid (∀ W, Calls Try.prog 13 #[.agg #[.string ⟨u.toArray⟩, .int .i64 (yn : Nat)]] W fun e w' => e = .returned (.bool false) ∧ Below W.heap.size W w') := fun W => by
            have := right_any ⟨u.toArray⟩ (yn : Nat) W (by omega) (by omega) (by omega)
            rw [show (⟨u.toArray⟩ : ByteArray).data.toList = u from rfl, hfl] at this
            exact this
          have hB8 : Below W0.heap.size W0 (W.setCell ⟨W0.heap.size, k / 8, none⟩ (.int .u8 (v.toNat : Int))).drew := (hBc.setCell (by simp) _).drew
          have E8b := Lib.hid (E7.out.step hB8)
          have w00 : (W.setCell ⟨W0.heap.size, k / 8, none⟩ (.int .u8 (v.toNat : Int))).drew.cell? ⟨w2.heap.size, 0, none⟩ = some (.string ys) := E8b.out.cellv 0 rfl 0 _ rfl
          have w01 : (W.setCell ⟨W0.heap.size, k / 8, none⟩ (.int .u8 (v.toNat : Int))).drew.cell? ⟨w2.heap.size, 1, none⟩ = some (.int .i64 (yn : Nat)) := E8b.out.cellv 0 rfl 1 _ rfl
          clear hB8 hfl hconv hcu hcs hc1 hf1 hs1 Hyy hbx hu hvv hul hus hBc E8 E7 v00 v01
          generalize (W.setCell ⟨W0.heap.size, k / 8, none⟩ (.int .u8 (v.toNat : Int))).drew = W9 at *
          go_wp2_with fail
          refine (R3.out _).mono ?_
          rintro e w7 ⟨rfl, hB⟩
          have E9 := Lib.hid (E8b.out.step hB)
          have x3 : w2.heap.size < w7.heap.size := E9.out.lt 0 rfl
          have m00 : w7.cell? ⟨w2.heap.size, 0, none⟩ = some (.string ys) := E9.out.cellv 0 rfl 0 _ rfl
          have m01 : w7.cell? ⟨w2.heap.size, 1, none⟩ = some (.int .i64 (yn : Nat)) := E9.out.cellv 0 rfl 1 _ rfl
          clear hB E8b R3 w00 w01
          go_wp2_with fail
          refine (R1.out _).mono ?_
          rintro e w8 ⟨rfl, hB⟩
          have G1 := Lib.hid (E9.out.step hB)
          have x2 : w2.heap.size < w8.heap.size := G1.out.lt 0 rfl
          have l00 : w8.cell? ⟨w2.heap.size, 0, none⟩ = some (.string ys) := G1.out.cellv 0 rfl 0 _ rfl
          have l01 : w8.cell? ⟨w2.heap.size, 1, none⟩ = some (.int .i64 (yn : Nat)) := G1.out.cellv 0 rfl 1 _ rfl
          clear hB E9
          go_wp2_with fail
          refine (R2.out _).mono ?_
          rintro e w9 ⟨rfl, hB⟩
          have G2 := G1.out.step hB
          clear hB G1
          go_wp2_with fail
          go_ret
          exact ⟨rfl, G2.bel⟩
end Go.Proofs.Ytfieelanbcjcpaa
