/- Unmap of the program: the walk. -/
import Derived.Test.YtlnkngacenkikaaUsedMap2
namespace Go.Proofs.Ytlnkngacenkikaa
open Go.RowKit
set_option linter.unusedVariables false

/-- how it ends -/
def UnmapEnds (w : World) (r : Except Int (List UInt8 × Nat)) (e : Ending) (w' : World) : Prop :=
  match r with
  | .ok (l, x) => e = .returned (.tuple #[.string ⟨l.toArray⟩, .int .i64 (x : Nat), .int .i64 0]) ∧ Below w.heap.size w w'
  | .error c => e = .returned (.tuple #[.string ⟨#[]⟩, .int .i64 0, .int .i64 c]) ∧ Below w.heap.size w w'
def appB (xs : List UInt8) (k : Nat) (f : Nat → Bool) : Nat → List UInt8
  | 0 => xs
  | i + 1 => appB xs k f i ++ if f i then [UInt8.ofNat (k * 16 + i)] else []
theorem appB_yes {xs : List UInt8} {k i : Nat} {f : Nat → Bool} (h : f i = true) : appB xs k f (i + 1) = appB xs k f i ++ [UInt8.ofNat (k * 16 + i)] := by rw [appB, h]; rfl
theorem appB_no {xs : List UInt8} {k i : Nat} {f : Nat → Bool} (h : f i = false) : appB xs k f (i + 1) = appB xs k f i := by rw [appB, h]; simp
theorem appB_none (xs : List UInt8) (k i : Nat) : appB xs k (fun _ => false) i = xs := by
  induction i with
  | zero => rfl
  | succ i ih => rw [appB_no rfl, ih]
theorem appB_bytesP (p f : Nat → Bool) (k i : Nat) (h : ∀ j, j < i → p (16 * k + j) = f j) : appB (bytesP p (16 * k)) k f i = bytesP p (16 * k + i) := by
  induction i with
  | zero => rfl
  | succ i ih => rw [appB, ih fun j hj => h j (by omega), ← Nat.add_assoc, bytesP_succ, h i (by omega), Nat.mul_comm k 16]
theorem length_appB (xs : List UInt8) (k : Nat) (f : Nat → Bool) (i : Nat) : (appB xs k f i).length ≤ xs.length + i := by
  induction i with
  | zero => simp [appB]
  | succ i ih =>
    rw [appB, List.length_append]
    cases f i <;> simp <;> omega
/-- what a round knows -/
def UnSt (u : List UInt8) (a k : Nat) (er : Int) (b : Bool) (xs : List UInt8) : Prop :=
  xs.length ≤ 16 * k ∧ ((er = 0 ∧ offU u a k ≤ 8 * u.length ∧ b = emptyU u a k ∧ xs = bytesP (bitU u a) (16 * k)) ∨ (er = 2 ∧ 8 * u.length < offU u a k))
theorem u64_bit0 (v k : Nat) (hv : v < 18446744073709551616) : (bits BinOp.and IntKind.u64 ((v : Int) / 2 ^ k) 1 == 0) = !v.testBit k := by
  have h := u64_bit v k hv
  have e : bits BinOp.and IntKind.u64 ((v : Int) / 2 ^ k) 1 = 0 ∨ bits BinOp.and IntKind.u64 ((v : Int) / 2 ^ k) 1 = 1 := by
    have hp := Nat.two_pow_pos k
    have h1 : (v : Int) / 2 ^ k = ((v / 2 ^ k : Nat) : Int) := by rw [pow_cast]; rfl
    have h2 : v / 2 ^ k ≤ v := Nat.div_le_self _ _
    rw [h1, show (1 : Int) = ((1 : Nat) : Int) from rfl, u64_and_nat _ _ (by omega) (by omega), Nat.and_one_is_mod]
    omega
  rw [← h]
  rcases e with e | e <;> rw [e] <;> rfl
theorem UnSt.no {u : List UInt8} {a k : Nat} {b : Bool} {xs : List UInt8} (h : UnSt u a k 0 b xs) (hd : hdU u a k = false) : UnSt u a (k + 1) 0 b xs := by
  obtain ⟨h1, h2 | ⟨h2, _⟩⟩ := h
  · obtain ⟨_, h3, h4, h5⟩ := h2
    refine ⟨by omega, .inl ⟨rfl, by rw [offU_succ, hd]; simpa using h3, by rw [emptyU_succ, hd]; simpa using h4, ?_⟩⟩
    have := appB_bytesP (bitU u a) (fun _ => false) k 16 fun j hj => by rw [bitU_row _ _ _ _ hj, hd]; rfl
    rw [appB_none, ← h5] at this
    exact this
  · cases h2
theorem UnSt.yes {u : List UInt8} {a k : Nat} {b z : Bool} {xs : List UInt8} {f : Nat → Bool} (h : UnSt u a k 0 b xs) (hd : hdU u a k = true) (hf : offU u a k + 16 ≤ 8 * u.length) (hz : z = !(rowU u a k).any id)
    (hff : ∀ i, i < 16 → f i = (rowU u a k).getD i false) : UnSt u a (k + 1) 0 (b || z) (appB xs k f 16) := by
  obtain ⟨h1, h2 | ⟨h2, _⟩⟩ := h
  · obtain ⟨_, h3, h4, h5⟩ := h2
    refine ⟨by have := length_appB xs k f 16; omega, .inl ⟨rfl, by rw [offU_succ, hd]; simpa using hf, by rw [emptyU_succ, hd, h4, hz]; simp, ?_⟩⟩
    rw [h5]
    exact appB_bytesP (bitU u a) f k 16 fun j hj => by rw [bitU_row _ _ _ _ hj, hd, hff j hj]; rfl
  · cases h2
theorem UnSt.short {u : List UInt8} {a k : Nat} {b z : Bool} {xs : List UInt8} {f : Nat → Bool} (h : UnSt u a k 0 b xs) (hd : hdU u a k = true) (hf : 8 * u.length < offU u a k + 16) : UnSt u a (k + 1) 2 z (appB xs k f 16) :=
  ⟨by have := length_appB xs k f 16; have := h.1; omega, .inr ⟨rfl, by rw [offU_succ, hd]; simpa using hf⟩⟩
theorem UnSt.start (u : List UInt8) (a : Nat) (h : a + 16 ≤ 8 * u.length) : UnSt u a 0 0 false [] := ⟨by simp, .inl ⟨rfl, h, rfl, rfl⟩⟩
theorem UnSt.start2 (u : List UInt8) (a : Nat) (h : 8 * u.length < a + 16) : UnSt u a 0 2 false [] := ⟨by simp, .inr ⟨rfl, h⟩⟩
theorem UnSt.two {u : List UInt8} {a k : Nat} {b : Bool} {xs : List UInt8} (h : UnSt u a k 2 b xs) (hk : k ≤ 16) : unmapR u a = .error 2 := by
  obtain ⟨h1, ⟨h2, _⟩ | ⟨_, h2⟩⟩ := h
  · cases h2
  · unfold unmapR
    rw [if_pos (Nat.lt_of_lt_of_le h2 (offU_mono u a hk))]
theorem UnSt.end {u : List UInt8} {a : Nat} {b z : Bool} {xs : List UInt8} (h : UnSt u a 16 0 b xs) (hz : z = !(List.range 16).any (hdU u a)) : unmapR u a = if b || z then .error 3 else .ok (xs, offU u a 16) := by
  obtain ⟨h1, ⟨_, h3, h4, h5⟩ | ⟨h2, _⟩⟩ := h
  · unfold unmapR
    rw [if_neg (by omega), ← h4, ← hz, h5]
  · cases h2
theorem UnSt.er {u : List UInt8} {a k : Nat} {er : Int} {b : Bool} {xs : List UInt8} (h : UnSt u a k er b xs) : er = 0 ∨ er = 2 := by
  obtain ⟨_, ⟨h, _⟩ | ⟨h, _⟩⟩ := h
  · exact .inl h
  · exact .inr h
theorem num_hd (u : List UInt8) (a k : Nat) (h : k < 16) : (B.num (B.slice u a 16)).testBit (15 - k) = hdU u a k := num_slice_bit u a 16 k h
theorem num_hd_any (u : List UInt8) (a : Nat) : ((B.num (B.slice u a 16) : Int) == 0) = !(List.range 16).any (hdU u a) := by
  have h := num_slice_zero u a 16
  cases hb : (List.range 16).any (hdU u a) with
  | false =>
    have := h.2 hb
    rw [this]; rfl
  | true =>
    have : B.num (B.slice u a 16) ≠ 0 := fun e => by have := h.1 e; unfold hdU at hb; rw [hb] at this; cases this
    simp only [Bool.not_true, beq_eq_false_iff_ne]
    omega
theorem num_row_any (u : List UInt8) (a k : Nat) : ((B.num (rowU u a k) : Int) == 0) = !(rowU u a k).any id := by
  have h := num_zero_iff (rowU u a k)
  cases hb : (rowU u a k).any id with
  | false =>
    have := h.2 hb
    rw [this]; rfl
  | true =>
    have : B.num (rowU u a k) ≠ 0 := fun e => by rw [h.1 e] at hb; cases hb
    simp only [Bool.not_true, beq_eq_false_iff_ne]
    omega
/-- what Get tells -/
theorem get16 (s : ByteArray) (a : Nat) (W : World) (hs : s.size ≤ 1000000) : ∃ (v : Nat) (er : Int), v < 65536 ∧ ((er = 0 ∧ a + 16 ≤ 8 * s.size ∧ v = B.num (B.slice s.data.toList a 16)) ∨ (er = 2 ∧ 8 * s.size < a + 16 ∧ v = 0)) ∧
    ∀ W, Calls Try.prog 25 #[.string s, .int .i64 (a : Nat), .int .i64 16] W fun e w' => e = .returned (.tuple #[.int .u64 (v : Nat), .int .i64 er]) ∧ W = w' := by
  have hl : s.data.toList.length = s.size := by simp
  rcases Nat.lt_or_ge (8 * s.size) (a + 16) with h | h
  · exact ⟨0, 2, by omega, .inr ⟨rfl, h, rfl⟩, fun W => get_short s a 16 W (by omega) (by omega) h⟩
  · refine ⟨B.num (B.slice s.data.toList a 16), 0, num16_lt _ (B.length_slice _ _ _), .inl ⟨rfl, h, rfl⟩, fun W => ?_⟩
    have := get_any s a (16 : Nat) W (by omega)
    rw [getE_ok _ a 16 (by omega) (by omega), getV_ok _ a 16 (by omega) (by omega)] at this
    exact this

set_option maxRecDepth 100000 in
set_option maxHeartbeats 3200000 in
theorem unmap_any (w : World) (s : ByteArray) (a : Nat) (hs : s.size ≤ 1000000) (ha : a ≤ 1000000000) :
    Calls Try.prog 12 #[.string s, .int .i64 (a : Nat)] w fun e w' => UnmapEnds w (unmapR s.data.toList a) e w' := by
  obtain ⟨r, hr⟩ : ∃ r, unmapR s.data.toList a = r := ⟨_, rfl⟩
  rw [hr]
  have hl : s.data.toList.length = s.size := by simp
  obtain ⟨v0, er0, hv0, hst0, C0⟩ := get16 s a w hs
  have CG : Hid (∀ a : Nat, ∃ (v : Nat) (er : Int), v < 65536 ∧ ((er = 0 ∧ a + 16 ≤ 8 * s.size ∧ v = B.num (B.slice s.data.toList a 16)) ∨ (er = 2 ∧ 8 * s.size < a + 16 ∧ v = 0)) ∧
    ∀ W, Calls Try.prog 25 #[.string s, .int .i64 (a : Nat), .int .i64 16] W fun e w' => e = .returned (.tuple #[.int .u64 (v : Nat), .int .i64 er]) ∧ W = w') := fun a => get16 s a w hs
  have HS0 : Hid (UnSt s.data.toList a 0 er0 false []) := by
    rcases hst0 with ⟨rfl, h, _⟩ | ⟨rfl, h, _⟩
    · exact UnSt.start _ _ (by omega)
    · exact UnSt.start2 _ _ (by omega)
  have Hv : Hid (er0 = 0 → v0 = B.num (B.slice s.data.toList a 16)) := fun e => by
    rcases hst0 with ⟨_, _, h⟩ | ⟨h, _⟩
    · exact h
    · rw [h] at e; cases e
  have HR := Lib.hid hr
  have HL := Lib.hid hl
  have Hst0 := Lib.hid hst0
  have HC0 := Lib.hid C0
  generalize s.data.toList = u at *
  clear hr hl hst0 C0
  go_enter Try.func12, Try.ntmps12
  go_wp2_with fail
  refine (HC0.out _).mono ?_
  rintro e w_ ⟨rfl, rfl⟩
  go_wp2_with fail
  go_loopw [1, 6, 7, 8, 10] (fun av ev ov bv kv wr => ∃ (k : Nat) (er : Int) (b : Bool) (xs : List UInt8), k ≤ 16 ∧ kv = .int .i64 k ∧ av = .int .i64 (offU u a k : Nat) ∧ ev = .int .i64 er ∧ bv = .bool b ∧ OwnBytes wr w.heap.size ov xs ∧ Below w.heap.size w wr ∧ UnSt u a k er b xs) (fun _ _ _ _ kv _ => 16 - (intOf kv).toNat)
  case atStart => exact ⟨0, er0, false, [], Nat.zero_le _, rfl, by unfold offU; rw [cntP_zero]; go_num, rfl, rfl, OwnBytes.nil _ _, Below.refl _ _, HS0.out⟩
  case round =>
    obtain ⟨k, er, b, xs, hk, rfl, rfl, rfl, rfl, hown, hB, hst⟩ := hrel
    have Hst := Lib.hid hst
    have Hown := Lib.hid hown
    have hzB := hB.size
    have hol := offU_le u a k
    have hxl := hst.1
    have her := hst.er
    clear hst hown HS0 HC0
    rcases her with rfl | rfl
    · have Hv0 : Hid (v0 = B.num (B.slice u a 16)) := by
        show _ = _
        rcases Hst0.out with ⟨h1, _, h2⟩ | ⟨h1, h2, _⟩
        · exact h2
        · exfalso
          obtain ⟨_, ⟨_, h3, _⟩ | ⟨h3, _⟩⟩ := Hst.out
          · have := HL.out; have : a + 16 ≤ offU u a k := by unfold offU; omega
            omega
          · cases h3
      by_cases hlt : k < 16
      · obtain ⟨j, hj⟩ : ∃ j, 15 - k = j := ⟨_, rfl⟩
        have hj2 : ((15 : Int) - (k : Int)).toNat = j := by omega
        have hj3 : (0 : Int) ≤ 15 - (k : Int) := by omega
        have hbit := u64_bit0 v0 j (by omega)
        have hhd : v0.testBit j = hdU u a k := by rw [← hj, Hv0.out]; exact num_hd u a k hlt
        rw [hhd] at hbit
        obtain ⟨h, hh⟩ : ∃ h, hdU u a k = h := ⟨_, rfl⟩
        rw [hh] at hbit
        have Hh := Lib.hid hh
        clear hhd hh
        cases h with
        | false =>
          simp only [Bool.not_false] at hbit
          have hos := offU_succ u a k
          rw [Hh.out] at hos
          simp only [Bool.false_eq_true, if_false, Nat.add_zero] at hos
          have Hos := Lib.hid hos
          clear hos
          go_wp2_with fail
          go_roundw
          case rel => exact ⟨k + 1, 0, b, xs, by omega, by go_num, by rw [Hos.out], rfl, rfl, Hown.out, hB, Hst.out.no Hh.out⟩
          case measure => simp [intOf]; omega
        | true =>
          simp only [Bool.not_true] at hbit
          obtain ⟨v, er, hv, hst1, C⟩ := CG.out (offU u a k)
          have HC := Lib.hid C
          have hos := offU_succ u a k
          rw [Hh.out, if_pos rfl] at hos
          have Hos := Lib.hid hos
          obtain ⟨z, hz⟩ : ∃ z, ((v : Int) == 0) = z := ⟨_, rfl⟩
          obtain ⟨f, hf⟩ : ∃ f : Nat → Bool, ∀ i, v.testBit (15 - i) = f i := ⟨_, fun _ => rfl⟩
          have hnext : UnSt u a (k + 1) er (b || z) (appB xs k f 16) := by
            rcases hst1 with ⟨rfl, h1, h2⟩ | ⟨rfl, h1, h2⟩
            · refine Hst.out.yes Hh.out (by rw [HL.out]; exact h1) (by rw [← hz, h2]; exact num_row_any u a k) fun i hi => ?_
              rw [← hf i, h2]
              show _ = (rowU u a k).getD i false
              unfold rowU
              rw [num_slice_bit u _ 16 i hi, B.getD_slice _ _ _ _ hi]
            · exact Hst.out.short Hh.out (by rw [HL.out]; exact h1)
          have Hnext := Lib.hid hnext
          have Hf := Lib.hid hf
          clear hos hnext hst1 hf C
          cases b
          all_goals
            go_wp2_with fail
            refine (HC.out _).mono ?_
            rintro e w_ ⟨rfl, rfl⟩
            go_wp2_with fail
            obtain ⟨wo, rfl⟩ : ∃ wo : World, wo = wr := ⟨_, rfl⟩
            go_loopw [7, 48] (fun ov iv wr => ∃ i : Nat, i ≤ 16 ∧ iv = .int .i64 i ∧ OwnBytes wr w.heap.size ov (appB xs k f i) ∧ Below w.heap.size w wr) (fun _ iv _ => 16 - (intOf iv).toNat)
            case atStart => exact ⟨0, Nat.zero_le _, rfl, Hown.out, hB⟩
            case round =>
              obtain ⟨i, hi, rfl, hown1, hB1⟩ := hrel
              have Hown1 := Lib.hid hown1
              have hzB1 := hB1.size
              have hal := length_appB xs k f i
              clear hown1
              by_cases hit : i < 16
              · obtain ⟨m, hm⟩ : ∃ m, 15 - i = m := ⟨_, rfl⟩
                have hm2 : ((15 : Int) - (i : Int)).toNat = m := by omega
                have hm3 : (0 : Int) ≤ 15 - (i : Int) := by omega
                have hbit1 := u64_bit v m (by omega)
                have hfi := Hf.out i
                rw [hm] at hfi
                rw [hfi] at hbit1
                obtain ⟨c, hc⟩ : ∃ c, f i = c := ⟨_, rfl⟩
                rw [hc] at hbit1
                have Hc := Lib.hid hc
                have hk1 : ((k : Int) * 16 + (i : Int)) = ((k * 16 + i : Nat) : Int) := by omega
                have Hk1 := Lib.hid hk1
                clear hfi hc hk1
                cases c with
                | true =>
                  go_wp2_with
                    (at_builtin
                     refine wpList_append_byte rfl _ _ rfl w.heap.size _ (appB xs k f i) rfl (Hown1.out.alloc _) wr.heap.size (k * 16 + i) (by omega) rfl (by rw [← Hk1.out]; exact heap_new _ _ _ rfl) (by omega) (by simp; omega) ?_
                     intro q' c' w1 hown2 hg1 hat1
                     have Hown2 := Lib.hid hown2
                     have hB2 : Below w.heap.size w w1 := (hB1.alloc (by omega) _).grown hg1 (by simp; omega) (fun j hj => own_bytes_ge Hown1.out hj)
                     clear hg1 hat1 hown2)
                  go_roundw
                  case rel => exact ⟨i + 1, by omega, by go_num, by rw [appB_yes Hc.out]; exact Hown2.out, hB2⟩
                  case measure => simp [intOf]; omega
                | false =>
                  go_wp2_with fail
                  go_roundw
                  case rel => exact ⟨i + 1, by omega, by go_num, by rw [appB_no Hc.out]; exact Hown1.out, hB1⟩
                  case measure => simp [intOf]; omega
              · obtain rfl : i = 16 := by omega
                go_wp2_with fail
                go_roundw
                case rel => exact ⟨k + 1, er, _, appB xs k f 16, by omega, by go_num, by rw [Hos.out]; go_num, rfl, rfl, Hown1.out, hB1, Hnext.out⟩
                case measure => simp [intOf]; omega
      · obtain rfl : k = 16 := by omega
        obtain ⟨z, hz⟩ : ∃ z, ((v0 : Int) == 0) = z := ⟨_, rfl⟩
        have hend := Hst.out.end (z := z) (by rw [← hz, Hv0.out]; exact num_hd_any u a)
        rw [HR.out] at hend
        have Hend := Lib.hid hend
        clear hend
        have hcv := convert_own _ Hown.out
        cases b
        · cases z
          · go_wp2_with fail
            go_ret3
            rw [Hend.out]
            exact ⟨rfl, hB⟩
          · go_wp2_with fail
            go_ret3
            rw [Hend.out]
            exact ⟨rfl, hB⟩
        · go_wp2_with fail
          go_ret3
          rw [Hend.out]
          exact ⟨rfl, hB⟩
    · have htwo := Hst.out.two hk
      rw [HR.out] at htwo
      have Htwo := Lib.hid htwo
      clear htwo
      by_cases hlt : k < 16
      · go_wp2_with fail
        go_ret3
        rw [Htwo.out]
        exact ⟨rfl, hB⟩
      · go_wp2_with fail
        go_ret3
        rw [Htwo.out]
        exact ⟨rfl, hB⟩
end Go.Proofs.Ytlnkngacenkikaa
