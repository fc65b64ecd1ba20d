/- may, deepest, Lengths and Cost of the document's answer: the walks. -/
import Derived.Test.YtegjkhhgihcdcaaJoined
import Derived.Test.YtegjkhhgihcdcaaLenN
namespace Go.Proofs.Ytegjkhhgihcdcaa
open Go.RowKit
set_option linter.unusedVariables false

set_option maxHeartbeats 1600000 in
theorem may_any (w : World) (v : Value) (l : List Int) (hv : IsInts w w.heap.size v l) (hl : l.length ≤ 1000000) :
    Calls Try.prog 23 #[v] w fun e w' => e = .returned (.bool (mayW l)) ∧ w = w' := by
  obtain ⟨A, ca, rfl, hc1, hc2⟩ := hv.shape
  obtain ⟨N, hN⟩ : ∃ N, l.length = N := ⟨_, rfl⟩
  rw [hN] at hv hc1 hl ⊢
  have HN := Lib.hid hN
  have HV := Lib.hid hv
  clear hv hN
  go_enter Try.func23, Try.ntmps23
  go_wp2_with fail
  go_loopw [3] (fun iv wr => w = wr ∧ ∃ k : Nat, k ≤ N ∧ iv = .int .i64 k ∧ Hid (∀ x ∈ l.take k, 0 ≤ x ∧ x ≤ 1048576)) (fun iv _ => N + 1 - (intOf iv).toNat)
  case atStart => exact ⟨rfl, 0, Nat.zero_le _, rfl, fun x hx => by simp at hx⟩
  case round =>
    obtain ⟨rfl, k, hk, rfl, HG⟩ := hrel
    by_cases hlt : k < N
    · obtain ⟨g, o, rfl, hg, hc⟩ := HV.out.at k (by rw [HN.out]; exact hlt)
      obtain ⟨x, hx⟩ : ∃ x, l[k]? = some x := ⟨_, List.getElem?_eq_getElem (by rw [HN.out]; exact hlt)⟩
      rw [hx, Option.getD_some] at hc
      by_cases hx1 : x < 0
      · have hr : Hid (mayW l = false) := by
          show _ = _
          cases hm : mayW l with
          | false => rfl
          | true => have := (mayW_iff l).1 hm x (List.mem_of_getElem? hx); omega
        clear hx
        go_wp2_with fail
        go_ret
        exact ⟨by rw [hr.out]; rfl, rfl⟩
      · by_cases hx2 : 1048576 < x
        · have hr : Hid (mayW l = false) := by
            show _ = _
            cases hm : mayW l with
            | false => rfl
            | true => have := (mayW_iff l).1 hm x (List.mem_of_getElem? hx); omega
          clear hx
          go_wp2_with fail
          go_ret
          exact ⟨by rw [hr.out]; rfl, rfl⟩
        · have HX := Lib.hid hx
          clear hx
          go_wp2_with fail
          go_roundw
          case rel => exact ⟨trivial, k + 1, by omega, by go_num, fun y hy => by
            rw [List.take_add_one, HX.out, List.mem_append] at hy
            rcases hy with hy | hy
            · exact HG.out y hy
            · simp at hy; omega⟩
          case measure => simp [intOf]; omega
    · obtain rfl : k = N := by omega
      have hr : Hid (mayW l = true) := (mayW_iff l).2 fun x hx => HG.out x (by rw [List.take_of_length_le (by rw [HN.out]; exact Nat.le_refl _)]; exact hx)
      go_wp2_with fail
      go_ret
      exact ⟨by rw [hr.out]; rfl, rfl⟩
def dmax (l : List Nat) : Nat := l.foldl max 0
theorem foldl_maxN (l : List Nat) (b : Nat) : ∀ a, b < l.foldl max a ↔ b < a ∨ ∃ x ∈ l, b < x := by
  induction l with
  | nil => intro a; simp
  | cons y l ih =>
    intro a
    rw [List.foldl_cons, ih]
    constructor
    · rintro (h | ⟨x, hx, h⟩)
      · by_cases h2 : b < a
        · exact .inl h2
        · exact .inr ⟨y, by simp, by omega⟩
      · exact .inr ⟨x, by simp [hx], h⟩
    · rintro (h | ⟨x, hx, h⟩)
      · exact .inl (by omega)
      · rcases List.mem_cons.1 hx with rfl | hx
        · exact .inl (by omega)
        · exact .inr ⟨x, hx, h⟩
theorem dmax_deep (ws : List Nat) (most : Nat) : decide ((most : Int) < (dmax (depthsF ws) : Nat)) = tooDeep ws most := by
  rw [Bool.eq_iff_iff, decide_eq_true_iff]
  unfold tooDeep dmax
  rw [List.any_eq_true]
  have := foldl_maxN (depthsF ws) most 0
  constructor
  · intro h
    rcases this.1 (by omega) with h2 | ⟨x, hx, h2⟩
    · omega
    · exact ⟨x, hx, by simpa using h2⟩
  · rintro ⟨x, hx, h2⟩
    have := this.2 (.inr ⟨x, hx, by simpa using h2⟩)
    omega
set_option maxHeartbeats 1600000 in
theorem deepest_any (w : World) (v : Value) (l : List Nat) (hv : IsInts w w.heap.size v (ints l)) (hl : l.length ≤ 1000000) :
    Calls Try.prog 25 #[v] w fun e w' => e = .returned (.int .i64 (dmax l : Nat)) ∧ w = w' := by
  obtain ⟨A, ca, rfl, hc1, hc2⟩ := hv.shape
  obtain ⟨N, hN⟩ : ∃ N, l.length = N := ⟨_, rfl⟩
  rw [length_ints, hN] at hv hc1 ⊢
  rw [hN] at hl
  have HN := Lib.hid hN
  have HV := Lib.hid hv
  clear hv hN
  go_enter Try.func25, Try.ntmps25
  go_wp2_with fail
  go_loopw [3, 4] (fun nv iv wr => w = wr ∧ ∃ k z : Nat, k ≤ N ∧ iv = .int .i64 k ∧ nv = .int .i64 z ∧ Hid (dmax (l.take k) = z)) (fun _ iv _ => N + 1 - (intOf iv).toNat)
  case atStart => exact ⟨rfl, 0, 0, Nat.zero_le _, rfl, rfl, rfl⟩
  case round =>
    obtain ⟨rfl, k, z, hk, rfl, rfl, HZ⟩ := hrel
    by_cases hlt : k < N
    · obtain ⟨g, o, rfl, hg, hc⟩ := HV.out.at k (by rw [length_ints, HN.out]; exact hlt)
      obtain ⟨x, hx⟩ : ∃ x, l[k]? = some x := ⟨_, List.getElem?_eq_getElem (by rw [HN.out]; exact hlt)⟩
      rw [show (ints l)[k]?.getD 0 = (x : Int) by simp [ints, hx]] at hc
      have HS : Hid (dmax (l.take (k + 1)) = max z x) := by
        show _ = _
        have := HZ.out
        unfold dmax at *
        rw [List.take_add_one, hx, List.foldl_append, this]
        rfl
      clear hx
      by_cases hzx : z < x
      · go_wp2_with fail
        go_roundw
        case rel => exact ⟨trivial, k + 1, x, by omega, by go_num, rfl, by show _ = _; rw [HS.out]; omega⟩
        case measure => simp [intOf]; omega
      · go_wp2_with fail
        go_roundw
        case rel => exact ⟨trivial, k + 1, z, by omega, by go_num, rfl, by show _ = _; rw [HS.out]; omega⟩
        case measure => simp [intOf]; omega
    · obtain rfl : k = N := by omega
      have hz : Hid (dmax l = z) := by
        have := HZ.out
        rw [List.take_of_length_le (by rw [HN.out]; exact Nat.le_refl _)] at this
        exact this
      go_wp2_with fail
      go_ret
      exact ⟨by rw [hz.out]; rfl, rfl⟩
set_option maxRecDepth 100000 in
set_option maxHeartbeats 1600000 in
theorem rcost_any (w : World) (v u : Value) (l m : List Int) (hv : IsInts w w.heap.size v l) (hu : IsInts w w.heap.size u m) (hl : l.length ≤ 1000000) (hm : m.length ≤ 1000000) :
    Calls Try.prog 16 #[v, u] w fun e w' => e = .returned (.tuple #[.int .i64 (costF l m).1, .int .i64 (costF l m).2]) ∧ Below w.heap.size w w' := by
  obtain ⟨A, ca, rfl, hc1, hc2⟩ := hv.shape
  obtain ⟨A2, ca2, rfl, hd1, hd2⟩ := hu.shape
  have CL := Lib.hid (may_any w _ l hv hl)
  have CM := Lib.hid (may_any w _ m hu hm)
  by_cases hok : l.length = m.length ∧ mayW l = true ∧ mayW m = true
  · obtain ⟨he, h1, h2⟩ := hok
    have hr : costF l m = (dotI l m, 0) := if_pos ⟨he, h1, h2⟩
    rw [hr]
    have HD := Lib.hid (dotI_bound l m h1 h2 he)
    have HL := Lib.hid ((mayW_iff l).1 h1)
    have HM := Lib.hid ((mayW_iff m).1 h2)
    rw [h1] at CL
    rw [h2] at CM
    obtain ⟨N, hN⟩ : ∃ N, m.length = N := ⟨_, rfl⟩
    rw [hN] at he CM hu hd1 hm ⊢
    rw [he] at CL hv hc1 HD ⊢
    have HV := Lib.hid hv
    have HU := Lib.hid hu
    have HN := Lib.hid hN
    have HE := Lib.hid he
    clear hv hu hN he h1 h2 hr
    go_enter Try.func16, Try.ntmps16
    go_wp2_with fail
    refine CL.out.mono ?_
    rintro e w_ ⟨rfl, rfl⟩
    go_wp2_with fail
    refine CM.out.mono ?_
    rintro e w_ ⟨rfl, rfl⟩
    clear CL CM
    go_wp2_with fail
    go_loopw [8, 9] (fun nv iv wr => ∃ k : Nat, k ≤ N ∧ iv = .int .i64 k ∧ nv = .int .i64 (dotI (l.take k) (m.take k)) ∧ Hid (Below w.heap.size w wr)) (fun _ iv _ => N + 1 - (intOf iv).toNat)
    case atStart => exact ⟨0, Nat.zero_le _, rfl, rfl, Below.refl _ _⟩
    case round =>
      obtain ⟨k, hk, rfl, rfl, HB⟩ := hrel
      by_cases hlt : k < N
      · obtain ⟨g, o, rfl, hgb, hc⟩ := (HV.out.below HB.out (Nat.le_refl _)).at k (by rw [HE.out]; exact hlt)
        obtain ⟨g2, o2, rfl, hgb2, hc2⟩ := (HU.out.below HB.out (Nat.le_refl _)).at k (by rw [HN.out]; exact hlt)
        obtain ⟨x, hx⟩ : ∃ x, l[k]? = some x := ⟨_, List.getElem?_eq_getElem (by rw [HE.out]; exact hlt)⟩
        obtain ⟨y, hy⟩ : ∃ y, m[k]? = some y := ⟨_, List.getElem?_eq_getElem (by rw [HN.out]; exact hlt)⟩
        have hs := Lib.hid (dotI_take l m k x y hx hy)
        have hb := HD.out k (by omega)
        have hp := mul_bound x y (HL.out x (List.mem_of_getElem? hx)) (HM.out y (List.mem_of_getElem? hy))
        rw [hx, Option.getD_some] at hc
        rw [hy, Option.getD_some] at hc2
        clear hx hy
        obtain ⟨p, hpe⟩ : ∃ p, x * y = p := ⟨_, rfl⟩
        rw [hpe] at hs hp
        generalize dotI (l.take k) (m.take k) = d at *
        have hw1 : IntKind.i64.wrap p = p := IntWalk.i64_in _ (by omega)
        have hw2 : IntKind.i64.wrap (d + p) = d + p := IntWalk.i64_in _ (by omega)
        go_wp2_with fail
        go_quiet (fail)
        go_wp2_with fail
        go_roundw
        case rel => exact ⟨k + 1, by omega, by go_num, by rw [hs.out], below_drewN HB.out _⟩
        case measure => simp [intOf]; omega
      · obtain rfl : k = N := by omega
        have hd : Hid (dotI (l.take k) (m.take k) = dotI l m) := by
          show _ = _
          rw [List.take_of_length_le (by rw [HE.out]; exact Nat.le_refl _), List.take_of_length_le (by rw [HN.out]; exact Nat.le_refl _)]
        go_wp2_with fail
        go_ret2
        exact ⟨by rw [hd.out]; rfl, HB.out⟩
  · have hr : costF l m = (0, 1) := if_neg hok
    rw [hr]
    have hne : mayW l = true → mayW m = true → ((((l.length : Nat) : Int) != ((m.length : Nat) : Int)) = true) := fun h1 h2 => by
      rw [bne_iff_ne]
      intro e
      exact hok ⟨by omega, h1, h2⟩
    generalize l.length = N at *
    generalize m.length = M at *
    generalize mayW l = b1 at *
    generalize mayW m = b2 at *
    clear hv hu hok hr
    cases b1 with
    | false =>
      clear hne
      go_enter Try.func16, Try.ntmps16
      go_wp2_with fail
      refine CL.out.mono ?_
      rintro e w_ ⟨rfl, rfl⟩
      go_wp2_with fail
      refine CM.out.mono ?_
      rintro e w_ ⟨rfl, rfl⟩
      go_wp2_with fail
      go_ret2
      exact ⟨rfl, Below.refl _ _⟩
    | true =>
      cases b2 with
      | false =>
        clear hne
        go_enter Try.func16, Try.ntmps16
        go_wp2_with fail
        refine CL.out.mono ?_
        rintro e w_ ⟨rfl, rfl⟩
        go_wp2_with fail
        refine CM.out.mono ?_
        rintro e w_ ⟨rfl, rfl⟩
        go_wp2_with fail
        go_ret2
        exact ⟨rfl, Below.refl _ _⟩
      | true =>
        have hne := hne rfl rfl
        go_enter Try.func16, Try.ntmps16
        go_wp2_with fail
        refine CL.out.mono ?_
        rintro e w_ ⟨rfl, rfl⟩
        go_wp2_with fail
        refine CM.out.mono ?_
        rintro e w_ ⟨rfl, rfl⟩
        go_wp2_with fail
        go_ret2
        exact ⟨rfl, Below.refl _ _⟩
end Go.Proofs.Ytegjkhhgihcdcaa
