/- weigh.within and weigh.Cost: the walks. -/
import Derived.Test.YtodniacnjdnffaaFuncs
import Derived.Test.YtodniacnjdnffaaEnvK
namespace Go.Proofs.Ytodniacnjdnffaa
open Go.RowKit
set_option linter.unusedVariables false

/-- what is no weight -/
def badW (n : Int) : Bool := decide (n < 0) || decide (1048576 < n)
def mayW (l : List Int) : Bool := !l.any badW
theorem mayW_iff (l : List Int) : mayW l = true ↔ ∀ x ∈ l, 0 ≤ x ∧ x ≤ 1048576 := by
  unfold mayW badW
  rw [Bool.not_eq_true', List.any_eq_false]
  constructor
  · intro h x hx
    have := h x hx
    simp at this
    omega
  · intro h x hx
    have := h x hx
    simp
    omega
theorem within1_any (n : Int) (W : World) : Calls Try.prog 35 #[.int .i64 n] W fun e w' => e = .returned (.bool (badW n)) ∧ W = w' := by
  unfold badW
  rcases h1 : decide (n < 0) with _ | _ <;> rcases h2 : decide (1048576 < n) with _ | _ <;>
  · go_enter Try.func35, Try.ntmps35
    go_wp2
    go_ret
    exact ⟨rfl, rfl⟩
theorem enters_within1 : Enters Try.prog 35 := enters_of Try.func35 (by kernel_rfl) rfl
theorem within_any (w : World) (v : Value) (xs : List Int) (hv : IsInts w w.heap.size v xs) (hl : xs.length ≤ 1000000) :
    Calls Try.prog 22 #[v] w fun e w' => e = .returned (.bool (mayW xs)) ∧ Below w.heap.size w w' := by
  have C := Lib.hid (containsFunc_any w v xs badW 35 #[] enters_within1 hv (by omega) (fun x _ W' _ => within1_any x W'))
  have e : mayW xs = !xs.any badW := rfl
  rw [e]
  generalize xs.any badW = b at *
  obtain ⟨A, ca, rfl, hc1, hc2⟩ := hv.shape
  clear hv e hl
  go_enter Try.func22, Try.ntmps22
  go_wp2_with fail
  refine C.out.mono ?_
  rintro e w1 ⟨rfl, hB⟩
  go_wp2_with fail
  go_ret
  exact ⟨rfl, hB⟩

/-- what lengths cost -/
def dotI (l w : List Int) : Int := (List.zipWith (fun a b => a * b) l w).sum
theorem dotI_nil : dotI [] [] = 0 := rfl
theorem dotI_take (l w : List Int) (k : Nat) (x y : Int) (hx : l[k]? = some x) (hy : w[k]? = some y) : dotI (l.take (k + 1)) (w.take (k + 1)) = dotI (l.take k) (w.take k) + x * y := by
  have h1 := (List.getElem?_eq_some_iff.1 hx).1
  have h2 := (List.getElem?_eq_some_iff.1 hy).1
  unfold dotI
  rw [List.take_add_one, List.take_add_one, hx, hy]
  simp only [Option.toList_some]
  rw [List.zipWith_append (by simp; omega)]
  simp
theorem mul_bound (x y : Int) (hx : 0 ≤ x ∧ x ≤ 1048576) (hy : 0 ≤ y ∧ y ≤ 1048576) : 0 ≤ x * y ∧ x * y ≤ 1099511627776 := by
  refine ⟨Int.mul_nonneg hx.1 hy.1, ?_⟩
  have h1 : x * y ≤ 1048576 * y := Int.mul_le_mul_of_nonneg_right hx.2 hy.1
  omega
theorem dotI_bound (l w : List Int) (hl : mayW l = true) (hw : mayW w = true) (he : l.length = w.length) (k : Nat) (hk : k ≤ l.length) : 0 ≤ dotI (l.take k) (w.take k) ∧ dotI (l.take k) (w.take k) ≤ 1099511627776 * (k : Int) := by
  induction k with
  | zero => simp [dotI]
  | succ k ih =>
    have hx : l[k]? = some l[k] := List.getElem?_eq_getElem (by omega)
    have hy : w[k]? = some w[k] := List.getElem?_eq_getElem (by omega)
    have := ih (by omega)
    have hb := mul_bound l[k] w[k] ((mayW_iff l).1 hl _ (List.getElem_mem _)) ((mayW_iff w).1 hw _ (List.getElem_mem _))
    rw [dotI_take l w k _ _ hx hy]
    omega
/-- what Cost tells -/
def costF (l w : List Int) : Int × Int := if l.length = w.length ∧ mayW l = true ∧ mayW w = true then (dotI l w, 0) else (0, 1)

set_option maxRecDepth 100000 in
set_option maxHeartbeats 1600000 in
theorem cost_any (w : World) (v u : Value) (l m : List Int) (hv : IsInts w w.heap.size v l) (hu : IsInts w w.heap.size u m) (hl : l.length ≤ 1000000) (hm : m.length ≤ 1000000) :
    Calls Try.prog 17 #[v, u] w fun e w' => e = .returned (.tuple #[.int .i64 (costF l m).1, .int .i64 (costF l m).2]) ∧ Below w.heap.size w w' := by
  obtain ⟨A, ca, rfl, hc1, hc2⟩ := hv.shape
  obtain ⟨A2, ca2, rfl, hd1, hd2⟩ := hu.shape
  have CL : Hid (∀ W, Below w.heap.size w W → Calls Try.prog 22 #[.slice A l.length ca] W fun e w' => e = .returned (.bool (mayW l)) ∧ Below W.heap.size W w') := fun W hB => within_any W _ l ((hv.below hB (Nat.le_refl _)).mono hB.size) hl
  have CM : Hid (∀ W, Below w.heap.size w W → Calls Try.prog 22 #[.slice A2 m.length ca2] W fun e w' => e = .returned (.bool (mayW m)) ∧ Below W.heap.size W w') := fun W hB => within_any W _ m ((hu.below hB (Nat.le_refl _)).mono hB.size) hm
  by_cases he : l.length = m.length
  · by_cases h1 : mayW l = true
    · by_cases h2 : mayW m = true
      · have hr : costF l m = (dotI l m, 0) := if_pos ⟨he, h1, h2⟩
        rw [hr]
        have HD := Lib.hid (dotI_bound l m h1 h2 he)
        have HL := Lib.hid ((mayW_iff l).1 h1)
        have HM := Lib.hid ((mayW_iff m).1 h2)
        rw [h1] at CL
        rw [h2] at CM
        obtain ⟨N, hN⟩ : ∃ N, m.length = N := ⟨_, rfl⟩
        rw [hN] at he CM hu hd1 hm ⊢
        rw [he] at CL hv hc1 HD ⊢
        have HV := Lib.hid hv
        have HU := Lib.hid hu
        have HN := Lib.hid hN
        have HE := Lib.hid he
        clear hv hu hN he h1 h2 hr
        go_enter Try.func17, Try.ntmps17
        go_wp2_with fail
        refine (CL.out _ (Below.refl _ _)).mono ?_
        rintro e w1 ⟨rfl, hB1⟩
        go_wp2_with fail
        refine (CM.out _ hB1).mono ?_
        rintro e w2 ⟨rfl, hB2⟩
        have HB := Lib.hid (hB1.trans (hB2.mono hB1.size))
        clear hB1 hB2 CL CM
        go_wp2_with fail
        go_loopw [4, 25] (fun nv iv wr => w2 = wr ∧ ∃ k : Nat, k ≤ N ∧ iv = .int .i64 k ∧ nv = .int .i64 (dotI (l.take k) (m.take k))) (fun _ iv _ => N + 1 - (intOf iv).toNat)
        case atStart => exact ⟨rfl, 0, Nat.zero_le _, rfl, rfl⟩
        case round =>
          obtain ⟨rfl, k, hk, rfl, rfl⟩ := hrel
          by_cases hlt : k < N
          · obtain ⟨g, o, rfl, hgb, hc⟩ := (HV.out.below HB.out (Nat.le_refl _)).at k (by rw [HE.out]; exact hlt)
            obtain ⟨g2, o2, rfl, hgb2, hc2⟩ := (HU.out.below HB.out (Nat.le_refl _)).at k (by rw [HN.out]; exact hlt)
            obtain ⟨x, hx⟩ : ∃ x, l[k]? = some x := ⟨_, List.getElem?_eq_getElem (by rw [HE.out]; exact hlt)⟩
            obtain ⟨y, hy⟩ : ∃ y, m[k]? = some y := ⟨_, List.getElem?_eq_getElem (by rw [HN.out]; exact hlt)⟩
            have hs := Lib.hid (dotI_take l m k x y hx hy)
            have hb := HD.out k (by omega)
            have hp := mul_bound x y (HL.out x (List.mem_of_getElem? hx)) (HM.out y (List.mem_of_getElem? hy))
            rw [hx, Option.getD_some] at hc
            rw [hy, Option.getD_some] at hc2
            clear hx hy
            obtain ⟨p, hpe⟩ : ∃ p, x * y = p := ⟨_, rfl⟩
            rw [hpe] at hs hp
            generalize dotI (l.take k) (m.take k) = d at *
            go_wp2_with fail
            go_roundw
            case rel => exact ⟨trivial, k + 1, by omega, by go_num, by rw [hs.out]⟩
            case measure => simp [intOf]; omega
          · obtain rfl : k = N := by omega
            have hd : Hid (dotI (l.take k) (m.take k) = dotI l m) := by
              show _ = _
              rw [List.take_of_length_le (by rw [HE.out]; exact Nat.le_refl _), List.take_of_length_le (by rw [HN.out]; exact Nat.le_refl _)]
            go_wp2_with fail
            go_ret2
            exact ⟨by rw [hd.out]; rfl, HB.out⟩
      · have hr : costF l m = (0, 1) := if_neg (fun h => h2 h.2.2)
        have h2 : mayW m = false := by simpa using h2
        rw [hr]
        rw [h1] at CL
        rw [h2] at CM
        rw [he] at CL ⊢
        obtain ⟨N, hN⟩ : ∃ N, m.length = N := ⟨_, rfl⟩
        rw [hN] at CL CM ⊢
        clear hv hu hN he h1 h2 hr hc1 hc2 hd1 hd2
        go_enter Try.func17, Try.ntmps17
        go_wp2_with fail
        refine (CL.out _ (Below.refl _ _)).mono ?_
        rintro e w1 ⟨rfl, hB1⟩
        go_wp2_with fail
        refine (CM.out _ hB1).mono ?_
        rintro e w2 ⟨rfl, hB2⟩
        have HB := Lib.hid (hB1.trans (hB2.mono hB1.size))
        go_wp2_with fail
        go_ret2
        exact ⟨rfl, HB.out⟩
    · have hr : costF l m = (0, 1) := if_neg (fun h => h1 h.2.1)
      have h1 : mayW l = false := by simpa using h1
      rw [hr]
      rw [h1] at CL
      rw [he] at CL ⊢
      obtain ⟨N, hN⟩ : ∃ N, m.length = N := ⟨_, rfl⟩
      rw [hN] at CL ⊢
      clear hv hu hN he h1 hr hc1 hc2 hd1 hd2 CM
      go_enter Try.func17, Try.ntmps17
      go_wp2_with fail
      refine (CL.out _ (Below.refl _ _)).mono ?_
      rintro e w1 ⟨rfl, hB1⟩
      go_wp2_with fail
      go_ret2
      exact ⟨rfl, hB1⟩
  · have hr : costF l m = (0, 1) := if_neg (fun h => he h.1)
    rw [hr]
    have hd : (((l.length : Nat) : Int) != ((m.length : Nat) : Int)) = true := by rw [bne_iff_ne]; omega
    generalize l.length = N at *
    generalize m.length = M at *
    clear hv hu he hr hc1 hc2 hd1 hd2 CL CM
    go_enter Try.func17, Try.ntmps17
    go_wp2_with fail
    go_ret2
    exact ⟨rfl, Below.refl _ _⟩
end Go.Proofs.Ytodniacnjdnffaa
