/- choose.odd and choose.Bits: the walks. -/
import Derived.Test.YtodniacnjdnffaaFuncs
import Derived.Test.YtodniacnjdnffaaEnvK
import Derived.Test.YtodniacnjdnffaaChkK
namespace Go.Proofs.Ytodniacnjdnffaa
open Go.RowKit
set_option linter.unusedVariables false

/-- is a symbol none of so many -/
def oddF (n : Int) (s : Int) : Bool := decide (s < 0) || decide (n ≤ s)
theorem odd1_any (s n : Int) (b : Nat) (W : World) (hc : W.cell? ⟨b, 0, none⟩ = some (.int .i64 n)) : Calls Try.prog 34 #[.int .i64 s, .pointer (some ⟨b, 0, none⟩)] W fun e w' => e = .returned (.bool (oddF n s)) ∧ W = w' := by
  unfold oddF
  rcases h1 : decide (s < 0) with _ | _ <;> rcases h2 : decide (n ≤ s) with _ | _ <;>
  · go_enter Try.func34, Try.ntmps34
    go_wp2
    go_ret
    exact ⟨rfl, rfl⟩
theorem enters_odd1 : Enters Try.prog 34 := enters_of Try.func34 (by kernel_rfl) rfl
theorem odd_any (w : World) (v : Value) (l : List Int) (n : Int) (hv : IsInts w w.heap.size v l) (hl : l.length ≤ 1000000) :
    Calls Try.prog 21 #[v, .int .i64 n] w fun e w' => e = .returned (.bool (l.any (oddF n))) ∧ Below w.heap.size w w' := by
  obtain ⟨W1, hW1⟩ : ∃ W1, w.alloc (.cells #[.int .i64 n] 3) = W1 := ⟨_, rfl⟩
  have hB1 : Below w.heap.size w W1 := by rw [← hW1]; exact (Below.refl _ _).alloc (Nat.le_refl _) _
  have hk : W1.cell? ⟨w.heap.size, 0, none⟩ = some (.int .i64 n) := by rw [← hW1]; exact cell_of_heap (heap_new _ _ _ rfl) 0
  have hz1 : W1.heap.size = w.heap.size + 1 := by rw [← hW1]; simp
  have C := Lib.hid (containsFunc_any W1 v l (oddF n) 34 #[.pointer (some ⟨w.heap.size, 0, none⟩)] enters_odd1 (ints_up hv hB1) (by omega) (fun x _ W' hB => odd1_any x n w.heap.size W' ((hB.cell (p := ⟨w.heap.size, 0, none⟩) (by simp; omega)).trans hk)))
  obtain ⟨A, ca, rfl, hc1, hc2⟩ := hv.shape
  generalize l.any (oddF n) = b at *
  have hmf := hmf
  clear hv hl hk
  go_enter Try.func21, Try.ntmps21
  go_wp2_with fail
  refine C.out.mono ?_
  rintro e w1 ⟨rfl, hB⟩
  go_wp2_with fail
  go_ret
  exact ⟨rfl, hB1.trans (hB.mono (by omega))⟩
/-- how many bits symbols have -/
def bitsN (l : List Nat) (m : List Nat) : Nat := (m.map fun s => l[s]?.getD 0).sum
theorem bitsN_take (l m : List Nat) (k s : Nat) (h : m[k]? = some s) : bitsN l (m.take (k + 1)) = bitsN l (m.take k) + l[s]?.getD 0 := by
  unfold bitsN
  rw [List.take_add_one, h]
  simp
theorem bitsN_le (l m : List Nat) (hf : Fits l) : bitsN l m ≤ 20 * m.length := by
  unfold bitsN
  induction m with
  | nil => simp
  | cons s m ih =>
    rw [List.map_cons, List.sum_cons, List.length_cons]
    have : l[s]?.getD 0 ≤ 20 := by
      cases h : l[s]? with
      | none => simp
      | some x => exact (hf x (List.mem_of_getElem? h)).2
    omega
set_option maxRecDepth 100000 in
set_option maxHeartbeats 1600000 in
/-- what Bits tells of lengths that may be, and symbols that are theirs -/
theorem cbits_ok (w : World) (v u : Value) (l m : List Nat) (hv : IsInts w w.heap.size v (ints l)) (hu : IsInts w w.heap.size u (ints m)) (hl : Code l) (hm : m.length ≤ 1000000) (hs : ∀ s ∈ m, s < l.length) :
    Calls Try.prog 15 #[v, u] w fun e w' => e = .returned (.tuple #[.int .i64 (bitsN l m : Nat), .int .i64 0]) ∧ Below w.heap.size w w' := by
  have CK := Lib.hid (check_any w v (ints l) hv (by rw [length_ints]; have := hl.most; omega))
  rw [hl.ok] at CK
  have hodd : (ints m).any (oddF (l.length : Nat)) = false := by
    rw [List.any_eq_false]
    intro x hx
    simp only [ints, List.mem_map] at hx
    obtain ⟨s, hs', rfl⟩ := hx
    have := hs s hs'
    simp [oddF]
    omega
  have CO : Hid (∀ W, Below w.heap.size w W → Calls Try.prog 21 #[u, .int .i64 (l.length : Nat)] W fun e w' => e = .returned (.bool false) ∧ Below W.heap.size W w') := fun W hB => by
    have := odd_any W u (ints m) (l.length : Nat) (ints_up hu hB) (by rw [length_ints]; exact hm)
    rw [hodd] at this
    exact this
  have hfit := hl.fits
  have hmost := hl.most
  obtain ⟨A, ca, rfl, hc1, hc2⟩ := hv.shape
  obtain ⟨A2, ca2, rfl, hd1, hd2⟩ := hu.shape
  rw [length_ints] at hv hc1 CK hd1 hu CO ⊢
  rw [length_ints] at *
  obtain ⟨N, hN⟩ : ∃ N, l.length = N := ⟨_, rfl⟩
  obtain ⟨M, hM⟩ : ∃ M, m.length = M := ⟨_, rfl⟩
  rw [hN] at hv hc1 CK CO hs hmost ⊢
  rw [hM] at hd1 hu CO hm ⊢
  have HN := Lib.hid hN
  have HM := Lib.hid hM
  have HV := Lib.hid hv
  have HU := Lib.hid hu
  have HF := Lib.hid hfit
  have HS := Lib.hid hs
  clear hv hu hN hM hfit hs hodd hl
  go_enter Try.func15, Try.ntmps15
  go_wp2_with fail
  refine CK.out.mono ?_
  rintro e w1 ⟨rfl, hB1⟩
  go_wp2_with fail
  refine (CO.out _ hB1).mono ?_
  rintro e w2 ⟨rfl, hB2⟩
  have HB := Lib.hid (hB1.trans (hB2.mono hB1.size))
  clear hB1 hB2 CK CO
  go_wp2_with fail
  go_loopw [4, 20] (fun nv iv wr => w2 = wr ∧ ∃ k z : Nat, k ≤ M ∧ iv = .int .i64 k ∧ nv = .int .i64 z ∧ Hid (bitsN l (m.take k) = z)) (fun _ iv _ => M + 1 - (intOf iv).toNat)
  case atStart => exact ⟨rfl, 0, 0, Nat.zero_le _, rfl, rfl, rfl⟩
  case round =>
    obtain ⟨rfl, k, z, hk, rfl, rfl, HZ⟩ := hrel
    by_cases hlt : k < M
    · obtain ⟨s, hs⟩ : ∃ s, m[k]? = some s := ⟨_, List.getElem?_eq_getElem (by rw [HM.out]; exact hlt)⟩
      have hsN := HS.out s (List.mem_of_getElem? hs)
      obtain ⟨x, hx⟩ : ∃ x, l[s]? = some x := ⟨_, List.getElem?_eq_getElem (by rw [HN.out]; exact hsN)⟩
      have hx20 := (HF.out x (List.mem_of_getElem? hx)).2
      obtain ⟨g, o, rfl, hg, hc⟩ := (HV.out.below HB.out (Nat.le_refl _)).at s (by rw [length_ints, HN.out]; exact hsN)
      obtain ⟨g2, o2, rfl, hg2, hc2⟩ := (HU.out.below HB.out (Nat.le_refl _)).at k (by rw [length_ints, HM.out]; exact hlt)
      rw [show (ints l)[s]?.getD 0 = (x : Int) by simp [ints, hx]] at hc
      rw [show (ints m)[k]?.getD 0 = (s : Int) by simp [ints, hs]] at hc2
      have hz20 := bitsN_le l (m.take k) HF.out
      rw [HZ.out, List.length_take] at hz20
      have HT : Hid (bitsN l (m.take (k + 1)) = z + x) := by
        show _ = _
        rw [bitsN_take l m k s hs, HZ.out, hx]
        rfl
      clear hs hx
      go_wp2_with fail
      go_roundw
      case rel => exact ⟨trivial, k + 1, z + x, by omega, by go_num, by go_num, HT⟩
      case measure => simp [intOf]; omega
    · obtain rfl : k = M := by omega
      have hz : Hid (bitsN l m = z) := by
        have := HZ.out
        rw [List.take_of_length_le (by rw [HM.out]; exact Nat.le_refl _)] at this
        exact this
      go_wp2_with fail
      go_ret2
      exact ⟨by rw [hz.out]; rfl, HB.out⟩
end Go.Proofs.Ytodniacnjdnffaa
