/- delta.Put: the walk. -/
import Derived.Test.YtdngbmoippadhaaDeltaPlain
import Derived.Test.YtdngbmoippadhaaFuncs
namespace Go.Proofs.Ytdngbmoippadhaa
open Go.RowKit
set_option linter.unusedVariables false

theorem may_any (n : Int) (W : World) : Calls Try.prog 23 #[.int .i64 n] W fun e w' => e = .returned (.bool (mayF n)) ∧ W = w' := by
  unfold mayF
  rcases h1 : decide (1 ≤ n) with _ | _ <;> rcases h2 : decide (n ≤ 20) with _ | _ <;>
  · go_enter Try.func23, Try.ntmps23
    go_wp2
    go_ret
    exact ⟨rfl, rfl⟩
theorem many_any (n : Int) (W : World) : Calls Try.prog 20 #[.int .i64 n] W fun e w' => e = .returned (.bool (manyF n)) ∧ W = w' := by
  unfold manyF
  rcases h1 : decide (2 ≤ n) with _ | _ <;> rcases h2 : decide (n ≤ 258) with _ | _ <;>
  · go_enter Try.func20, Try.ntmps20
    go_wp2
    go_ret
    exact ⟨rfl, rfl⟩
theorem dput1_any (n : Int) (W : World) : Calls Try.prog 22 #[.int .i64 n] W fun e w' => e = .returned (.bool (!mayF n)) ∧ W = w' := by
  have C := Lib.hid (may_any n)
  generalize mayF n = b at *
  go_enter Try.func22, Try.ntmps22
  go_wp2_with fail
  refine (C.out _).mono ?_
  rintro e w1 ⟨rfl, rfl⟩
  go_wp2_with fail
  go_ret
  exact ⟨rfl, rfl⟩
theorem enters_dput : Enters Try.prog 22 := enters_of Try.func22 (by kernel_rfl) rfl

def notMay (n : Int) : Bool := !mayF n
/-- what is no row of lengths is refused -/
theorem delta_put_no (w : World) (v : Value) (xs : List Int) (hv : IsInts w w.heap.size v xs) (hlen : xs.length ≤ 281474976710656) (h : (manyF xs.length && !xs.any notMay) = false) :
    Calls Try.prog 11 #[v] w fun e w' => e = .returned (.tuple #[.agg #[.string ⟨#[]⟩, .int .i64 0], .int .i64 1]) ∧ Below w.heap.size w w' := by
  obtain ⟨A, ca, rfl, hc1, hc2⟩ := hv.shape
  have CM := Lib.hid (many_any (xs.length : Nat))
  have E0 := Lib.hid ((Env.nil w).box #[.string ⟨#[]⟩, .int .i64 0] 27 _ rfl)
  have CF : Hid (∀ W, Env w W [] [(w.heap.size, #[.string ⟨#[]⟩, .int .i64 0], 27)] → Calls Try.prog 21 #[.slice A xs.length ca, .func (.func 22) #[] #[]] W fun e w' => e = .returned (.bool (xs.any notMay)) ∧ Below W.heap.size W w') := fun W hE => containsFunc_any W _ xs notMay 22 #[] enters_dput (hE.old hv) hlen (fun x _ W' _ => dput1_any x W')
  rw [Bool.and_eq_false_iff] at h
  generalize manyF (xs.length : Nat) = b1 at *
  generalize xs.any notMay = b2 at *
  clear hv
  go_enter Try.func11, Try.ntmps11
  go_wp2_with fail
  refine (CM.out _).mono ?_
  rintro e w1 ⟨rfl, rfl⟩
  cases b1 with
  | false =>
    go_wp2_with fail
    refine bodyPost_ret (v := .tuple #[.agg #[.string ⟨#[]⟩, .int .i64 0], .int .i64 1]) ?_ rfl ⟨rfl, E0.out.bel⟩
    simp [results, Try.results11, go_sem]
  | true =>
    obtain rfl : b2 = true := by simpa using h
    go_wp2_with fail
    refine (CF.out _ E0.out).mono ?_
    rintro e w1 ⟨rfl, hB⟩
    have E1 := Lib.hid (E0.out.step hB)
    have k00 : w1.cell? ⟨w.heap.size, 0, none⟩ = some (.string ⟨#[]⟩) := E1.out.cellv 0 rfl 0 _ rfl
    have k01 : w1.cell? ⟨w.heap.size, 1, none⟩ = some (.int .i64 0) := E1.out.cellv 0 rfl 1 _ rfl
    have f00 : w1.frozen? ⟨w.heap.size, 0, none⟩ = false := E1.out.frozen 0 rfl 0
    have f01 : w1.frozen? ⟨w.heap.size, 1, none⟩ = false := E1.out.frozen 0 rfl 1
    have x0 : w.heap.size < w1.heap.size := E1.out.lt 0 rfl
    go_wp2_with fail
    refine bodyPost_ret (v := .tuple #[.agg #[.string ⟨#[]⟩, .int .i64 0], .int .i64 1]) ?_ rfl ⟨rfl, (E1.out.set2 (Nat.le_refl _) (by simp) _ _).bel⟩
    simp [results, Try.results11, go_sem, k00, k01]

theorem ints_at (ns : List Nat) (j n : Nat) (h : ns[j]? = some n) : (ints ns)[j]?.getD 0 = (n : Int) := by simp [ints, h]
set_option maxRecDepth 100000 in
set_option maxHeartbeats 3200000 in
theorem delta_put_ok (w : World) (v : Value) (ns : List Nat) (hv : IsInts w w.heap.size v (ints ns)) (hl2 : 2 ≤ ns.length) (hl3 : ns.length ≤ 258) (hn : ∀ n ∈ ns, 1 ≤ n ∧ n ≤ 20) :
    Calls Try.prog 11 #[v] w fun e w' => e = .returned (.tuple #[.agg #[.string (txt (deltaL ns)), .int .i64 ((deltaL ns).length : Nat)], .int .i64 0]) ∧ Below w.heap.size w w' := by
  obtain ⟨A, ca, rfl, hc1, hc2⟩ := hv.shape
  obtain ⟨g, o, rfl, hg, hx0⟩ := hv.at 0 (by rw [length_ints]; omega)
  have CF : Hid (∀ W, Env w W [] [(w.heap.size, #[.string ⟨#[]⟩, .int .i64 0], 27)] → Calls Try.prog 21 #[.slice (some ⟨g, o, none⟩) ns.length ca, .func (.func 22) #[] #[]] W fun e w' => e = .returned (.bool false) ∧ Below W.heap.size W w') := fun W hE => by
    have h := containsFunc_any W _ (ints ns) notMay 22 #[] enters_dput (hE.old hv) (by rw [length_ints]; omega) (fun x _ W' _ => dput1_any x W')
    rw [length_ints] at h
    have hf : (ints ns).any notMay = false := by
      rw [List.any_eq_false]
      intro x hx
      simp only [ints, List.mem_map] at hx
      obtain ⟨a, ha, rfl⟩ := hx
      have := hn a ha
      simp [notMay, mayF]
      omega
    rw [hf] at h
    exact h
  obtain ⟨a0, ha0⟩ : ∃ a, ns[0]? = some a := ⟨_, List.getElem?_eq_getElem (by omega)⟩
  have hb0 : 1 ≤ a0 ∧ a0 ≤ 20 := hn a0 (List.mem_of_getElem? ha0)
  rw [ints_at ns 0 a0 ha0] at hx0
  have hT : deltaL ns = B.low a0 5 ++ rowsB a0 (ns.drop 0) := by
    cases ns with
    | nil => simp at ha0
    | cons a l =>
      have : a = a0 := by simpa using ha0
      subst this
      simp [deltaL]
  have hTl : (deltaL ns).length ≤ 20000 := by
    have := length_deltaL ns (fun n h => (hn n h).2)
    omega
  obtain ⟨T, hTe⟩ : ∃ T, deltaL ns = T := ⟨_, rfl⟩
  rw [hTe] at hT hTl ⊢
  obtain ⟨N, hN⟩ : ∃ N, ns.length = N := ⟨_, rfl⟩
  rw [length_ints] at hv hc1 ⊢
  have Hv := Lib.hid hv
  rw [hN] at CF hc1 hl2 hl3 Hv ⊢
  have CM : Hid (∀ W, Calls Try.prog 20 #[.int .i64 (N : Nat)] W fun e w' => e = .returned (.bool true) ∧ W = w') := fun W => by
    have := many_any (N : Nat) W
    rw [show manyF (N : Nat) = true by simp [manyF]; omega] at this
    exact this
  obtain ⟨l0, hl0⟩ : ∃ l, B.low a0 5 = l := ⟨_, rfl⟩
  have CP0 : Hid (∀ W, Calls Try.prog 24 #[.agg #[.string ⟨#[]⟩, .int .i64 0], .int .u64 a0, .int .i64 5] W fun e w' => e = .returned (.tuple #[.agg #[.string (txt l0), .int .i64 (l0.length : Nat)], .int .i64 0]) ∧ Below W.heap.size W w') := fun W => put_nil W a0 5 l0 hl0 (by omega) (by omega)
  have CPu : Hid (∀ W (l r : List Bool), l ++ [true, false] = r → l.length ≤ 20000 → Calls Try.prog 24 #[.agg #[.string (txt l), .int .i64 (l.length : Nat)], .int .u64 2, .int .i64 2] W fun e w' => e = .returned (.tuple #[.agg #[.string (txt r), .int .i64 (r.length : Nat)], .int .i64 0]) ∧ Below W.heap.size W w') := fun W l r hr h => put_is W l 2 2 r hr (by omega) (by omega) (by omega)
  have CPd : Hid (∀ W (l r : List Bool), l ++ [true, true] = r → l.length ≤ 20000 → Calls Try.prog 24 #[.agg #[.string (txt l), .int .i64 (l.length : Nat)], .int .u64 3, .int .i64 2] W fun e w' => e = .returned (.tuple #[.agg #[.string (txt r), .int .i64 (r.length : Nat)], .int .i64 0]) ∧ Below W.heap.size W w') := fun W l r hr h => put_is W l 3 2 r hr (by omega) (by omega) (by omega)
  have CPe : Hid (∀ W (l r : List Bool), l ++ [false] = r → l.length ≤ 20000 → Calls Try.prog 24 #[.agg #[.string (txt l), .int .i64 (l.length : Nat)], .int .u64 0, .int .i64 1] W fun e w' => e = .returned (.tuple #[.agg #[.string (txt r), .int .i64 (r.length : Nat)], .int .i64 0]) ∧ Below W.heap.size W w') := fun W l r hr h => put_is W l 0 1 r hr (by omega) (by omega) (by omega)
  have hwr : IntKind.u64.wrap (a0 : Int) = (a0 : Int) := IntWalk.u64_in _ (by omega)
  have HN := Lib.hid hN
  have Hn := Lib.hid hn
  have HT := Lib.hid hT
  have E0 := Lib.hid ((Env.nil w).box #[.string ⟨#[]⟩, .int .i64 0] 27 _ rfl)
  rw [hl0] at HT
  clear hv hN hn hT hTe ha0 hl0
  go_enter Try.func11, Try.ntmps11
  go_wp2_with fail
  refine (CM.out _).mono ?_
  rintro e w1 ⟨rfl, rfl⟩
  go_wp2_with fail
  refine (CF.out _ E0.out).mono ?_
  rintro e w1 ⟨rfl, hB⟩
  have E1 := Lib.hid (E0.out.step hB)
  have k00 : w1.cell? ⟨w.heap.size, 0, none⟩ = some (.string ⟨#[]⟩) := E1.out.cellv 0 rfl 0 _ rfl
  have k01 : w1.cell? ⟨w.heap.size, 1, none⟩ = some (.int .i64 0) := E1.out.cellv 0 rfl 1 _ rfl
  have kx : w1.cell? ⟨g, o, none⟩ = some (.int .i64 a0) := (E1.out.bel.cell (p := ⟨g, o, none⟩) hg).trans hx0
  have x0 : w.heap.size < w1.heap.size := E1.out.lt 0 rfl
  clear hB E0 CF CM
  go_wp2_with fail
  refine (CP0.out _).mono ?_
  rintro e w2 ⟨rfl, hB⟩
  have E2 := Lib.hid (E1.out.step hB)
  have k00 : w2.cell? ⟨w.heap.size, 0, none⟩ = some (.string ⟨#[]⟩) := E2.out.cellv 0 rfl 0 _ rfl
  have k01 : w2.cell? ⟨w.heap.size, 1, none⟩ = some (.int .i64 0) := E2.out.cellv 0 rfl 1 _ rfl
  have f00 : w2.frozen? ⟨w.heap.size, 0, none⟩ = false := E2.out.frozen 0 rfl 0
  have f01 : w2.frozen? ⟨w.heap.size, 1, none⟩ = false := E2.out.frozen 0 rfl 1
  have x0 : w.heap.size < w2.heap.size := E2.out.lt 0 rfl
  have E3 := Lib.hid (E2.out.set2 (Nat.le_refl _) (by simp) (.string (txt l0)) (.int .i64 (l0.length : Nat)))
  clear hB E1 CP0
  go_wp2_with fail
  go_loopw [4, 28] (fun nv iv wr => ∃ (j a : Nat) (l : List Bool), j ≤ N ∧ a ≤ 20 ∧ nv = .int .i64 a ∧ iv = .int .i64 j ∧ l ++ rowsB a (ns.drop j) = T ∧ Env w wr [] [(w.heap.size, #[.string (txt l), .int .i64 (l.length : Nat)], 27)]) (fun _ iv _ => N + 1 - (intOf iv).toNat)
  case atStart => exact ⟨0, a0, l0, by omega, by omega, rfl, rfl, HT.out.symm, E3.out⟩
  case round =>
    obtain ⟨j, a, l, hj, ha, rfl, rfl, hl, hE⟩ := hrel
    have E4 := Lib.hid hE
    have k00 : wr.cell? ⟨w.heap.size, 0, none⟩ = some (.string (txt l)) := E4.out.cellv 0 rfl 0 _ rfl
    have k01 : wr.cell? ⟨w.heap.size, 1, none⟩ = some (.int .i64 (l.length : Nat)) := E4.out.cellv 0 rfl 1 _ rfl
    have x0 : w.heap.size < wr.heap.size := E4.out.lt 0 rfl
    clear hE E3 f00 f01
    by_cases hlt : j < N
    · obtain ⟨n, hnj⟩ : ∃ n, ns[j]? = some n := ⟨_, List.getElem?_eq_getElem (by rw [HN.out]; exact hlt)⟩
      obtain ⟨g', o', he, hg', hx⟩ := Hv.out.at j (by rw [length_ints, HN.out]; exact hlt)
      obtain ⟨rfl, rfl⟩ : g = g' ∧ o = o' := by
        injection he with he
        injection he with h1 h2
        exact ⟨h1, h2⟩
      rw [ints_at ns j n hnj] at hx
      have hx' : wr.cell? ⟨g, o + j, none⟩ = some (.int .i64 (n : Int)) := (E4.out.bel.cell (p := ⟨g, o + j, none⟩) hg).trans hx
      have hb := Hn.out n (List.mem_of_getElem? hnj)
      have hd : ns.drop j = n :: ns.drop (j + 1) := by
        obtain ⟨hlt', e⟩ := List.getElem?_eq_some_iff.1 hnj
        rw [List.drop_eq_getElem_cons hlt', e]
      rw [hd, rowsB] at hl
      obtain ⟨R, hR⟩ : ∃ R, rowsB n (ns.drop (j + 1)) = R := ⟨_, rfl⟩
      rw [hR] at hl
      have HR := Lib.hid hR
      have Hl := Lib.hid hl
      clear hx hd hR hl he hg' hnj
      go_wp2_with fail
      go_loopw [4] (fun nv wx => ∃ (a : Nat) (l : List Bool), a ≤ 20 ∧ nv = .int .i64 a ∧ l ++ (stepB a n ++ R) = T ∧ Env w wx [] [(w.heap.size, #[.string (txt l), .int .i64 (l.length : Nat)], 27)]) (fun nv _ => 21 - (intOf nv).toNat)
      case atStart => exact ⟨a, l, by omega, rfl, Hl.out, E4.out⟩
      case round =>
        clear k00 k01 x0 Hl E4 ha
        obtain ⟨a, l, ha, rfl, hl, hE⟩ := hrel
        have hlen : l.length ≤ 20000 := by
          have := congrArg List.length hl
          rw [List.length_append] at this
          omega
        have E4 := Lib.hid hE
        have k00 : wr.cell? ⟨w.heap.size, 0, none⟩ = some (.string (txt l)) := E4.out.cellv 0 rfl 0 _ rfl
        have k01 : wr.cell? ⟨w.heap.size, 1, none⟩ = some (.int .i64 (l.length : Nat)) := E4.out.cellv 0 rfl 1 _ rfl
        have x0 : w.heap.size < wr.heap.size := E4.out.lt 0 rfl
        clear hE
        by_cases hc : a < n
        · obtain ⟨r, hr⟩ : ∃ r, l ++ [true, false] = r := ⟨_, rfl⟩
          have HL := Lib.hid (show r ++ (stepB (a + 1) n ++ R) = T by rw [← hr, ← hl, stepB_up hc]; simp)
          have Hr := Lib.hid hr
          clear hl hr
          go_wp2_with fail
          refine (CPu.out _ l r Hr.out (by omega)).mono ?_
          rintro e w5 ⟨rfl, hB⟩
          have F1 := Lib.hid (E4.out.step hB)
          have k00 : w5.cell? ⟨w.heap.size, 0, none⟩ = some (.string (txt l)) := F1.out.cellv 0 rfl 0 _ rfl
          have k01 : w5.cell? ⟨w.heap.size, 1, none⟩ = some (.int .i64 (l.length : Nat)) := F1.out.cellv 0 rfl 1 _ rfl
          have x0 : w.heap.size < w5.heap.size := F1.out.lt 0 rfl
          have f00 : w5.frozen? ⟨w.heap.size, 0, none⟩ = false := F1.out.frozen 0 rfl 0
          have f01 : w5.frozen? ⟨w.heap.size, 1, none⟩ = false := F1.out.frozen 0 rfl 1
          have F2 := Lib.hid (F1.out.set2 (Nat.le_refl _) (by simp) (.string (txt r)) (.int .i64 (r.length : Nat)))
          clear hB F1 E4
          go_wp2_with fail
          go_roundw
          case rel => exact ⟨a + 1, r, by omega, by go_num, HL.out, F2.out⟩
          case measure => simp [intOf]; omega
        · have HL := Lib.hid hl
          have hna : n ≤ a := by omega
          have hd : decide (a < n) = false := by simp; omega
          clear hl hc
          go_wp2_with fail
          go_loopw [4] (fun nv wx => ∃ (a : Nat) (l : List Bool), a ≤ 20 ∧ n ≤ a ∧ nv = .int .i64 a ∧ l ++ (stepB a n ++ R) = T ∧ Env w wx [] [(w.heap.size, #[.string (txt l), .int .i64 (l.length : Nat)], 27)]) (fun nv _ => (intOf nv).toNat)
          case atStart => exact ⟨a, l, by omega, hna, rfl, HL.out, E4.out⟩
          case round =>
            clear k00 k01 x0 HL E4 ha hna hlen
            obtain ⟨a, l, ha, hna, rfl, hl, hE⟩ := hrel
            have hlen : l.length ≤ 20000 := by
              have := congrArg List.length hl
              rw [List.length_append] at this
              omega
            have E4 := Lib.hid hE
            have k00 : wr.cell? ⟨w.heap.size, 0, none⟩ = some (.string (txt l)) := E4.out.cellv 0 rfl 0 _ rfl
            have k01 : wr.cell? ⟨w.heap.size, 1, none⟩ = some (.int .i64 (l.length : Nat)) := E4.out.cellv 0 rfl 1 _ rfl
            have x0 : w.heap.size < wr.heap.size := E4.out.lt 0 rfl
            clear hE
            by_cases hc : n < a
            · obtain ⟨r, hr⟩ : ∃ r, l ++ [true, true] = r := ⟨_, rfl⟩
              have HL := Lib.hid (show r ++ (stepB (a - 1) n ++ R) = T by rw [← hr, ← hl, stepB_down hc]; simp)
              have Hr := Lib.hid hr
              clear hl hr
              go_wp2_with fail
              refine (CPd.out _ l r Hr.out (by omega)).mono ?_
              rintro e w5 ⟨rfl, hB⟩
              have F1 := Lib.hid (E4.out.step hB)
              have k00 : w5.cell? ⟨w.heap.size, 0, none⟩ = some (.string (txt l)) := F1.out.cellv 0 rfl 0 _ rfl
              have k01 : w5.cell? ⟨w.heap.size, 1, none⟩ = some (.int .i64 (l.length : Nat)) := F1.out.cellv 0 rfl 1 _ rfl
              have x0 : w.heap.size < w5.heap.size := F1.out.lt 0 rfl
              have f00 : w5.frozen? ⟨w.heap.size, 0, none⟩ = false := F1.out.frozen 0 rfl 0
              have f01 : w5.frozen? ⟨w.heap.size, 1, none⟩ = false := F1.out.frozen 0 rfl 1
              have F2 := Lib.hid (F1.out.set2 (Nat.le_refl _) (by simp) (.string (txt r)) (.int .i64 (r.length : Nat)))
              clear hB F1 E4
              go_wp2_with fail
              go_roundw
              case rel => exact ⟨a - 1, r, by omega, by omega, by go_num, HL.out, F2.out⟩
              case measure => simp [intOf]; omega
            · obtain rfl : a = n := by omega
              obtain ⟨r, hr⟩ : ∃ r, l ++ [false] = r := ⟨_, rfl⟩
              have HL := Lib.hid (show r ++ R = T by rw [← hr, ← hl, stepB_same]; simp)
              have Hr := Lib.hid hr
              clear hl hr
              go_wp2_with fail
              refine (CPe.out _ l r Hr.out (by omega)).mono ?_
              rintro e w5 ⟨rfl, hB⟩
              have F1 := Lib.hid (E4.out.step hB)
              have k00 : w5.cell? ⟨w.heap.size, 0, none⟩ = some (.string (txt l)) := F1.out.cellv 0 rfl 0 _ rfl
              have k01 : w5.cell? ⟨w.heap.size, 1, none⟩ = some (.int .i64 (l.length : Nat)) := F1.out.cellv 0 rfl 1 _ rfl
              have x0 : w.heap.size < w5.heap.size := F1.out.lt 0 rfl
              have f00 : w5.frozen? ⟨w.heap.size, 0, none⟩ = false := F1.out.frozen 0 rfl 0
              have f01 : w5.frozen? ⟨w.heap.size, 1, none⟩ = false := F1.out.frozen 0 rfl 1
              have F2 := Lib.hid (F1.out.set2 (Nat.le_refl _) (by simp) (.string (txt r)) (.int .i64 (r.length : Nat)))
              clear hB F1 E4
              go_wp2_with fail
              go_roundw
              case rel => exact ⟨j + 1, a, r, by omega, by omega, rfl, by go_num, by rw [HR.out]; exact HL.out, F2.out⟩
              case measure => simp [intOf]; omega
    · obtain rfl : j = N := by omega
      have hlT : l = T := by
        rw [List.drop_of_length_le (by rw [HN.out]; exact Nat.le_refl _)] at hl
        simpa [rowsB] using hl
      subst hlT
      have f00 : wr.frozen? ⟨w.heap.size, 0, none⟩ = false := E4.out.frozen 0 rfl 0
      have f01 : wr.frozen? ⟨w.heap.size, 1, none⟩ = false := E4.out.frozen 0 rfl 1
      clear hl
      go_wp2_with fail
      refine bodyPost_ret (v := .tuple #[.agg #[.string (txt l), .int .i64 (l.length : Nat)], .int .i64 0]) ?_ rfl ⟨rfl, (E4.out.set2 (Nat.le_refl _) (by simp) _ _).bel⟩
      simp [results, Try.results11, go_sem, k00, k01]
end Go.Proofs.Ytdngbmoippadhaa
