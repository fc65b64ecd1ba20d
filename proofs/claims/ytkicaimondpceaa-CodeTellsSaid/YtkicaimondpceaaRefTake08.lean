/- Take of the document's answer, layer 8. -/
import Derived.Test.YtkicaimondpceaaRefWords
import Derived.Test.YtkicaimondpceaaCodeTake
import Derived.Test.YtkicaimondpceaaCodeLaws
import Derived.Test.YtkicaimondpceaaRefGet
import Derived.Test.YtkicaimondpceaaEnv2
namespace Go.Proofs.Ytkicaimondpceaa
open Go.RowKit
set_option linter.unusedVariables false

theorem takeGo_err (l : List Nat) (u : List UInt8) (a : Int) (e : Int) : ∀ ns : List Nat, takeGo l u a ns = .error e → (∃ n ∈ ns, getE u a n ≠ 0 ∧ e = getE u a n) ∨ (e = 3 ∧ ∀ n ∈ ns, missN l u a n)
  | [], h => by
    rw [takeGo] at h
    injection h with h
    exact .inr ⟨h.symm, fun n hn => by simp at hn⟩
  | n :: ns, h => by
    rw [takeGo] at h
    by_cases h1 : getE u a n ≠ 0
    · rw [if_pos h1] at h
      injection h with h
      exact .inl ⟨n, by simp, h1, h.symm⟩
    · rw [if_neg h1] at h
      by_cases h2 : 2 * nextV l (n - 1) ≤ (getV u a n).toNat ∧ (getV u a n).toNat < 2 * nextV l (n - 1) + l.count n
      · rw [if_pos h2] at h
        cases h
      · rw [if_neg h2] at h
        rcases takeGo_err l u a e ns h with ⟨m, hm, h3, h4⟩ | ⟨h3, h4⟩
        · exact .inl ⟨m, by simp [hm], h3, h4⟩
        · refine .inr ⟨h3, fun m hm => ?_⟩
          rcases List.mem_cons.1 hm with rfl | hm
          · exact ⟨by simpa using h1, h2⟩
          · exact h4 m hm
theorem level_of {l : List Nat} (hl : Code l) {x : Nat} (hx : x ∈ l) : x ∈ levelNs l 20 := (levelNs_mem l 20 x).2 ⟨(hl.fits x hx).1, (hl.fits x hx).2, List.count_pos_iff.2 hx⟩
theorem takeF_neg {l : List Nat} (hl : Code l) (u : List UInt8) (a : Int) (h : a < 0) : takeF l u a = .error 1 := by
  have h2 := hl.two
  obtain ⟨x, hx⟩ : ∃ x, x ∈ l := ⟨l[0]'(by omega), List.getElem_mem _⟩
  have hx2 := level_of hl hx
  unfold takeF
  cases hls : levelNs l 20 with
  | nil => rw [hls] at hx2; simp at hx2
  | cons n ns =>
    have hn := (levelNs_mem l 20 n).1 (by rw [hls]; simp)
    have he : getE u a n = 1 := by unfold getE; rw [if_pos (.inr (.inr h))]
    rw [takeGo, he, if_pos (by simp)]
theorem takeF_no {l : List Nat} (hl : Code l) (u : List UInt8) (a : Int) (h0 : 0 ≤ a) (hno : ∀ s n, ¬ StandsAt l u a s n) :
    takeF l u a = .error (if 8 * (u.length : Int) - (ints l).foldl max 0 < a then 2 else 3) := by
  cases ht : takeF l u a with
  | ok p =>
    obtain ⟨s, b⟩ := p
    obtain ⟨n, hn, _⟩ := takeF_ok ht
    exact absurd hn (hno s n)
  | error e =>
    congr 1
    have hG := foldl_max_gt (ints l) (8 * (u.length : Int) - a) 0
    rcases takeGo_err l u a e _ ht with ⟨n, hn, h1, h2⟩ | ⟨h1, h2⟩
    · obtain ⟨hn1, hn2, hn3⟩ := (levelNs_mem l 20 n).1 hn
      have hnl : n ∈ l := List.count_pos_iff.1 hn3
      have h3 : ¬ (0 ≤ a ∧ a + n ≤ 8 * (u.length : Int)) := fun h => h1 ((getE_zero_iff u a n (by omega)).2 h)
      have h4 : 8 * (u.length : Int) - a < (ints l).foldl max 0 := hG.2 (.inr ⟨(n : Int), by simp only [ints, List.mem_map]; exact ⟨n, hnl, rfl⟩, by omega⟩)
      rw [if_pos (by omega), h2]
      unfold getE
      rw [if_neg (by omega), if_pos (by omega)]
    · rw [if_neg ?_, h1]
      intro h3
      rcases hG.1 (by omega) with h4 | ⟨y, hy, h4⟩
      · have h5 := hl.two
        have hx : l[0]'(by omega) ∈ l := List.getElem_mem _
        have h6 := (h2 _ (level_of hl hx)).1
        have h7 := hl.fits _ hx
        have h8 := (getE_zero_iff u a _ (by omega)).1 h6
        omega
      · simp only [ints, List.mem_map] at hy
        obtain ⟨x, hx, rfl⟩ := hy
        have h6 := (h2 x (level_of hl hx)).1
        have h7 := hl.fits _ hx
        have h8 := (getE_zero_iff u a _ (by omega)).1 h6
        omega
set_option maxHeartbeats 1600000 in
theorem rgreat_any (w : World) (v : Value) (l : List Int) (hv : IsInts w w.heap.size v l) (hl : l.length ≤ 1000000) :
    Calls Try.prog 34 #[v] w fun e w' => e = .returned (.int .i64 (l.foldl max 0)) ∧ w = w' := by
  obtain ⟨A, ca, rfl, hc1, hc2⟩ := hv.shape
  obtain ⟨N, hN⟩ : ∃ N, l.length = N := ⟨_, rfl⟩
  rw [hN] at hv hc1 hl ⊢
  have HN := Lib.hid hN
  have Hv := Lib.hid hv
  clear hv hN
  go_enter Try.func34, Try.ntmps34
  go_wp2
  go_loop [3, 4] (fun mv iv => ∃ k : Nat, k ≤ N ∧ iv = .int .i64 (k : Int) ∧ mv = .int .i64 ((l.take k).foldl max 0)) (fun _ iv => N + 2 - (intOf iv).toNat)
  case atStart => exact ⟨0, Nat.zero_le _, rfl, rfl⟩
  case round =>
    obtain ⟨k, hk, rfl, rfl⟩ := hrel
    by_cases hlt : k < N
    · obtain ⟨g, o, rfl, hgb, hc⟩ := Hv.out.at k (by rw [HN.out]; exact hlt)
      have hfo := foldl_take max l 0 k (by rw [HN.out]; exact hlt)
      generalize l[k]?.getD 0 = x at *
      obtain ⟨m, hm⟩ : ∃ m, (l.take k).foldl max 0 = m := ⟨_, rfl⟩
      rw [hm] at hfo ⊢
      have Hfo := Lib.hid hfo
      clear hfo hm
      by_cases hxm : m < x
      · go_wp2
        go_round
        case rel => exact ⟨k + 1, by omega, by go_num, by rw [Hfo.out, Int.max_eq_right (by omega)]⟩
        case measure => simp [intOf]; omega
      · go_wp2
        go_round
        case rel => exact ⟨k + 1, by omega, by go_num, by rw [Hfo.out, Int.max_eq_left (by omega)]⟩
        case measure => simp [intOf]; omega
    · obtain rfl : k = N := by omega
      go_wp2
      go_ret
      exact ⟨ret_int (by rw [List.take_of_length_le (by rw [HN.out]; exact Nat.le_refl _)]), rfl⟩
theorem foldl_max_le (l : List Int) (b : Int) (h0 : 0 ≤ b) (h : ∀ x ∈ l, x ≤ b) : 0 ≤ l.foldl max 0 ∧ l.foldl max 0 ≤ b := by
  constructor
  · by_cases h1 : l.foldl max 0 < 0
    · have := (foldl_max_gt l (l.foldl max 0) 0).2 (.inl h1)
      omega
    · omega
  · by_cases h1 : b < l.foldl max 0
    · rcases (foldl_max_gt l b 0).1 h1 with h2 | ⟨x, hx, h2⟩
      · omega
      · have := h x hx
        omega
    · exact Int.not_lt.1 h1
set_option maxRecDepth 100000 in
set_option maxHeartbeats 3200000 in
theorem rtake8_any (w : World) (v : Value) (l : List Nat) (s : ByteArray) (a : Int) (hv : IsInts w w.heap.size v (ints l)) (hl : Code l) (hs : s.size ≤ 281474976710656) :
    Calls Try.prog 21 #[v, .string s, .int .i64 a] w fun e w' => e = .returned (.tuple #[(takeV (takeF l s.data.toList a)).1, (takeV (takeF l s.data.toList a)).2.1, (takeV (takeF l s.data.toList a)).2.2]) ∧ Below w.heap.size w w' := by
  obtain ⟨A, ca, rfl, hc1, hc2⟩ := hv.shape
  have hli := length_ints l
  have hsl : s.data.toList.length = s.size := by simp
  obtain ⟨N, hN⟩ : ∃ N, l.length = N := ⟨_, rfl⟩
  have CW : Hid (Calls Try.prog 14 #[.slice A (ints l).length ca] w fun e w' => ∃ u, e = .returned (.tuple #[u, .int .i64 0]) ∧ IsWords w' u l ∧ Below w.heap.size w w') := rwords_ok w _ l hv hl
  have CR : Hid (∀ W, Below w.heap.size w W → Calls Try.prog 34 #[.slice A (ints l).length ca] W fun e w' => e = .returned (.int .i64 ((ints l).foldl max 0)) ∧ W = w') := fun W hB => rgreat_any W _ _ (ints_up hv hB) (by rw [hli]; have := hl.most; omega)
  have hGb := foldl_max_le (ints l) 20 (by omega) (fun x hx => by
    simp only [ints, List.mem_map] at hx
    obtain ⟨y, hy, rfl⟩ := hx
    have := hl.fits y hy
    omega)
  have hno := takeF_no hl s.data.toList a
  rw [hsl] at hno
  have hneg := takeF_neg hl s.data.toList a
  have CG : Hid (∀ (n : Int) W, Calls Try.prog 33 #[.string s, .int .i64 a, .int .i64 n] W fun e w' => e = .returned (.tuple #[.int .u64 (getV s.data.toList a n), .int .i64 (getE s.data.toList a n)]) ∧ W = w') := fun n W => refGet_any s a n W hs
  rw [hli, hN] at CW CR hc1 ⊢
  have hN258 : N ≤ 258 := by rw [← hN]; exact hl.most
  have HN := Lib.hid hN
  have Hlc := Lib.hid hl
  have Hno := Lib.hid hno
  have Hneg := Lib.hid hneg
  have Hsl := Lib.hid hsl
  obtain ⟨G, hG⟩ : ∃ G, (ints l).foldl max 0 = G := ⟨_, rfl⟩
  rw [hG] at hGb
  have HG := Lib.hid hG
  obtain ⟨hG1, hG2⟩ := hGb
  clear hv hN hl hli hno hneg hsl hG
  go_enter Try.func21, Try.ntmps21
  go_wp2_with fail
  refine CW.out.mono ?_
  rintro e w1 ⟨_, rfl, ⟨g, cg, rfl, hg⟩, hB1⟩
  have Hg := Lib.hid hg
  have HB1 := Lib.hid hB1
  rw [HN.out]
  clear hg hB1 CW
  by_cases ha : a < 0
  · have Hr := Lib.hid (Hneg.out ha)
    go_wp2_with fail
    go_ret3
    exact ⟨by rw [Hr.out]; rfl, HB1.out⟩
  · have ha0 : 0 ≤ a := by omega
    clear ha Hneg
    go_wp2_with fail
    go_loop [11] (fun iv => ∃ i : Nat, i ≤ N ∧ iv = .int .i64 i ∧ Hid (∀ k, k < i → ∀ n, ¬ StandsAt l s.data.toList a k n)) (fun iv => N + 1 - (intOf iv).toNat)
    case atStart => exact ⟨0, Nat.zero_le _, rfl, fun k hk => by omega⟩
    case round =>
      obtain ⟨i, hi, rfl, HI⟩ := hrel
      by_cases hit : i < N
      · obtain ⟨n, hn⟩ : ∃ n, l[i]? = some n := ⟨_, List.getElem?_eq_getElem (by rw [HN.out]; exact hit)⟩
        have hn20 := Hlc.out.fits n (List.mem_of_getElem? hn)
        have hwl := wordV_lt Hlc.out hn
        have hp20 : 2 ^ n ≤ 2 ^ 20 := Nat.pow_le_pow_right (by omega) hn20.2
        have h20 : (2 : Nat) ^ 20 = 1048576 := by decide
        have k0 : w1.cell? ⟨g, i * 2, none⟩ = some (.int .i64 (n : Nat)) := by
          rw [cell_of_heap Hg.out, outC_get _ _ _ (by rw [HN.out]; omega)]
          unfold wcell
          rw [if_pos (by omega), show i * 2 / 2 = i by omega, hn]
          rfl
        have k1 : w1.cell? ⟨g, i * 2 + 1, none⟩ = some (.int .u64 (wordV l i : Nat)) := by
          rw [cell_of_heap Hg.out, outC_get _ _ _ (by rw [HN.out]; omega)]
          unfold wcell
          rw [if_neg (by omega), show (i * 2 + 1) / 2 = i by omega]
          rfl
        by_cases hst : StandsAt l s.data.toList a i n
        · have hr := takeF_word Hlc.out s.data.toList a i n hst
          obtain ⟨h1, h2, h3, h4⟩ := hst
          have he : getE s.data.toList a n = 0 := (getE_zero_iff _ _ _ (by omega)).2 ⟨h2, h3⟩
          have hv : getV s.data.toList a n = (wordV l i : Nat) := by
            have := getV_slice s.data.toList a n (by omega) he
            rw [h4] at this
            have h5 := getV_nat s.data.toList a n
            omega
          have CC := CG.out n w1
          rw [he, hv] at CC
          have HCC := Lib.hid CC
          have Hr := Lib.hid hr
          rw [Hsl.out] at h3
          clear hr h1 h4 he hv CC CG hn hwl hp20 h20
          generalize wordV l i = wv at *
          go_wp2_with fail
          refine HCC.out.mono ?_
          rintro e w' ⟨rfl, rfl⟩
          go_wp2_with fail
          go_quiet (fail)
          go_wp2_with fail
          go_ret3
          exact ⟨by rw [Hr.out]; rfl, below_drewN HB1.out _⟩
        · have HI2 : Hid (∀ k, k < i + 1 → ∀ n, ¬ StandsAt l s.data.toList a k n) := fun k hk m hm => by
            by_cases e : k = i
            · subst e
              have := hm.1
              rw [hn] at this
              injection this with this
              subst this
              exact hst hm
            · exact HI.out k (by omega) m hm
          have hcase : getE s.data.toList a n ≠ 0 ∨ getE s.data.toList a n = 0 ∧ getV s.data.toList a n ≠ (wordV l i : Nat) := by
            by_cases he : getE s.data.toList a n = 0
            · refine .inr ⟨he, fun hv => hst ?_⟩
              obtain ⟨h1, h2⟩ := (getE_zero_iff s.data.toList a n (by omega)).1 he
              refine ⟨hn, h1, h2, ?_⟩
              have := getV_slice s.data.toList a n (by omega) he
              rw [hv] at this
              simpa using this.symm
            · exact .inl he
          have HCC := Lib.hid (CG.out n w1)
          have hv0 := getV_nat s.data.toList a n
          have hv1 := getV_lt s.data.toList a n hn20.2
          clear hst hn HI hwl hp20 h20
          generalize getE s.data.toList a n = ge at *
          generalize getV s.data.toList a n = gv at *
          generalize wordV l i = wv at *
          rcases hcase with hne | ⟨rfl, hne⟩
          · have hb : (ge == 0) = false := by rw [beq_eq_false_iff_ne]; exact hne
            clear hne
            go_wp2_with fail
            refine HCC.out.mono ?_
            rintro e w' ⟨rfl, rfl⟩
            go_wp2_with fail
            go_round
            case rel => exact ⟨i + 1, by omega, by go_num, HI2⟩
            case measure => simp [intOf]; omega
          · have hb : (gv == (wv : Int)) = false := by rw [beq_eq_false_iff_ne]; exact hne
            clear hne
            go_wp2_with fail
            refine HCC.out.mono ?_
            rintro e w' ⟨rfl, rfl⟩
            go_wp2_with fail
            go_round
            case rel => exact ⟨i + 1, by omega, by go_num, HI2⟩
            case measure => simp [intOf]; omega
      · obtain rfl : i = N := by omega
        have hr := Hno.out ha0 (fun k n hst => by
          have hk := (List.getElem?_eq_some_iff.1 hst.1).1
          rw [HN.out] at hk
          exact HI.out k hk n hst)
        rw [HG.out] at hr
        have HCR := CR.out w1 HB1.out
        rw [HG.out] at HCR
        have HCR2 := Lib.hid HCR
        clear HCR CR CG HI Hno
        by_cases hsh : 8 * (s.size : Int) - G < a
        · rw [if_pos hsh] at hr
          have Hr := Lib.hid hr
          clear hr
          go_wp2_with fail
          refine HCR2.out.mono ?_
          rintro e w' ⟨rfl, rfl⟩
          go_wp2_with fail
          go_ret3
          exact ⟨by rw [Hr.out]; rfl, HB1.out⟩
        · rw [if_neg hsh] at hr
          have Hr := Lib.hid hr
          clear hr
          go_wp2_with fail
          refine HCR2.out.mono ?_
          rintro e w' ⟨rfl, rfl⟩
          go_wp2_with fail
          go_ret3
          exact ⟨by rw [Hr.out]; rfl, HB1.out⟩
set_option maxHeartbeats 1600000 in
theorem rtake8_er (w : World) (v : Value) (l : List Int) (s : ByteArray) (a : Int) (hv : IsInts w w.heap.size v l) (hl : l.length ≤ 1000000) (hc : checkF l ≠ 0) :
    Calls Try.prog 21 #[v, .string s, .int .i64 a] w fun e w' => e = .returned (.tuple #[.int .i64 0, .int .i64 0, .int .i64 (checkF l)]) ∧ w = w' := by
  have CW : Hid (Calls Try.prog 14 #[v] w fun e w' => e = .returned (.tuple #[.slice none 0 0, .int .i64 (checkF l)]) ∧ w = w') := rwords_er w _ l hv hl hc
  obtain ⟨A, ca, rfl, hc1, hc2⟩ := hv.shape
  generalize checkF l = z at *
  have hz : (z != 0) = true := by rw [bne_iff_ne]; exact hc
  clear hv hc
  go_enter Try.func21, Try.ntmps21
  go_wp2_with fail
  refine CW.out.mono ?_
  rintro e w1 ⟨rfl, rfl⟩
  go_wp2_with fail
  go_ret3
  exact ⟨rfl, rfl⟩
end Go.Proofs.Ytkicaimondpceaa
