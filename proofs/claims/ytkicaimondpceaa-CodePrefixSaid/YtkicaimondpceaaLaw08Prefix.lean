/- CodePrefix: the walk. -/
import Derived.Test.YtkicaimondpceaaCodeHelp
import Derived.Deep.QuietTactic
import Derived.BigQuiet
namespace Go.Proofs.Ytkicaimondpceaa
open Go.RowKit
set_option linter.unusedVariables false

theorem words_order {l : List Nat} (hl : Code l) (i k ti tk : Nat) (hi : l[i]? = some ti) (hk : l[k]? = some tk) :
    ∀ d, tk = ti + d → k ≠ i → wordV l k / 2 ^ d ≠ wordV l i ∧ (wordV l k < wordV l i * 2 ^ d → d = 0 ∧ k < i) := by
  intro d hd hki
  obtain ⟨r1, r2, r3, r4, r5⟩ := wordV_room hl hi
  obtain ⟨s1, s2, s3, s4, s5⟩ := wordV_room hl hk
  rcases Nat.eq_zero_or_pos d with h0 | h0
  · subst h0
    obtain rfl : tk = ti := by omega
    have e1 : wordV l k = 2 * nextV l (tk - 1) + (l.take k).count tk := by unfold wordV; rw [hk]; rfl
    have e2 : wordV l i = 2 * nextV l (tk - 1) + (l.take i).count tk := by unfold wordV; rw [hi]; rfl
    have key : ∀ a b : Nat, a < b → l[a]? = some tk → (l.take a).count tk < (l.take b).count tk := by
      intro a b hab ha
      have h1 : l.take (a + 1) = l.take a ++ [tk] := by rw [List.take_add_one, ha]; rfl
      have h2 : (l.take (a + 1)).count tk ≤ (l.take b).count tk := by
        obtain ⟨c, rfl⟩ : ∃ c, b = a + 1 + c := ⟨b - (a + 1), by omega⟩
        exact ((List.take_prefix_take_left (by omega)).sublist).count_le tk
      rw [h1, List.count_append] at h2
      simp at h2
      omega
    rw [e1, e2, Nat.pow_zero, Nat.div_one, Nat.mul_one]
    rcases Nat.lt_or_ge k i with h | h
    · have := key k i h hk
      exact ⟨by omega, fun _ => ⟨rfl, h⟩⟩
    · have := key i k (by omega) hi
      exact ⟨by omega, fun h3 => by omega⟩
  · have hu := nextV_up l (show ti ≤ tk - 1 by omega)
    have hp : 2 ^ d = 2 * 2 ^ (tk - 1 - ti) := by
      rw [show d = (tk - 1 - ti) + 1 by omega, Nat.pow_succ]
      omega
    have h1 : (wordV l i + 1) * 2 ^ d ≤ wordV l k := by
      have h2 : (wordV l i + 1) * 2 ^ (tk - 1 - ti) ≤ nextV l ti * 2 ^ (tk - 1 - ti) := Nat.mul_le_mul_right _ r5
      rw [hp, Nat.mul_left_comm]
      omega
    have h3 : wordV l i + 1 ≤ wordV l k / 2 ^ d := (Nat.le_div_iff_mul_le (Nat.pow_pos (by omega))).2 h1
    have h4 : wordV l i * 2 ^ d ≤ (wordV l i + 1) * 2 ^ d := Nat.mul_le_mul_right _ (by omega)
    exact ⟨by omega, fun h5 => by omega⟩

set_option maxRecDepth 100000 in
set_option maxHeartbeats 6400000 in
theorem cprefix_walk (w : World) (v : Value) (raw : List Int) (hv : IsInts w w.heap.size v raw) (hr : I64s raw) :
    Calls Try.prog 5 #[v] w fun e w' => e = .returned (.bool true) ∧ Below w.heap.size w w' := by
  have HRW := Lib.hid hv
  have HR := Lib.hid hr
  clear hv hr
  go_enter Try.func5, Try.ntmps5
  have E0 := Lib.hid (Env.nil w)
  go_wp2_with fail
  refine (awake08_any _).mono ?_
  rintro e w1 ⟨rfl, hB⟩
  have E1 := Lib.hid (E0.out.step hB)
  clear E0 hB  
  go_wp2_with fail
  refine (lens08_is _ _ raw 60 (E1.out.old HRW.out) HR.out (by omega) (by omega)).mono ?_
  rintro e w2 ⟨l, q1, c1, rfl, hv, hcode, hl60, hB⟩
  have E2 := Lib.hid ((E1.out.step hB).add hv)
  clear E1 hB hv
  obtain ⟨n, hn⟩ : ∃ n, l.length = n := ⟨_, rfl⟩
  have HN := Lib.hid hn
  have Hcode := Lib.hid hcode
  have hn2 := hcode.two
  rw [hn] at E2 hl60 hn2 ⊢
  clear hn hcode
  go_wp2_with fail
  refine (words_ok _ _ l (E2.out.get 0 rfl) Hcode.out).mono ?_
  rintro e w3 ⟨_, rfl, ⟨gw, cw, rfl, hgw⟩, hB⟩
  have E4 := Lib.hid (E2.out.fresh hB hgw)
  rw [HN.out]
  clear hB hgw E2
  have HC : Hid (∀ (W : World) (i t : Nat), Env w W [(.slice q1 n c1, ints l)] [(gw, outC l (fun _ => true), 34)] → i < n → l[i]? = some t → W.cell? ⟨gw, i * 2, none⟩ = some (.int .i64 (t : Nat)) ∧ W.cell? ⟨gw, i * 2 + 1, none⟩ = some (.int .u64 (wordV l i : Nat))) := fun W i t h hi ht => by
    have hi2 : i < l.length := by rw [HN.out]; exact hi
    refine ⟨h.cellv 0 rfl (i * 2) _ ?_, h.cellv 0 rfl (i * 2 + 1) _ ?_⟩
    · rw [outC_get _ _ _ (by omega)]
      unfold wcell
      rw [if_pos (by omega), show i * 2 / 2 = i by omega, ht]
      rfl
    · rw [outC_get _ _ _ (by omega)]
      unfold wcell
      rw [if_neg (by omega), show (i * 2 + 1) / 2 = i by omega]
      rfl
  go_wp2_with fail
  go_loopw [7] (fun iv wr => ∃ i : Nat, i ≤ n ∧ iv = .int .i64 i ∧ Env w wr [(.slice q1 n c1, ints l)] [(gw, outC l (fun _ => true), 34)]) (fun iv _ => n + 1 - (intOf iv).toNat)
  case atStart => exact ⟨0, Nat.zero_le _, rfl, E4.out⟩
  case round =>
    obtain ⟨i, hi, rfl, hE⟩ := hrel
    have EE := Lib.hid hE
    clear hE E4
    by_cases hin : i < n
    · obtain ⟨ti, hti⟩ : ∃ t, l[i]? = some t := ⟨_, List.getElem?_eq_getElem (by rw [HN.out]; exact hin)⟩
      obtain ⟨k0, k1⟩ := HC.out _ i ti EE.out hin hti
      obtain ⟨g1, o1, rfl, hg1, hx1⟩ := (EE.out.get 0 rfl).at i (by rw [length_ints, HN.out]; exact hin)
      rw [show (ints l)[i]?.getD 0 = (ti : Int) by simp [ints, hti]] at hx1
      have hti20 := Hcode.out.fits ti (List.mem_of_getElem? hti)
      have hvt := wordV_lt Hcode.out hti
      have h1p : 2 ^ ti ≤ 2 ^ 20 := Nat.pow_le_pow_right (by omega) (by omega)
      have h2p : (2 : Nat) ^ 20 = 1048576 := by decide
      have Hti := Lib.hid hti
      obtain ⟨vi, hvi⟩ : ∃ v, wordV l i = v := ⟨_, rfl⟩
      rw [hvi] at k1 hvt
      have Hvi := Lib.hid hvi
      obtain ⟨pi, hpi⟩ : ∃ p, 2 ^ ti = p := ⟨_, rfl⟩
      have hpw : IntKind.u64.wrap (2 ^ ti) = (pi : Int) := by rw [wrap_pow ti (by omega), pow_cast, hpi]
      rw [hpi] at hvt h1p
      have hvt2 : ((vi : Int)) < (pi : Int) := by omega
      clear hti hvi hpi
      go_wp2_with fail
      go_quiet (fail)
      go_wp2_with fail
      go_loopw [8] (fun kv ws => ∃ k : Nat, k ≤ n ∧ kv = .int .i64 k ∧ Env w ws [(.slice (some ⟨g1, o1, none⟩) n c1, ints l)] [(gw, outC l (fun _ => true), 34)]) (fun kv _ => n + 1 - (intOf kv).toNat)
      case atStart => exact ⟨0, Nat.zero_le _, rfl, EE.out.drewN _⟩
      case round =>
        obtain ⟨k, hk, rfl, hE⟩ := hrel
        have EF := Lib.hid hE
        clear hE EE k0 k1 hx1 hg1
        by_cases hkn : k < n
        · obtain ⟨tk, htk⟩ : ∃ t, l[k]? = some t := ⟨_, List.getElem?_eq_getElem (by rw [HN.out]; exact hkn)⟩
          obtain ⟨m0, m1⟩ := HC.out _ k tk EF.out hkn htk
          obtain ⟨k0, k1⟩ := HC.out _ i ti EF.out hin Hti.out
          have htk20 := Hcode.out.fits tk (List.mem_of_getElem? htk)
          rw [Hvi.out] at k1
          have Hord := Lib.hid (words_order Hcode.out i k ti tk Hti.out htk)
          obtain ⟨vk, hvk⟩ : ∃ v, wordV l k = v := ⟨_, rfl⟩
          have hvkt := wordV_lt Hcode.out htk
          have h3p : 2 ^ tk ≤ 2 ^ 20 := Nat.pow_le_pow_right (by omega) (by omega)
          rw [hvk] at m1 hvkt
          rw [hvk, Hvi.out] at Hord
          clear hvk htk
          by_cases hki : k = i
          · subst hki
            go_wp2_with fail
            go_quiet (fail)
            go_wp2_with fail
            go_roundw
            case rel => exact ⟨k + 1, by omega, by go_num, EF.out.drewN _⟩
            case measure => simp [intOf]; omega
          · have hkf : ((k : Int) == (i : Int)) = false := by rw [beq_eq_false_iff_ne]; omega
            by_cases htt : tk < ti
            · go_wp2_with fail
              go_quiet (fail)
              go_wp2_with fail
              go_roundw
              case rel => exact ⟨k + 1, by omega, by go_num, EF.out.drewN _⟩
              case measure => simp [intOf]; omega
            · have hdd : ti ≤ tk := by omega
              clear htt
              go_wp2_with fail
              go_quiet (fail)
              go_wp2_with fail
              go_quiet (fail)
              go_wp2_with fail
              obtain ⟨hne, hlt2⟩ := Hord.out (tk - ti) (by omega) hki
              have h5p : vi * 2 ^ (tk - ti) ≤ 1048576 * 1048576 := by
                have : 2 ^ (tk - ti) ≤ 2 ^ 20 := Nat.pow_le_pow_right (by omega) (by omega)
                exact Nat.mul_le_mul (by omega) (by omega)
              obtain ⟨q, hq⟩ : ∃ q, vk / 2 ^ (tk - ti) = q := ⟨_, rfl⟩
              obtain ⟨y, hy⟩ : ∃ y, vi * 2 ^ (tk - ti) = y := ⟨_, rfl⟩
              have hq2 : (vk : Int) / 2 ^ (tk - ti) = (q : Int) := by rw [pow_cast, ← hq]; push_cast; rfl
              have hy2 : (vi : Int) * 2 ^ (tk - ti) = (y : Int) := by rw [pow_cast, ← hy]; push_cast; rfl
              rw [hq] at hne
              rw [hy] at hlt2 h5p
              have hy3 : IntKind.u64.wrap ((y : Int)) = (y : Int) := by rw [IntKind.wrap_u64]; omega
              have hqe : ((q : Int) == (vi : Int)) = false := by rw [beq_eq_false_iff_ne]; omega
              by_cases hyk : vk < y
              · obtain ⟨hd0, hki2⟩ := hlt2 hyk
                have htt : tk = ti := by omega
                subst htt
                rw [Nat.sub_self, Nat.pow_zero, Nat.div_one] at hq
                rw [Nat.sub_self, Nat.pow_zero, Nat.mul_one] at hy
                subst hq
                subst hy
                have hki3 : ¬ i < k := by omega
                clear hq2 hy2 hlt2 hd0 hne
                go_quiet (fail)
                go_wp2_with fail
                go_roundw
                case rel => exact ⟨k + 1, by omega, by go_num, EF.out.drewN _⟩
                case measure => simp [intOf]; omega
              · clear hq hy hne hlt2
                go_quiet (fail)
                go_wp2_with fail
                go_roundw
                case rel => exact ⟨k + 1, by omega, by go_num, EF.out.drewN _⟩
                case measure => simp [intOf]; omega
        · obtain rfl : k = n := by omega
          go_wp2_with fail
          go_roundw
          case rel => exact ⟨i + 1, by omega, by go_num, EF.out⟩
          case measure => simp [intOf]; omega
    · obtain rfl : i = n := by omega
      go_wp2
      go_ret
      exact ⟨by rfl, EE.out.bel⟩
end Go.Proofs.Ytkicaimondpceaa
