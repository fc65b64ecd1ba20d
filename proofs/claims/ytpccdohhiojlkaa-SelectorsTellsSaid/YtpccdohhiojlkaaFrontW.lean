/- The document's front (layer 5): the walks. -/
import Derived.Test.YtpccdohhiojlkaaFront
import Derived.Deep.QuietTactic
namespace Go.Proofs.Ytpccdohhiojlkaa
open Go.RowKit
set_option linter.unusedVariables false

theorem get_list (s : ByteArray) (i : Nat) (h : i < s.size) : s.data.toList[i]? = some s[i] := by
  rw [Array.getElem?_toList, Array.getElem?_eq_getElem (show i < s.data.size from h)]
  rfl
theorem idxOf_first (l : List UInt8) (c : UInt8) : ∀ (i : Nat), l[i]? = some c → (∀ k, k < i → l[k]? ≠ some c) → l.idxOf c = i := by
  induction l with
  | nil => intro i h; simp at h
  | cons x l ih =>
    intro i h hn
    cases i with
    | zero =>
      simp at h
      subst h
      simp
    | succ i =>
      have h0 := hn 0 (by omega)
      simp at h0
      rw [List.idxOf_cons, beq_eq_false_iff_ne.2 h0, ih i (by simpa using h) (fun k hk => by have := hn (k + 1) (by omega); simpa using this)]
      rfl
theorem beq_u8 (a b : UInt8) : ((a.toNat : Int) == (b.toNat : Int)) = (a == b) := by
  rw [Bool.eq_iff_iff, beq_iff_eq, beq_iff_eq, Int.ofNat_inj]
  exact ⟨fun h => UInt8.toNat_inj.1 h, fun h => by rw [h]⟩
set_option maxHeartbeats 800000 in
theorem rplace5_any (w : World) (s : ByteArray) (c : UInt8) (hs : s.size ≤ 1000000) :
    Calls Try.prog 48 #[.string s, .int .u8 (c.toNat : Nat)] w fun e w' => e = .returned (.int .i64 (plF s.data.toList c)) ∧ w = w' := by
  have hl : s.data.toList.length = s.size := by simp
  have HL := Lib.hid hl
  clear hl
  go_enter Try.func48, Try.ntmps48
  go_wp2
  go_loop [5] (fun iv => ∃ i : Nat, i ≤ s.size ∧ iv = .int .i64 i ∧ Hid (∀ k, k < i → s.data.toList[k]? ≠ some c)) (fun iv => s.size + 1 - (intOf iv).toNat)
  case atStart => exact ⟨0, Nat.zero_le _, rfl, fun k hk => by omega⟩
  case round =>
    obtain ⟨i, hi, rfl, HI⟩ := hrel
    by_cases hlt : i < s.size
    · have hg := get_list s i hlt
      obtain ⟨x, hx⟩ : ∃ x, s[i] = x := ⟨_, rfl⟩
      rw [hx] at hg
      by_cases hxc : x = c
      · subst hxc
        have hr : Hid (plF s.data.toList x = (i : Nat)) := by
          show _ = _
          unfold plF
          rw [if_pos (List.mem_of_getElem? hg), idxOf_first _ _ i hg HI.out]
        clear hg
        go_wp2
        go_ret
        exact ⟨ret_int hr.out.symm, rfl⟩
      · have hb : ((x.toNat : Int) == (c.toNat : Int)) = false := by rw [beq_u8, beq_eq_false_iff_ne]; exact hxc
        have HI2 : Hid (∀ k, k < i + 1 → s.data.toList[k]? ≠ some c) := fun k hk => by
          by_cases e : k = i
          · subst e; rw [hg]; simpa using hxc
          · exact HI.out k (by omega)
        clear hg HI hxc
        go_wp2
        go_round
        case rel => exact ⟨i + 1, by omega, by go_num, HI2⟩
        case measure => simp [intOf]; omega
    · obtain rfl : i = s.size := by omega
      have hr : Hid (plF s.data.toList c = -1) := by
        show _ = _
        unfold plF
        rw [if_neg fun hm => ?_]
        obtain ⟨k, hk, he⟩ := List.getElem_of_mem hm
        have := HL.out
        exact HI.out k (by omega) (by rw [List.getElem?_eq_getElem hk, he])
      go_wp2
      go_ret
      exact ⟨ret_int hr.out.symm, rfl⟩
theorem ba_inj {a b : ByteArray} (h : a.data.toList = b.data.toList) : a = b := ba_ext h
set_option maxHeartbeats 800000 in
theorem rright5_any (w : World) (s : ByteArray) (hs : s.size ≤ 1000000) (hn : s.data.toList.Nodup) :
    Calls Try.prog 44 #[.string s] w fun e w' => e = .returned (.bool true) ∧ w = w' := by
  have CP : Hid (∀ (i : Nat) (h : i < s.size) W, Calls Try.prog 48 #[.string s, .int .u8 ((s[i]).toNat : Nat)] W fun e w' => e = .returned (.int .i64 (i : Nat)) ∧ W = w') := fun i h W => by
    have := rplace5_any W s s[i] hs
    have hg := get_list s i h
    have hll : i < s.data.toList.length := by rw [Array.length_toList]; exact h
    have he : plF s.data.toList s[i] = (i : Nat) := by
      unfold plF
      rw [if_pos (List.mem_of_getElem? hg)]
      rw [List.getElem?_eq_getElem hll] at hg
      injection hg with hg
      rw [← hg, hn.idxOf_getElem i hll]
    rw [he] at this
    exact this
  clear hn
  go_enter Try.func44, Try.ntmps44
  go_wp2
  go_loop [3] (fun iv => ∃ i : Nat, i ≤ s.size ∧ iv = .int .i64 i) (fun iv => s.size + 1 - (intOf iv).toNat)
  case atStart => exact ⟨0, Nat.zero_le _, rfl⟩
  case round =>
    obtain ⟨i, hi, rfl⟩ := hrel
    by_cases hlt : i < s.size
    · have CP2 := Lib.hid (CP.out i hlt)
      go_wp2_with fail
      refine (CP2.out _).mono ?_
      rintro e w' ⟨rfl, rfl⟩
      go_wp2_with fail
      go_round
      case rel => exact ⟨i + 1, by omega, by go_num⟩
      case measure => simp [intOf]; omega
    · obtain rfl : i = s.size := by omega
      go_wp2
      go_ret
      exact ⟨rfl, rfl⟩
set_option maxHeartbeats 800000 in
theorem rfront5_any (w : World) (s : ByteArray) (k : Nat) (hs : s.size ≤ 1000000) (hk : k < s.size) :
    Calls Try.prog 45 #[.string s, .int .i64 (k : Nat)] w fun e w' => e = .returned (.string (s.extract k (k + 1) ++ s.extract 0 k ++ s.extract (k + 1) s.size)) ∧ ∃ m, w' = w.drewN m := by
  have h1 : (s.extract k (k + 1)).size = 1 := by rw [ByteArray.size_extract]; omega
  have h2 : (s.extract 0 k).size = k := by rw [ByteArray.size_extract]; omega
  have h3 : (s.extract (k + 1) s.size).size = s.size - (k + 1) := by rw [ByteArray.size_extract]; omega
  go_enter Try.func45, Try.ntmps45
  go_wp2
  go_quiet (fail)
  go_wp2
  go_ret
  exact ⟨rfl, _, rfl⟩
theorem front_al (p : List Nat) (k : Nat) (h : k < p.length) : (al p).extract k (k + 1) ++ (al p).extract 0 k ++ (al p).extract (k + 1) (al p).size = al (mtf p k) := by
  apply ba_ext
  rw [al_size]
  simp only [ByteArray.data_append, ByteArray.data_extract, Array.toList_append, Array.toList_extract, al_list]
  unfold mtf
  rw [List.getD_eq_getElem?_getD, List.getElem?_eq_getElem h]
  simp only [Option.getD_some, List.map_cons, List.map_append, List.map_take, List.map_drop]
  simp only [List.extract_eq_take_drop]
  rw [al_list, show k + 1 - k = 1 by omega, List.drop_eq_getElem_cons (by rw [List.length_map]; exact h), List.take_of_length_le (l := List.drop (k + 1) _) (by rw [List.length_drop, List.length_map]; exact Nat.le_refl _)]
  simp
end Go.Proofs.Ytpccdohhiojlkaa
