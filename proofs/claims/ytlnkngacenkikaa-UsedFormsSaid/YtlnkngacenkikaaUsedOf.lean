/- The set of a text's bytes: of, and its rows. -/
import Derived.Test.YtlnkngacenkikaaUsedPlain
import Derived.Test.YtlnkngacenkikaaRow
namespace Go.Proofs.Ytlnkngacenkikaa
open Go.RowKit
set_option linter.unusedVariables false

/-- a set's cells -/
def setC (s : List UInt8) : Array Value := ((List.range 256).map fun c => Value.bool (hasB s c)).toArray
theorem setC_size (s : List UInt8) : (setC s).size = 256 := by simp [setC]
theorem setC_get (s : List UInt8) (c : Nat) (h : c < 256) : (setC s)[c]? = some (.bool (hasB s c)) := by simp [setC, h]
theorem setC_one (s : List UInt8) : (setC s).all (·.oneCell') = true := by
  simp [setC, Value.oneCell']
theorem setC_none (s : List UInt8) (c : Nat) (h : ¬ c < 256) : (setC s)[c]? = none := Array.getElem?_eq_none (by rw [setC_size]; omega)
theorem setC_set (s : List UInt8) (x : UInt8) : (setC s).setIfInBounds x.toNat (.bool true) = setC (s ++ [x]) := by
  have hx : x.toNat < 256 := x.toNat_lt
  apply Array.ext_getElem?
  intro i
  rw [Array.getElem?_setIfInBounds]
  by_cases hi : i < 256
  · rw [setC_get _ _ hi, setC_get _ _ hi, hasB_append, hasB_one, setC_size]
    by_cases h : x.toNat = i
    · subst h; simp [hx]
    · rw [if_neg h, beq_eq_false_iff_ne.2 h, Bool.or_false]
  · rw [setC_none _ _ hi, setC_none _ _ hi, if_neg (by omega)]
theorem set_zero : ∀ W, (zeroValue 47).run Try.prog W = .ok (.agg (setC [])) W := fun _ => by kernel_rfl
theorem set_info : (Try.prog.info? 47).map (·.size) = some 256 := by kernel_rfl

set_option maxHeartbeats 800000 in
theorem of_set (s : ByteArray) (w : World) (hs : s.size ≤ 1000000) :
    Calls Try.prog 17 #[.string s] w fun e w' => e = .returned (.agg (setC s.data.toList)) ∧ Below w.heap.size w w' := by
  have hz := set_zero
  obtain ⟨Z, hZ⟩ : ∃ Z, setC [] = Z := ⟨_, rfl⟩
  rw [hZ] at hz
  have HZ := Lib.hid hZ
  clear hZ
  go_enter Try.func17, Try.ntmps17
  go_wp2
  have hZb : (w.alloc (.cells Z 47)).heap[w.heap.size]? = some (.cells Z 47 (0, 0)) := heap_new _ _ _ rfl
  go_loopw [6] (fun i wr => ∃ k : Nat, k ≤ s.size ∧ i = .int .i64 k ∧ wr.heap[w.heap.size]? = some (.cells (setC (s.data.toList.take k)) 47 (0, 0)) ∧ Below w.heap.size w wr) (fun i _ => s.size - (intOf i).toNat)
  case atStart => exact ⟨0, Nat.zero_le _, rfl, by rw [List.take_zero, HZ.out]; exact hZb, (Below.refl _ _).alloc (Nat.le_refl _) _⟩
  case round =>
    obtain ⟨k, hk, rfl, hh, hB⟩ := hrel
    have Hh := Lib.hid hh
    clear hh hZb
    by_cases hlt : k < s.size
    · have hx := (s[k]).toNat_lt
      have hkl : k < s.data.toList.length := by simpa using hlt
      have hc := (cell_of_heap Hh.out (s[k]).toNat).trans (setC_get _ _ hx)
      have hf := frozen_of_heap Hh.out (s[k]).toNat
      have Ht : Hid (setC (s.data.toList.take (k + 1)) = (setC (s.data.toList.take k)).setIfInBounds (s[k]).toNat (.bool true)) := by
        show _ = _
        rw [setC_set, List.take_succ_eq_append_getElem hkl]
        rfl
      have hset := Lib.hid (heap_set_ Hh.out (s[k]).toNat (.bool true))
      obtain ⟨b, hb⟩ : ∃ b, hasB (s.data.toList.take k) (s[k]).toNat = b := ⟨_, rfl⟩
      rw [hb] at hc
      clear hb
      go_wp2
      go_roundw
      case rel => exact ⟨k + 1, by omega, by go_num, by rw [Ht.out]; exact hset.out, hB.setCell (p := ⟨w.heap.size, _, none⟩) (Nat.le_refl _) _⟩
      case measure => simp [intOf]; omega
    · obtain rfl : k = s.size := by omega
      have Hh : Hid (wr.heap[w.heap.size]? = some (.cells (setC s.data.toList) 47 (0, 0))) := by
        show _ = _
        have := Hh.out
        rw [List.take_of_length_le (by simp)] at this
        exact this
      generalize hS : setC s.data.toList = S at *
      have hSs : S.size = 256 := by rw [← hS]; exact setC_size _
      have hS1 : S.all (·.oneCell') = true := by rw [← hS]; exact setC_one _
      have hi : (Try.prog.info? 47).map (·.size) = some S.size := by rw [hSs]; exact set_info
      have HS := Lib.hid hS
      have Hi := Lib.hid hi
      have HS1 := Lib.hid hS1
      clear hS hSs hi hS1
      go_wp2_with
        (first
          | (refine wpList_load_row rfl 47 _ rfl w.heap.size rfl _ S _ _ Hh.out Try.underlying47 rfl Hi.out ?_)
          | (refine wpList_store_whole rfl 47 _ _ rfl w.heap.size S S _ rfl rfl Hh.out rfl Hi.out HS1.out ?_
             intro w2 hg2 hs2 hk2 hb2
             have Hg2 := Lib.hid hg2
             have HB2 := Lib.hid (hb2 _ _ (Nat.le_refl _) hB)
             clear hg2 hs2 hk2 hb2))
      refine bodyPost_ret (results_cell_row rfl _ _ w.heap.size _ S _ _ rfl Hg2.out Try.underlying47 rfl Hi.out) rfl ⟨by rw [HS.out], HB2.out⟩
end Go.Proofs.Ytlnkngacenkikaa
