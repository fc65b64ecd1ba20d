/- BitsMany: of numbers that are put, one behind the other, each is got at its place: the walk. -/
import Derived.Test.YtfieelanbcjcpaaAwake01
import Derived.Deep.RegionHeld3
import Derived.Deep.DeepCutAuto
namespace Go.Proofs.Ytfieelanbcjcpaa
open Go.RowKit
set_option linter.unusedVariables false

/-- numbers of 64 bits, as cells -/
def IsU64s (w : World) (B : Nat) (v : Value) (xs : List Int) : Prop := Rd w B 1 v xs.length (xs.map (.int .u64))
theorem IsU64s.cellAt {w : World} {B : Nat} {A : Option Addr} {len cap : Nat} {xs : List Int} (h : IsU64s w B (.slice A len cap) xs) (i : Nat) (hi : i < xs.length) :
    ∃ g o, A = some ⟨g, o, none⟩ ∧ g < B ∧ w.cell? ⟨g, o + i, none⟩ = some (.int .u64 (xs[i]?.getD 0)) := by
  obtain ⟨_, g, o, x, hA, hg, hx, hc⟩ := Rd.one h i hi
  rw [List.getElem?_map] at hx
  refine ⟨g, o, hA, hg, ?_⟩
  rw [hc, ← hx, List.getElem?_eq_getElem hi]
  rfl
/-- numbers, one behind the other, of so many bits each -/
def manyL (v n : List Int) (i : Nat) : List Bool := ((List.range i).map fun t => B.low (v[t]?.getD 0).toNat (pickF (n[t]?.getD 0) 65).toNat).flatten
theorem manyL_succ (v n : List Int) (i : Nat) : manyL v n (i + 1) = manyL v n i ++ B.low (v[i]?.getD 0).toNat (pickF (n[i]?.getD 0) 65).toNat := by
  unfold manyL
  rw [List.range_succ, List.map_append, List.flatten_append]
  simp
theorem manyL_len (v n : List Int) (i : Nat) : (manyL v n i).length ≤ 64 * i := by
  induction i with
  | zero => simp [manyL]
  | succ i ih =>
    rw [manyL_succ, List.length_append, B.length_low]
    have := pickF_lt (n[i]?.getD 0) 65 (by omega)
    omega
theorem manyL_split (v n : List Int) (i m : Nat) (h : i < m) : ∃ r, manyL v n m = manyL v n i ++ B.low (v[i]?.getD 0).toNat (pickF (n[i]?.getD 0) 65).toNat ++ r := by
  induction m with
  | zero => omega
  | succ m ih =>
    by_cases e : i = m
    · subst e; exact ⟨[], by rw [manyL_succ, List.append_nil]⟩
    · obtain ⟨r, hr⟩ := ih (by omega)
      exact ⟨r ++ B.low (v[m]?.getD 0).toNat (pickF (n[m]?.getD 0) 65).toNat, by rw [manyL_succ, hr, List.append_assoc]⟩

set_option maxRecDepth 100000 in
set_option maxHeartbeats 1600000 in
theorem many_walk (w : World) (va na : Value) (v n : List Int) (hv : IsU64s w w.heap.size va v) (hn : IsInts w w.heap.size na n) (hvr : ∀ x ∈ v, 0 ≤ x ∧ x ≤ 18446744073709551615) (hnr : I64s n) :
    Calls Try.prog 6 #[va, na] w fun e w' => e = .returned (.bool true) ∧ Below w.heap.size w w' := by
  obtain ⟨A, cap, rfl, hcap, hmax⟩ := hn.shape
  have hv' := hv
  obtain ⟨hl1, A2, cap2, rfl, hcap2, hmax2, hmore⟩ := hv'
  clear hl1 hmore
  unfold maxLen at hmax hmax2
  have Ha := Lib.hid awake_any
  go_enter Try.func6, Try.ntmps6
  go_wp2_with fail
  refine (Ha.out _).mono ?_
  rintro e w1 ⟨rfl, hB1⟩
  have z1 := hB1.size
  go_wp2_with fail
  go_loopw [7] (fun i wr => ∃ j : Nat, j ≤ v.length ∧ j ≤ n.length ∧ j ≤ 12 ∧ i = .int .i64 j ∧ wr.heap[w1.heap.size]? = some (.cells #[.string (txt (manyL v n j)), .int .i64 ((manyL v n j).length : Nat)] 26 (0, 0)) ∧ Below w.heap.size w wr) (fun i _ => 12 - (intOf i).toNat)
  case atStart => exact ⟨0, by omega, by omega, by omega, rfl, heap_alloc_new w1 _, hB1.alloc z1 _⟩
  case round =>
    obtain ⟨j, hj1, hj2, hj3, rfl, hbx, hB⟩ := hrel
    have Hbx := Lib.hid hbx
    have q0 : wr.cell? ⟨w1.heap.size, 0, none⟩ = some (.string (txt (manyL v n j))) := cell_of_heap hbx 0
    have q1 : wr.cell? ⟨w1.heap.size, 1, none⟩ = some (.int .i64 ((manyL v n j).length : Nat)) := cell_of_heap hbx 1
    have qf := frozen_of_heap hbx
    have hxw := lt_of_heap hbx
    clear hbx
    by_cases hlt : j < v.length ∧ j < n.length ∧ j < 12
    · obtain ⟨h1, h2, h3⟩ := hlt
      obtain ⟨g, o, rfl, hg, hc⟩ := IsU64s.cellAt (Rd.below hv hB (Nat.le_refl _)) j h1
      obtain ⟨g2, o2, rfl, hg2, hc2⟩ := (hn.below hB (Nat.le_refl _)).at j h2
      have hxe : v[j]? = some (v[j]) := List.getElem?_eq_getElem h1
      have hye : n[j]? = some (n[j]) := List.getElem?_eq_getElem h2
      have hxr := hvr _ (List.getElem_mem h1)
      have hyr := hnr _ (List.getElem_mem h2)
      have hs := manyL_succ v n j
      have hll := manyL_len v n j
      rw [hxe] at hc hs
      rw [hye] at hc2 hs
      simp only [Option.getD_some] at hc hc2 hs
      generalize v[j] = x at *
      generalize n[j] = y at *
      obtain ⟨x, rfl⟩ := Int.eq_ofNat_of_zero_le hxr.1
      have hpk := pickF_lt y 65 (by omega)
      obtain ⟨k, hkk⟩ : ∃ k : Nat, pickF y 65 = (k : Int) := ⟨(pickF y 65).toNat, by omega⟩
      rw [hkk] at hs
      rw [Int.toNat_natCast, Int.toNat_natCast] at hs
      generalize manyL v n j = l at *
      generalize hr : manyL v n (j + 1) = r at *
      have k64 : k ≤ 64 := by omega
      have hx64 : x < 18446744073709551616 := by omega
      have hl64 : l.length < 1099511627776 := by omega
      have Hs := Lib.hid hs
      have Hkk := Lib.hid hkk
      have Hr := Lib.hid hr
      clear hs hkk hr hpk hxe hye hxr
      have hj0 : (j : Int) < v.length := by omega
      have hj00 : (j : Int) < n.length := by omega
      have i1 : IntKind.i64.wrap (j : Int) = j := IntWalk.i64_in _ (by omega)
      have n0 := World.new_ne wr _ q0
      have n1 := World.new_ne wr _ q1
      have n2 := World.new_ne wr _ hc
      have n3 := World.new_ne wr _ hc2
      have hgw : g < wr.heap.size := Nat.lt_of_lt_of_le hg hB.size
      have hgw2 : g2 < wr.heap.size := Nat.lt_of_lt_of_le hg2 hB.size
      go_upto_region 6 with (fail)
      go_cut [8, 9] from 17 to 49 (fun s8 s9 wx => ∃ b : Nat, s8 = .pointer (some ⟨b, 0, none⟩) ∧ s9 = .int .i64 0 ∧ wx.heap[b]? = some (.cells #[.string (txt r), .int .i64 (r.length : Nat)] 26 (0, 0)) ∧ wx.heap[w1.heap.size]? = some (.cells #[.string (txt l), .int .i64 (l.length : Nat)] 26 (0, 0)) ∧ Below w.heap.size w wx)
      case first =>
        go_region_held3 (fun w' => w'.cell? ⟨w1.heap.size, 0, none⟩ = some (.string (txt l)) ∧ w'.cell? ⟨w1.heap.size, 1, none⟩ = some (.int .i64 (l.length : Nat)) ∧ w'.cell? ⟨g, o + j, none⟩ = some (.int .u64 x) ∧ w'.cell? ⟨g2, o2 + j, none⟩ = some (.int .i64 y))
          (first
            | (refine ⟨?_, ?_, ?_, ?_⟩ <;> (repeat (first | assumption | (refine (World.cell?_alloc_lt _ _ _ ?_).trans ?_; (first | (simp; omega) | omega | (have hks := hB5.size; simp at hks ⊢; omega))) | (refine (hB5.cell ?_).trans ?_; (first | omega | (simp; try omega))))) <;> done)
            | go_keep)
          (first
            | (go_at_call 10; refine (pick_any y 65 _ hyr.1 hyr.2 (by omega) (by omega)).mono ?_; rintro e v5 ⟨rfl, rfl⟩; rw [Hkk.out])
            | (go_at_call 11; refine (put_is _ l x k r Hs.out.symm hl64 hx64 k64).mono ?_; rintro e w5 ⟨rfl, hB5⟩; have ks := hB5.size; (try simp at ks); have k1 : w1.heap.size < w5.heap.size := (by omega); have k2 : g < w5.heap.size := (by omega); have k3 : g2 < w5.heap.size := (by omega); clear ks; (try (have e0 : w5.cell? ⟨wr.heap.size, 0, none⟩ = some (.string ⟨#[]⟩) := (hB5.cell (p := ⟨wr.heap.size, 0, none⟩) (by simp; done)).trans (cell_of_heap (heap_alloc_new wr _) 0); have e1 : w5.cell? ⟨wr.heap.size, 1, none⟩ = some (.int .i64 0) := (hB5.cell (p := ⟨wr.heap.size, 1, none⟩) (by simp; done)).trans (cell_of_heap (heap_alloc_new wr _) 1); have ef : ∀ i, w5.frozen? ⟨wr.heap.size, i, none⟩ = false := fun i => (hB5.frozen (p := ⟨wr.heap.size, i, none⟩) (by simp; done)).trans (frozen_of_heap (heap_alloc_new wr _) i)))))
        all_goals
          go_wp2_with fail
          go_meet
          have hwr : w.heap.size ≤ wr.heap.size := hB.size
          have hw5 : wr.heap.size ≤ w5.heap.size := by have hks := hB5.size; simp at hks; omega
          have hBw5 : Below w.heap.size w w5 := by first | exact hB.drew.trans (hB5.mono hwr) | exact (hB.alloc hwr _).drew.trans (hB5.mono (Nat.le_trans hwr (by simp [World.drew])))
          have hold : w5.heap[w1.heap.size]? = some (.cells #[.string (txt l), .int .i64 (l.length : Nat)] 26 (0, 0)) := by
            first | exact (hB5.block _ hxw).trans Hbx.out | exact (hB5.block _ (Nat.lt_of_lt_of_le hxw (by simp [World.drew]))).trans (heap_up (w := wr) _ Hbx.out)
          first
            | exact ⟨w5.heap.size, rfl, rfl, heap_alloc_new w5 _, heap_up _ hold, hBw5.alloc (by omega) _⟩
            | (have hnew := (hB5.block wr.heap.size (by simp [World.drew]; done)).trans (heap_alloc_new wr _)
               have h := heap_set_ (heap_set_ hnew 0 (.string (txt r))) 1 (.int .i64 (r.length : Nat))
               refine ⟨wr.heap.size, rfl, rfl, by simpa using h, ?_, ?_⟩
               · exact ((Below.heap_setCell _ _ _ _ (by simp; omega)).trans (Below.heap_setCell _ _ _ _ (by simp; omega))).trans hold
               · exact (hBw5.setCell (p := ⟨wr.heap.size, 0, none⟩) hwr _).setCell (p := ⟨wr.heap.size, 1, none⟩) hwr _)
      case rest =>
        obtain ⟨b, rfl, rfl, hbb, hb1, hBx⟩ := hcut
        have p0 : wc.cell? ⟨b, 0, none⟩ = some (.string (txt r)) := cell_of_heap hbb 0
        have p1 : wc.cell? ⟨b, 1, none⟩ = some (.int .i64 (r.length : Nat)) := cell_of_heap hbb 1
        have p2 : wc.cell? ⟨w1.heap.size, 0, none⟩ = some (.string (txt l)) := cell_of_heap hb1 0
        have p3 : wc.cell? ⟨w1.heap.size, 1, none⟩ = some (.int .i64 (l.length : Nat)) := cell_of_heap hb1 1
        have pf := frozen_of_heap hb1
        have Hb1 := Lib.hid hb1
        clear hbb hb1 q0 q1 qf hc hc2 n0 n1 n2 n3
        go_wp2_with fail
        have s1 := heap_set_ (heap_set_ Hb1.out 0 (.string (txt r))) 1 (.int .i64 (r.length : Nat))
        go_roundw
        case rel => exact ⟨j + 1, by omega, by omega, by omega, by go_num, by rw [Hr.out]; simpa using s1, (hBx.setCell (p := ⟨w1.heap.size, 0, none⟩) z1 _).setCell (p := ⟨w1.heap.size, 1, none⟩) z1 _⟩
        case measure => simp [intOf]; omega
    · have hll := manyL_len v n j
      have hspl := fun i (hi : i < j) => manyL_split v n i j hi
      have hjm : j = min v.length (min n.length 12) := by omega
      generalize hl : manyL v n j = l at *
      have Hl := Lib.hid hl
      have Hspl := Lib.hid hspl
      have Hjm := Lib.hid hjm
      clear hl hspl hjm
      have h3 : (decide (j < v.length) = false) ∨ (j < v.length ∧ (12 : Int) ≤ j) ∨ (j < v.length ∧ (j : Int) < 12 ∧ decide (j < n.length) = false) := by
        by_cases a : j < v.length
        · by_cases b : j < 12
          · exact .inr (.inr ⟨a, by omega, decide_eq_false (fun c => hlt ⟨a, c, b⟩)⟩)
          · exact .inr (.inl ⟨a, by omega⟩)
        · exact .inl (decide_eq_false a)
      clear hlt
      rcases h3 with h3 | ⟨h3, h4⟩ | ⟨h3, h4, h5⟩
      all_goals
        go_wp2_with fail
        go_loop [10, 11] (fun at_ i => ∃ m : Nat, m ≤ j ∧ i = .int .i64 m ∧ at_ = .int .i64 ((manyL v n m).length : Nat)) (fun _ i => 12 - (intOf i).toNat)
        case atStart => exact ⟨0, by omega, rfl, rfl⟩
        case round =>
          obtain ⟨m, hm, rfl, rfl⟩ := hrel
          have hjm2 := Hjm.out
          by_cases hmj : m < j
          · have h1 : m < v.length := by omega
            have h2 : m < n.length := by omega
            have h3 : m < 12 := by omega
            clear hjm2
            obtain ⟨g, o, rfl, hg, hc⟩ := IsU64s.cellAt (Rd.below hv hB (Nat.le_refl _)) m h1
            obtain ⟨g2, o2, rfl, hg2, hc2⟩ := (hn.below hB (Nat.le_refl _)).at m h2
            have hxe : v[m]? = some (v[m]) := List.getElem?_eq_getElem h1
            have hye : n[m]? = some (n[m]) := List.getElem?_eq_getElem h2
            have hxr := hvr _ (List.getElem_mem h1)
            have hyr := hnr _ (List.getElem_mem h2)
            have hs := manyL_succ v n m
            obtain ⟨rr, hrr⟩ := Hspl.out m hmj
            rw [hxe] at hc hs hrr
            rw [hye] at hc2 hs hrr
            simp only [Option.getD_some] at hc hc2 hs hrr
            generalize v[m] = x at *
            generalize n[m] = y at *
            obtain ⟨x, rfl⟩ := Int.eq_ofNat_of_zero_le hxr.1
            have hpk := pickF_lt y 65 (by omega)
            obtain ⟨k, hkk⟩ : ∃ k : Nat, pickF y 65 = (k : Int) := ⟨(pickF y 65).toNat, by omega⟩
            rw [hkk] at hs hrr
            rw [Int.toNat_natCast, Int.toNat_natCast] at hs hrr
            have hx64 : x < 18446744073709551616 := by omega
            have k64 : k ≤ 64 := by omega
            have hlow := B.length_low x k
            have hml := manyL_len v n m
            have hs2 : (manyL v n (m + 1)).length = (manyL v n m).length + k := by rw [hs, List.length_append, hlow]
            have hget : (l.drop (manyL v n m).length).take k = B.low x k := by
              rw [hrr, List.append_assoc, List.drop_left, List.take_append_of_le_length (by omega), List.take_of_length_le (by omega)]
            have hle : (manyL v n m).length + k ≤ l.length := by rw [hrr]; simp [hlow]
            have hnum := B.num_low x k
            rw [← hget] at hnum
            generalize hq : (manyL v n m).length = q at *
            have Hs2 := Lib.hid hs2
            have Hkk := Lib.hid hkk
            have Hnum := Lib.hid hnum
            have Hq := Lib.hid hq
            have hm0 : (m : Int) < v.length := by omega
            have hm1 : (m : Int) < n.length := by omega
            clear hs hrr hlow hs2 hget hkk hq hnum hpk hxe hye hxr
            go_wp2_with fail
            refine (pick_any y 65 _ hyr.1 hyr.2 (by omega) (by omega)).mono ?_
            rintro e v5 ⟨rfl, rfl⟩
            rw [Hkk.out]
            go_wp2_with fail
            refine (get_ok _ l q k (by omega) hle k64).mono ?_
            rintro e v6 ⟨rfl, rfl⟩
            rw [Hnum.out]
            by_cases h64 : k < 64
            · have e1 := wrap_pow k h64
              have e2 := pow_ne k
              go_wp2
              go_round
              case rel => exact ⟨m + 1, by omega, by go_num, by rw [Hs2.out]; go_num⟩
              case measure => simp [intOf]; omega
            · obtain rfl : k = 64 := by omega
              rw [Nat.mod_eq_of_lt (by simpa using hx64)]
              go_wp2
              go_round
              case rel => exact ⟨m + 1, by omega, by go_num, by rw [Hs2.out]; go_num⟩
              case measure => simp [intOf]; omega
          · obtain rfl : m = j := by omega
            have hle : ¬ (m < v.length ∧ m < n.length ∧ m < 12) := by omega
            clear hjm2
            rw [Hl.out]
            go_wp2_with (go_at_call 13; refine (right_ok _ l (by omega)).mono ?_; rintro e w9 ⟨rfl, hB9⟩)
            all_goals
              go_ret
              exact ⟨rfl, hB.trans (hB9.mono hB.size)⟩
end Go.Proofs.Ytfieelanbcjcpaa
