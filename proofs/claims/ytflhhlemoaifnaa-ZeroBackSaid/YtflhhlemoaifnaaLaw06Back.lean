/- ZeroBack: the walk. -/
import Derived.Test.YtflhhlemoaifnaaLaw06Parts
import Derived.Test.YtflhhlemoaifnaaZeroPlain2
import Derived.Deep.RegionHeld3
namespace Go.Proofs.Ytflhhlemoaifnaa
open Go.RowKit
set_option linter.unusedVariables false

theorem dec_ok (W : World) (v : Value) (m : List Int) (most : Int) (hx : ∀ x ∈ m, 0 ≤ x ∧ x ≤ 9223372036854775807) (hlen : m.length ≤ 1099511627776) (hm0 : -9223372036854775808 ≤ most) (hm : most ≤ 1099511627776) (hv : IsInts W W.heap.size v m) :
    Calls Try.prog 19 #[v, .int .i64 most] W fun e w' => ∃ q c, e = .returned (.tuple #[.slice q (if most < (dec m).length then ([] : List Int) else dec m).length c, .int .i64 (if most < (dec m).length then 4 else 0)]) ∧ IsInts w' w'.heap.size (.slice q (if most < (dec m).length then ([] : List Int) else dec m).length c) (if most < (dec m).length then [] else dec m) ∧ Below W.heap.size W w' := by
  have hneg : negF m = false := by
    unfold negF
    rw [List.any_eq_false]
    intro x hxm
    have := hx x hxm
    simp; omega
  refine (decode_any W v m most hv hlen (fun x hxm => by have := hx x hxm; omega) hm0 hm).mono ?_
  rintro e w' ⟨u, rfl, ho, hB⟩
  obtain ⟨q, c, rfl⟩ := ho.shape
  simp only [decE, decV, hneg] at ho ⊢
  exact ⟨q, c, rfl, ho.is, hB⟩

set_option maxRecDepth 100000 in
set_option maxHeartbeats 3200000 in
theorem zback_walk (w : World) (v : Value) (raw : List Int) (run : Int) (hr : IsInts w w.heap.size v raw) (hrb : I64s raw) (h0 : -9223372036854775808 ≤ run) (h1 : run ≤ 9223372036854775807) :
    Calls Try.prog 4 #[v, .int .i64 run] w fun e w' => e = .returned (.bool true) ∧ Below w.heap.size w w' := by
  have HR := Lib.hid hr
  have hmf := hmf
  obtain ⟨A0, ca0, rfl, hc1, hc2⟩ := hr.shape
  have hp := pickF_lt run 300 (by omega)
  obtain ⟨r, hpr⟩ : ∃ k : Nat, pickF run 300 = (k : Int) := ⟨(pickF run 300).toNat, by omega⟩
  have hr1 : r < 300 := by omega
  have Hp := Lib.hid hpr
  have hfl := fewF_len raw 200 4
  have hfm := fewF_mem (raw := raw) (most := 200) (below := 4) (by omega)
  have CF : Hid (∀ W, IsInts W W.heap.size (.slice A0 raw.length ca0) raw → Calls Try.prog 13 #[.slice A0 raw.length ca0, .int .i64 200, .int .i64 4] W fun e w' => ∃ u, e = .returned u ∧ IsInts w' w'.heap.size u (fewF raw 200 4) ∧ Below W.heap.size W w') := fun W hv =>
    (few06_any W _ raw 200 4 hv hrb (by omega) (by omega) (by omega)).mono fun _ _ ⟨u, h1, h2, h3⟩ => ⟨u, h1, h2.is, h3⟩
  generalize fewF raw 200 4 = d at *
  obtain ⟨cs, hcs, hmk⟩ := run_make_ints r (by omega)
  have Hcs := Lib.hid hcs
  obtain ⟨ls, hls⟩ : ∃ ls, List.replicate r (0 : Int) ++ d = ls := ⟨_, rfl⟩
  have hlm : ∀ x ∈ ls, 0 ≤ x ∧ x < 4 := fun x hx => by
    rw [← hls] at hx
    rcases List.mem_append.1 hx with h | h
    · have := (List.mem_replicate.1 h).2; omega
    · exact hfm x h
  have hll : r + d.length = ls.length := by rw [← hls]; simp
  have Hls := Lib.hid hls
  have Hll := Lib.hid hll
  have hl5 : ls.length ≤ 500 := by omega
  have hde := dec_enc ls fun x hx => (hlm x hx).1
  have hM : ∀ x ∈ enc ls, 0 ≤ x ∧ x ≤ 9 := mem_encA ls (fun y => 0 ≤ y ∧ y ≤ 9) (by omega) (by omega) (fun x hx _ => by have := hlm x hx; omega) 0
  have hMl := enc_len ls
  have C1 : Hid (∀ (v : Value) W, IsInts W W.heap.size v ls → Calls Try.prog 14 #[v] W fun e w' => ∃ q c, e = .returned (.tuple #[.slice q (enc ls).length c, .int .i64 0]) ∧ IsInts w' w'.heap.size (.slice q (enc ls).length c) (enc ls) ∧ Below W.heap.size W w') := fun v W hv => enc_ok W v ls (enc ls) rfl (fun x hx => by have := hlm x hx; omega) (by omega) hv
  have C2 : Hid (∀ (v : Value) W, IsInts W W.heap.size v (enc ls) → Calls Try.prog 19 #[v, .int .i64 (ls.length : Nat)] W fun e w' => ∃ q c, e = .returned (.tuple #[.slice q ls.length c, .int .i64 0]) ∧ IsInts w' w'.heap.size (.slice q ls.length c) ls ∧ Below W.heap.size W w') := fun v W hv => by
    have := dec_ok W v (enc ls) (ls.length : Nat) (fun x hx => by have := hM x hx; omega) (by omega) (by omega) (by omega) hv
    rw [hde, if_neg (by omega), if_neg (by omega)] at this
    exact this
  have C3 : Hid (∀ (v : Value) W, IsInts W W.heap.size v (enc ls) → Calls Try.prog 19 #[v, .int .i64 ((ls.length : Int) - 1)] W fun e w' => ∃ u, e = .returned (.tuple #[u, .int .i64 4]) ∧ Below W.heap.size W w') := fun v W hv => by
    have := dec_ok W v (enc ls) ((ls.length : Int) - 1) (fun x hx => by have := hM x hx; omega) (by omega) (by omega) (by omega) hv
    rw [hde, if_pos (by omega), if_pos (by omega)] at this
    exact this.mono fun _ _ ⟨q, c, h1, _, h3⟩ => ⟨_, h1, h3⟩
  have hdl : (enc ls).length ≤ 281474976710656 := by omega
  generalize enc ls = M at *
  have hed := enc_dec d fun x hx => (hfm x hx).1
  have hU : ∀ x ∈ dec d, 0 ≤ x ∧ x ≤ 1099511627776 := mem_decA d (fun y => 0 ≤ y ∧ y ≤ 1099511627776) (by omega) (fun x hx _ => by have := hfm x hx; omega) []
  have C4 : Hid (∀ (v : Value) W, IsInts W W.heap.size v d → Calls Try.prog 19 #[v, .int .i64 5000] W fun e w' => ∃ q c, e = .returned (.tuple #[.slice q (if (5000 : Int) < (dec d).length then ([] : List Int) else dec d).length c, .int .i64 (if (5000 : Int) < (dec d).length then 4 else 0)]) ∧ IsInts w' w'.heap.size (.slice q (if (5000 : Int) < (dec d).length then ([] : List Int) else dec d).length c) (if (5000 : Int) < (dec d).length then [] else dec d) ∧ Below W.heap.size W w') := fun v W hv =>
    dec_ok W v d 5000 (fun x hx => by have := hfm x hx; omega) (by omega) (by omega) (by omega) hv
  have C5 : Hid ((dec d).length ≤ 5000 → ∀ (v : Value) W, IsInts W W.heap.size v (dec d) → Calls Try.prog 14 #[v] W fun e w' => ∃ q c, e = .returned (.tuple #[.slice q d.length c, .int .i64 0]) ∧ IsInts w' w'.heap.size (.slice q d.length c) d ∧ Below W.heap.size W w') := fun h v W hv => enc_ok W v (dec d) d hed hU (by omega) hv
  generalize dec d = U at *
  clear hp hpr hfm hls hll hlm hde hM hMl hed hU hrb hr hcs
  go_enter Try.func4, Try.ntmps4
  have L0 := Lib.hid (Live.nil w)
  go_wp2_with fail
  refine (awake06_any _).mono ?_
  rintro e w1 ⟨rfl, hB⟩
  have L1 := Lib.hid (L0.out.step hB)
  clear L0 hB 
  go_wp2_with fail
  have hsz : ∀ cs : Array Value, (w1.alloc (.cells cs 3)).drew.heap.size = w1.heap.size + 1 := fun cs => by simp
  have hsd : w1.drew.heap.size = w1.heap.size := rfl
  have Hsz := Lib.hid hsz
  have Hsd := Lib.hid hsd
  clear hsz hsd
  go_region_held3 (fun _ => True) (trivial)
    ((first
      | (refine step_append_ints (by rfl) _ _ (by rfl) w1.heap.size _ (List.replicate r 0) (by rfl) (HmA.out.below hBf) _ _ d (by rfl) hvd (by simp; omega) (show w1.heap.size ≤ wf.heap.size by have := hBf.size; rw [Hsz.out] at this; omega) ?_
         intro q c w2 hown hg hat
         have hz : w1.heap.size ≤ wf.heap.size := by have := hBf.size; rw [Hsz.out] at this; omega
         have hB : Below w1.heap.size w1 w2 := (((Below.refl w1.heap.size w1).alloc (Nat.le_refl _) _).drew.trans (hBf.mono (show w1.heap.size ≤ _ by rw [Hsz.out]; omega))).grown hg hz (fun k hk => own_ge (HmA.out.below hBf) hk)
         have e7 : (List.replicate r (0 : Int)).length + d.length = ls.length := by rw [List.length_replicate]; exact Hll.out
         have hv := hown.is
         rw [e7, Hls.out] at hv
         rw [e7]
         have L2 := Lib.hid ((L1.out.step hB).add hv)
         clear hown hg hat hB hv e7 hz HmA hBf hvd)
      | (refine step_append_ints (by rfl) _ _ (by rfl) w1.heap.size _ (List.replicate r 0) (by rfl) (OwnInts.new wf w1.heap.size _ cs _ _ rfl List.length_replicate.symm Hcs.out (by simp [maxLen]; omega) (show w1.heap.size ≤ wf.heap.size by have := hBf.size; rw [Hsd.out] at this; exact this)) _ _ d (by rfl) (hvd.below ((Below.refl _ _).alloc (Nat.le_refl _) _) (Nat.le_refl _)) (by simp; omega) (show w1.heap.size ≤ _ by have := hBf.size; rw [Hsd.out] at this; simp; omega) ?_
         intro q c w2 hown hg hat
         have hz : w1.heap.size ≤ wf.heap.size := by have := hBf.size; rw [Hsd.out] at this; exact this
         have hB : Below w1.heap.size w1 w2 := (((Below.refl w1.heap.size w1).drew.trans hBf).alloc hz _).grown hg (by simp; omega) (fun k hk => own_ge (OwnInts.new wf w1.heap.size _ cs _ _ rfl List.length_replicate.symm Hcs.out (by simp [maxLen]; omega) hz) hk)
         have e7 : (List.replicate r (0 : Int)).length + d.length = ls.length := by rw [List.length_replicate]; exact Hll.out
         have hv := hown.is
         rw [e7, Hls.out] at hv
         rw [e7]
         have L2 := Lib.hid ((L1.out.step hB).add hv)
         clear hown hg hat hB hv e7 hz HmA hBf hvd)
      | (go_at_call 18
         refine (pick06_any run 300 _ h0 h1 (by omega) (by omega)).mono ?_
         rintro e w_ ⟨rfl, rfl⟩
         rw [Hp.out])
      | (go_at_call 13
         have HmA := Lib.hid (show OwnInts (w1.alloc (.cells cs 3)).drew w1.heap.size (.slice (some ⟨w1.heap.size, 0, none⟩) r r) (List.replicate r 0) from OwnInts.new w1 w1.heap.size (List.replicate r 0) cs _ _ rfl List.length_replicate.symm Hcs.out (by simp [maxLen]; omega) (Nat.le_refl _))
         refine (CF.out _ (by first | exact (L1.out.alloc _).drew.old HR.out | exact L1.out.drew.old HR.out)).mono ?_
         rintro e wf ⟨vd, rfl, hvd, hBf⟩)))
  all_goals clear hmk
  all_goals
    go_wp2_with fail
    refine (C1.out _ _ (L2.out.get 0 rfl)).mono ?_
    rintro e w3 ⟨q3, c3, rfl, hv, hB⟩
    have L3 := Lib.hid ((L2.out.step hB).add hv)
    clear L2 hB hv 
    go_wp2_with fail
    refine (C2.out _ _ (L3.out.get 0 rfl)).mono ?_
    rintro e w4 ⟨q4, c4, rfl, hv, hB⟩
    have L4 := Lib.hid ((L3.out.step hB).add hv)
    clear L3 hB hv 
    go_wp2_with fail
    refine (C3.out _ _ (L4.out.get 1 rfl)).mono ?_
    rintro e w5 ⟨u5, rfl, hB⟩
    have L5 := Lib.hid (L4.out.step hB)
    clear L4 hB 
    go_wp2_with fail
    refine (aw_ints _ _ _ ls (L5.out.get 0 rfl) (L5.out.get 2 rfl) (by omega)).mono ?_
    rintro e w6 ⟨rfl, hB⟩
    have L6 := Lib.hid (L5.out.step hB)
    clear L5 hB 
    go_wp2_with fail
    refine (CF.out _ (L6.out.old HR.out)).mono ?_
    rintro e w7 ⟨vd, rfl, hv, hB⟩
    obtain ⟨qd, cd, rfl⟩ : ∃ q c, vd = .slice q d.length c := by obtain ⟨q, c, h, _⟩ := hv.shape; exact ⟨q, c, h⟩
    have L7 := Lib.hid ((L6.out.step hB).add hv)
    clear L6 hB hv 
    by_cases hbig : (5000 : Int) < U.length
    · simp only [if_pos hbig] at C4
      go_wp2_with fail
      refine (C4.out _ _ (L7.out.get 0 rfl)).mono ?_
      rintro e w8 ⟨q8, c8, rfl, hv, hB⟩
      have L8 := Lib.hid (L7.out.step hB)
      clear L7 hB hv
      go_wp2
      go_ret
      exact ⟨rfl, L8.out.bel⟩
    · simp only [if_neg hbig] at C4
      have C5' := Lib.hid (C5.out (by omega))
      clear hbig
      go_wp2_with fail
      refine (C4.out _ _ (L7.out.get 0 rfl)).mono ?_
      rintro e w8 ⟨q8, c8, rfl, hv, hB⟩
      have L8 := Lib.hid ((L7.out.step hB).add hv)
      clear L7 hB hv
      go_wp2_with fail
      refine (C5'.out _ _ (L8.out.get 0 rfl)).mono ?_
      rintro e w9 ⟨q9, c9, rfl, hv, hB⟩
      have L9 := Lib.hid ((L8.out.step hB).add hv)
      clear L8 hB hv
      go_wp2_with fail
      refine (aw_ints _ _ _ d (L9.out.get 0 rfl) (L9.out.get 2 rfl) (by omega)).mono ?_
      rintro e w10 ⟨rfl, hB⟩
      have L10 := Lib.hid (L9.out.step hB)
      clear L9 hB
      go_wp2
      go_ret
      exact ⟨rfl, L10.out.bel⟩
end Go.Proofs.Ytflhhlemoaifnaa
