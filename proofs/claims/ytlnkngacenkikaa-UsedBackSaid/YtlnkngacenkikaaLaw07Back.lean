/- UsedBack: the walk. -/
import Derived.Test.YtlnkngacenkikaaLaw07Long
import Derived.Test.YtlnkngacenkikaaUsedLaws
import Derived.Test.YtlnkngacenkikaaHeld
import Derived.Deep.RegionHeld3
import Derived.Deep.DeepCutAuto
namespace Go.Proofs.Ytlnkngacenkikaa
open Go.RowKit
set_option linter.unusedVariables false

set_option maxRecDepth 100000 in
set_option maxHeartbeats 6400000 in
theorem uback_walk (w : World) (s : ByteArray) (v1 v2 : Value) (one two : List Int) (cut : Int) (hv1 : IsInts w w.heap.size v1 one) (hr1 : I64s one) (hv2 : IsInts w w.heap.size v2 two) (hr2 : I64s two) (hc : -9223372036854775808 ≤ cut) (hc' : cut ≤ 9223372036854775807) :
    Calls Try.prog 4 #[.string s, v1, v2, .int .i64 cut] w fun e w' => e = .returned (.bool true) ∧ Below w.heap.size w w' := by
  have HR1 := Lib.hid hv1
  have HR2 := Lib.hid hv2
  obtain ⟨L, hL⟩ : ∃ L : Nat, L = min s.size 100 := ⟨_, rfl⟩
  have hL1 : (if (100 : Int) < s.size then 100 else (s.size : Int)) = L := by rw [hL]; split <;> omega
  have hL2 : L ≤ s.size := by omega
  have hL3 : L ≤ 100 := by omega
  have hfr := front_len s L hL2
  obtain ⟨y, hy⟩ : ∃ y, s.extract 0 L = y := ⟨_, rfl⟩
  rw [hy] at hfr
  have hys : y.size ≤ 100 := by omega
  have Hy := Lib.hid hy
  have ha30 := length_rawBits one 30
  have hb30 := length_rawBits two 30
  have hyl : y.data.toList.length = y.size := by simp
  have CA : Hid (∀ W, IsInts W W.heap.size v1 one → Calls Try.prog 10 #[v1, .int .i64 30] W fun e w' => e = .returned (.agg #[.string (txt (rawBits one 30)), .int .i64 ((rawBits one 30).length : Nat)]) ∧ Below W.heap.size W w') := fun W hv => lawBits_any W _ one 30 hv hr1 (by omega)
  have CB : Hid (∀ W, IsInts W W.heap.size v2 two → Calls Try.prog 10 #[v2, .int .i64 30] W fun e w' => e = .returned (.agg #[.string (txt (rawBits two 30)), .int .i64 ((rawBits two 30).length : Nat)]) ∧ Below W.heap.size W w') := fun W hv => lawBits_any W _ two 30 hv hr2 (by omega)
  generalize rawBits one 30 = A at *
  generalize rawBits two 30 = T at *
  have CM : Hid (∀ W, Calls Try.prog 7 #[.string y] W fun e w' => e = .returned (.agg #[.string (txt (mapL y.data.toList)), .int .i64 ((mapL y.data.toList).length : Nat)]) ∧ Below W.heap.size W w') := fun W => map_any W y (by omega)
  have CAl : Hid (∀ W, Calls Try.prog 9 #[.string y] W fun e w' => e = .returned (.string ⟨(alphaL y.data.toList).toArray⟩) ∧ Below W.heap.size W w') := fun W => alphabet_any W y (by omega)
  have hal := length_alphaL_256 y.data.toList
  have CN : Hid (∀ W, Calls Try.prog 7 #[.string ⟨(alphaL y.data.toList).toArray⟩] W fun e w' => e = .returned (.agg #[.string (txt (mapL y.data.toList)), .int .i64 ((mapL y.data.toList).length : Nat)]) ∧ Below W.heap.size W w') := fun W => by
    have := map_any W ⟨(alphaL y.data.toList).toArray⟩ (by show (alphaL y.data.toList).length ≤ _; omega)
    rw [show (⟨(alphaL y.data.toList).toArray⟩ : ByteArray).data.toList = alphaL y.data.toList from rfl, mapL_alphaL] at this
    exact this
  by_cases hy0 : y.size = 0
  · have hye : y = ⟨#[]⟩ := ByteArray.ext (Array.eq_empty_of_size_eq_zero hy0)
    have hem : (s.extract 0 L).toList.isEmpty = true := by rw [hy, hye, ByteArray.toList_eq]; rfl
    clear hv1 hv2 hr1 hr2 hL hy hfr ha30 hb30 hyl CA CB CM CAl CN hal hye hy0
    go_enter Try.func4, Try.ntmps4
    go_wp2_with fail
    refine (awake07_any _).mono ?_
    rintro e w1 ⟨rfl, hB⟩
    go_wp2_with fail
    go_ret
    exact ⟨rfl, hB⟩
  have hne : y.data.toList ≠ [] := fun e => hy0 (by rw [← hyl, e]; rfl)
  have hem : (s.extract 0 L).toList.isEmpty = false := by
    rw [hy, ByteArray.toList_eq]
    cases h : y.data.toList with
    | nil => exact absurd h hne
    | cons a b => rfl
  have hmle := length_mapL_le y.data.toList
  have hwithin := unmapR_within A T y.data.toList hne
  have hshort := unmapR_short y.data.toList
  have hwhole := unmapR_whole y.data.toList hne
  generalize mapL y.data.toList = Bl at *
  generalize alphaL y.data.toList = Al at *
  obtain ⟨D, hD⟩ : ∃ D, [A, Bl, T].flatten = D := ⟨_, rfl⟩
  have hDb : D.length ≤ 3000 := by rw [← hD]; simp; omega
  have hABl : A.length + Bl.length ≤ 3000 := by omega
  rw [hD] at hwithin
  obtain ⟨sz, hsz⟩ : ∃ sz, (txt Bl).size = sz := ⟨_, rfl⟩
  have hsz2 : (B.pack Bl).length = sz := hsz
  have hsz3 : sz ≤ 40 := by rw [← hsz2, B.length_pack]; omega
  have hpk := pickF_lt cut ((sz : Int) + 1) (by omega)
  obtain ⟨K, hK⟩ : ∃ K : Nat, pickF cut ((sz : Int) + 1) = (K : Int) := ⟨(pickF cut ((sz : Int) + 1)).toNat, by omega⟩
  have hKn : K ≤ sz := by omega
  obtain ⟨TA, hTA⟩ : ∃ TA : ByteArray, (⟨Al.toArray⟩ : ByteArray) = TA := ⟨_, rfl⟩
  have CT : Hid (∀ W, Calls Try.prog 12 #[.string (txt D), .int .i64 (A.length : Nat)] W fun e w' => e = .returned (.tuple #[.string TA, .int .i64 ((A.length + Bl.length : Nat)), .int .i64 0]) ∧ Below W.heap.size W w') := fun W => by
    rw [← hTA]
    exact unmap_is W (txt D) A.length Al _ (by rw [txt_size]; omega) (by omega) hwithin
  have CC : Hid (K < sz → ∀ W, Calls Try.prog 12 #[.string ((txt Bl).extract 0 K), .int .i64 0] W fun e w' => e = .returned (.tuple #[.string ⟨#[]⟩, .int .i64 0, .int .i64 2]) ∧ Below W.heap.size W w') := fun h W =>
    unmap_er W ((txt Bl).extract 0 K) 0 2 (by have := front_len (txt Bl) K (by omega); omega) (by omega) (by rw [extract_list]; exact hshort K (by omega))
  have CF : Hid (K = sz → ∀ W, Calls Try.prog 12 #[.string ((txt Bl).extract 0 K), .int .i64 0] W fun e w' => e = .returned (.tuple #[.string TA, .int .i64 (Bl.length : Nat), .int .i64 0]) ∧ Below W.heap.size W w') := fun h W => by
    rw [← hTA]
    exact unmap_is W ((txt Bl).extract 0 K) 0 Al _ (by have := front_len (txt Bl) K (by omega); omega) (by omega) (by rw [extract_list, List.take_of_length_le (by rw [txt_list]; omega)]; exact hwhole)
  rw [hTA] at CAl CN
  have CP : Hid (∀ W, Calls Try.prog 13 #[.int .i64 cut, .int .i64 (((txt Bl).size : Int) + 1)] W fun e w' => e = .returned (.int .i64 (K : Nat)) ∧ W = w') := fun W => by
    have := pick07_any cut ((sz : Int) + 1) W hc hc' (by omega) (by omega)
    rw [hK] at this
    rw [hsz]
    exact this
  have HK := Lib.hid hK
  have HD := Lib.hid hD
  have Hsz := Lib.hid hsz
  clear hv1 hv2 hr1 hr2 hL hy hfr ha30 hb30 hyl hal hy0 hne hmle hwithin hshort hwhole hD hsz hsz2 hpk hK hTA
  rw [← Hsz.out] at hsz3 hKn
  go_enter Try.func4, Try.ntmps4
  have E0 := Lib.hid (Env.nil w)
  go_wp2_with fail
  refine (awake07_any _).mono ?_
  rintro e w1 ⟨rfl, hB⟩
  have E1 := Lib.hid (E0.out.step hB)
  clear E0 hB  
  go_wp2_with fail
  rw [Hy.out]
  clear hL1 hL2 hL3
  go_wp2_with fail
  refine (CM.out _).mono ?_
  rintro e w2 ⟨rfl, hB⟩
  have E2 := Lib.hid (E1.out.step hB)
  clear E1 hB  
  have E3 := Lib.hid (E2.out.box #[.string (txt Bl), .int .i64 (Bl.length : Nat)] 25 (w2.heap.size) (by simp))
  clear E2 
  go_wp2_with fail
  refine (CA.out _ (E3.out.old HR1.out)).mono ?_
  rintro e w3 ⟨rfl, hB⟩
  have E4 := Lib.hid (E3.out.step hB)
  clear E3 hB  
  have E5 := Lib.hid (E4.out.box #[.string (txt A), .int .i64 (A.length : Nat)] 25 (w3.heap.size) (by simp))
  clear E4 
  clear CM CA
  go_upto_region 7 with fail
  obtain ⟨W, hW⟩ : ∃ W, w3.alloc (.cells #[.string (txt A), .int .i64 (A.length : Nat)] 25) = W := ⟨_, rfl⟩
  rw [hW] at E5 ⊢
  clear hW
  have HkW : Hid (∀ w' : World, Below W.heap.size W w' → Below W.heap.size W w' ∧ w'.cell? ⟨w3.heap.size, 0, none⟩ = some (.string (txt A)) ∧ w'.cell? ⟨w3.heap.size, 1, none⟩ = some (.int .i64 (A.length : Nat)) ∧ w'.cell? ⟨w2.heap.size, 0, none⟩ = some (.string (txt Bl)) ∧ w'.cell? ⟨w2.heap.size, 1, none⟩ = some (.int .i64 (Bl.length : Nat))) := fun w' h =>
    have hE := E5.out.step h
    ⟨h, hE.cellv 0 rfl 0 _ rfl, hE.cellv 0 rfl 1 _ rfl, hE.cellv 1 rfl 0 _ rfl, hE.cellv 1 rfl 1 _ rfl⟩
  have hbW : Below W.heap.size W W := Below.refl _ _
  obtain ⟨_, k00, k01, k10, k11⟩ := HkW.out W hbW
  go_cut [13, 14] (fun sa se wx => ∃ k : Nat, sa = .pointer (some ⟨k, 0, none⟩) ∧ se = .int .i64 0 ∧ Env w wx [] ((k, #[.string (txt D), .int .i64 (D.length : Nat)], 25) :: [(w3.heap.size, #[.string (txt A), .int .i64 (A.length : Nat)], 25), (w2.heap.size, #[.string (txt Bl), .int .i64 (Bl.length : Nat)], 25)]))
  case first =>
    go_region_held3 (fun w' => Below W.heap.size W w' ∧ w'.cell? ⟨w3.heap.size, 0, none⟩ = some (.string (txt A)) ∧ w'.cell? ⟨w3.heap.size, 1, none⟩ = some (.int .i64 (A.length : Nat)) ∧ w'.cell? ⟨w2.heap.size, 0, none⟩ = some (.string (txt Bl)) ∧ w'.cell? ⟨w2.heap.size, 1, none⟩ = some (.int .i64 (Bl.length : Nat)))
      ((refine HkW.out _ ?_; first | assumption | exact bel_drew (by assumption) | exact bel_alloc (And.left (by assumption)) _ | exact bel_drew (bel_alloc (by assumption) _) | exact bel_call (by assumption) (And.left (by assumption)) | exact bel_call (by assumption) (bel_alloc (And.left (by assumption)) _) | exact bel_alloc (by assumption) _ | exact bel_set (bel_set (by assumption) (by omega) _ _) (by omega) _ _))
      ((first
        | (go_at_call 10
           refine (CB.out _ ?_).mono ?_
           · exact ints_up (E5.out.old HR2.out) (And.left (by assumption))
           rintro e w8 ⟨rfl, hB8⟩
           have hW8 : Below W.heap.size W w8 := bel_call hB8 (And.left (by assumption))
           have hz8 := hW8.size
           try (have HC8 : w8.heap[W.heap.size]? = some (.cells #[.string ⟨#[]⟩, .int .i64 0] 25) := heap_call hB8 (heap_new W (.cells #[.string ⟨#[]⟩, .int .i64 0] 25) _ rfl)))
        | (go_at_call 11
           refine (cat_is _ _ [A, Bl, T] D HD.out ?_ (by simp; omega)).mono ?_
           · first
             | exact IsPairs.new _ _ (by simp) [pairOf A, pairOf Bl, pairOf T] _ rfl (by simp [maxLen])
             | exact pairs_alloc (IsPairs.new _ _ (by simp) [pairOf A, pairOf Bl, pairOf T] _ rfl (by simp [maxLen])) _
           rintro e w9 ⟨rfl, hB9⟩
           have hW9 : Below W.heap.size W w9 := bel_call hB9 (And.left (by assumption))
           have hz9 := hW9.size
           first
             | have HC9 : w9.heap[W.heap.size]? = some (.cells #[.string ⟨#[]⟩, .int .i64 0] 25) := heap_call hB9 (heap_up _ HC8)
             | have HC9 : w9.heap[w8.heap.size]? = some (.cells #[.string ⟨#[]⟩, .int .i64 0] 25) := heap_call hB9 (heap_up _ (heap_new w8 (.cells #[.string ⟨#[]⟩, .int .i64 0] 25) _ rfl))
             | have HC9 : w9.heap[w8.heap.size + 1]? = some (.cells #[.string ⟨#[]⟩, .int .i64 0] 25) := heap_call hB9 (heap_new1 w8 _ (.cells #[.string ⟨#[]⟩, .int .i64 0] 25))
             | skip
           try (have kc0 := cell_of_heap HC9 0; have kc1 := cell_of_heap HC9 1; have fc := frozen_of_heap HC9; have lc := lt_of_heap HC9))))
    all_goals
      go_wp2_with fail
      go_meet
      first
        | exact ⟨_, rfl, rfl, E5.out.fresh (bel_alloc hW9 _) (heap_new w9 _ _ rfl)⟩
        | exact ⟨_, rfl, rfl, E5.out.fresh (bel_set (bel_set hW9 (by omega) _ _) (by omega) _ _) (heap_set2 HC9 _ _)⟩
  case rest =>
    obtain ⟨k, rfl, rfl, hE⟩ := hcut
    have E6 := Lib.hid hE
    clear hE HkW hbW k00 k01 k10 k11 E5
    have k_all0 := E6.out.cellv 0 rfl 0 _ rfl
    have k_a1 := E6.out.cellv 1 rfl 1 _ rfl
    go_wp2_with fail
    refine (CT.out _).mono ?_
    rintro e w10 ⟨rfl, hB⟩
    have E7 := Lib.hid (E6.out.step hB)
    clear E6 hB  
    clear k_all0 k_a1
    clear CT
    go_wp2_with fail
    have HkW : Hid (∀ w' : World, Below w10.heap.size w10 w' → Below w10.heap.size w10 w' ∧ w'.cell? ⟨w2.heap.size, 0, none⟩ = some (.string (txt Bl))) := fun w' h =>
      have hE := E7.out.step h
      ⟨h, hE.cellv 2 rfl 0 _ rfl⟩
    have hbW : Below w10.heap.size w10 w10 := Below.refl _ _
    obtain ⟨_, k10⟩ := HkW.out w10 hbW
    have hKi : (K : Int) ≤ ((txt Bl).size : Int) := by omega
    have hszi : ((txt Bl).size : Int) ≤ 40 := by omega
    have Hszi := Lib.hid hszi
    have hwr : IntKind.i64.wrap (((txt Bl).size : Int) + 1) = ((txt Bl).size : Int) + 1 := IntWalk.i64_in _ (by omega)
    have hwr2 : IntKind.i64.wrap ((A.length : Int) + (Bl.length : Int)) = (A.length : Int) + (Bl.length : Int) := IntWalk.i64_in _ (by omega)
    rcases Nat.lt_or_ge K (txt Bl).size with hlt | hge
    · have hne : ((K : Int) == ((txt Bl).size : Int)) = false := by rw [beq_eq_false_iff_ne]; omega
      clear CF
      go_region_held3 (fun w' => Below w10.heap.size w10 w' ∧ w'.cell? ⟨w2.heap.size, 0, none⟩ = some (.string (txt Bl)))
        ((refine HkW.out _ ?_; first | assumption | exact bel_drew (by assumption) | exact bel_call (by assumption) (And.left (by assumption)) | exact bel_call (by assumption) (by assumption)))
        ((first
          | (go_at_call 13
             refine (CP.out _).mono ?_
             rintro e w_ ⟨rfl, rfl⟩)
          | (go_at_call 12
             refine (CC.out (by rw [← Hsz.out]; exact hlt) _).mono ?_
             rintro e w8 ⟨rfl, hB8⟩
             have hW8 : Below w10.heap.size w10 w8 := bel_call hB8 (And.left (by assumption)))))
      all_goals
        go_wp2_with fail
        have E8 := Lib.hid (E7.out.step hW8)
        clear HkW hbW k10
        have HkV : Hid (∀ w' : World, Below w8.heap.size w8 w' → Below w8.heap.size w8 w' ∧ w'.cell? ⟨w2.heap.size, 0, none⟩ = some (.string (txt Bl)) ∧ w'.cell? ⟨w2.heap.size, 1, none⟩ = some (.int .i64 (Bl.length : Nat)) ∧ w'.cell? ⟨w3.heap.size, 1, none⟩ = some (.int .i64 (A.length : Nat))) := fun w' h =>
          have hE := E8.out.step h
          ⟨h, hE.cellv 2 rfl 0 _ rfl, hE.cellv 2 rfl 1 _ rfl, hE.cellv 1 rfl 1 _ rfl⟩
        have hbV : Below w8.heap.size w8 w8 := Below.refl _ _
        obtain ⟨_, k10, k11, k01⟩ := HkV.out w8 hbV
        go_region_held3 (fun w' => Below w8.heap.size w8 w' ∧ w'.cell? ⟨w2.heap.size, 0, none⟩ = some (.string (txt Bl)) ∧ w'.cell? ⟨w2.heap.size, 1, none⟩ = some (.int .i64 (Bl.length : Nat)) ∧ w'.cell? ⟨w3.heap.size, 1, none⟩ = some (.int .i64 (A.length : Nat)))
          ((refine HkV.out _ ?_; first | assumption | exact bel_drew (by assumption) | exact bel_call (by assumption) (And.left (by assumption)) | exact bel_call (by assumption) (by assumption)))
          ((first
            | (go_at_call 13
               refine (CP.out _).mono ?_
               rintro e w_ ⟨rfl, rfl⟩)
            | (go_at_call 9
               refine (CAl.out _).mono ?_
               rintro e w9 ⟨rfl, hB9⟩
               have hW9 : Below w8.heap.size w8 w9 := bel_call hB9 (And.left (by assumption)))
            | (go_at_call 7
               refine (CN.out _).mono ?_
               rintro e w11 ⟨rfl, hB11⟩
               have hW11 : Below w8.heap.size w8 w11 := bel_call hB11 (And.left (by assumption)))))
        all_goals
          go_wp2_with fail
          go_ret
          exact ⟨rfl, (E8.out.step hW11).bel⟩
    · have hne : ((K : Int) == ((txt Bl).size : Int)) = true := by rw [beq_iff_eq]; omega
      clear CC
      go_region_held3 (fun w' => Below w10.heap.size w10 w' ∧ w'.cell? ⟨w2.heap.size, 0, none⟩ = some (.string (txt Bl)))
        ((refine HkW.out _ ?_; first | assumption | exact bel_drew (by assumption) | exact bel_call (by assumption) (And.left (by assumption)) | exact bel_call (by assumption) (by assumption)))
        ((first
          | (go_at_call 13
             refine (CP.out _).mono ?_
             rintro e w_ ⟨rfl, rfl⟩)
          | (go_at_call 12
             refine (CF.out (by rw [← Hsz.out]; omega) _).mono ?_
             rintro e w8 ⟨rfl, hB8⟩
             have hW8 : Below w10.heap.size w10 w8 := bel_call hB8 (And.left (by assumption)))))
      all_goals
        go_wp2_with fail
        have E8 := Lib.hid (E7.out.step hW8)
        clear HkW hbW k10
        have HkV : Hid (∀ w' : World, Below w8.heap.size w8 w' → Below w8.heap.size w8 w' ∧ w'.cell? ⟨w2.heap.size, 0, none⟩ = some (.string (txt Bl)) ∧ w'.cell? ⟨w2.heap.size, 1, none⟩ = some (.int .i64 (Bl.length : Nat)) ∧ w'.cell? ⟨w3.heap.size, 1, none⟩ = some (.int .i64 (A.length : Nat))) := fun w' h =>
          have hE := E8.out.step h
          ⟨h, hE.cellv 2 rfl 0 _ rfl, hE.cellv 2 rfl 1 _ rfl, hE.cellv 1 rfl 1 _ rfl⟩
        have hbV : Below w8.heap.size w8 w8 := Below.refl _ _
        obtain ⟨_, k10, k11, k01⟩ := HkV.out w8 hbV
        refine wp_region_noPanic ?_
        refine wp_region_held_drew (S := (fun w' => Below w8.heap.size w8 w' ∧ w'.cell? ⟨w2.heap.size, 0, none⟩ = some (.string (txt Bl)) ∧ w'.cell? ⟨w2.heap.size, 1, none⟩ = some (.int .i64 (Bl.length : Nat)) ∧ w'.cell? ⟨w3.heap.size, 1, none⟩ = some (.int .i64 (A.length : Nat)))) (by kernel_rfl) ?_ (fun hHeld => ?_)
        · (refine HkV.out _ ?_; first | assumption | exact bel_drew (by assumption) | exact bel_call (by assumption) (And.left (by assumption)) | exact bel_call (by assumption) (by assumption))
        refine held_yes (v := ?_) 0 (by simp only [List.getElem?_toArray, List.getElem?_cons_zero]; rfl) (by kernel_rfl) (fun _ _ _ h => h) (by rfl) (by assumption) ?_ ?_
        rotate_left
        · (intro w hSw; (try dsimp only at hSw); go_simp; try with_reducible rfl)
        try simp only [Act.put, List.setIfInBounds_toArray, List.set_cons_zero, List.set_cons_succ]
        refine held_yes (v := ?_) 1 (by simp only [List.getElem?_toArray, List.getElem?_cons_succ, List.getElem?_cons_zero]; rfl) (by kernel_rfl) (fun _ _ _ h => h) (by rfl) (by assumption) ?_ ?_
        rotate_left
        · (intro w hSw; (try dsimp only at hSw); go_simp; try with_reducible rfl)
        try simp only [Act.put, List.setIfInBounds_toArray, List.set_cons_zero, List.set_cons_succ]
        refine held_yes (v := ?_) 2 (by simp only [List.getElem?_toArray, List.getElem?_cons_succ, List.getElem?_cons_zero]; rfl) (by kernel_rfl) (fun _ _ _ h => h) (by rfl) (by assumption) ?_ ?_
        rotate_left
        · (intro w hSw; (try dsimp only at hSw); go_simp; try with_reducible rfl)
        try simp only [Act.put, List.setIfInBounds_toArray, List.set_cons_zero, List.set_cons_succ]
        refine held_yes (v := ?_) 3 (by simp only [List.getElem?_toArray, List.getElem?_cons_succ, List.getElem?_cons_zero]; rfl) (by kernel_rfl) (fun _ _ _ h => h) (by rfl) (by assumption) ?_ ?_
        rotate_left
        · (intro w hSw; (try dsimp only at hSw); go_simp; try with_reducible rfl)
        try simp only [Act.put, List.setIfInBounds_toArray, List.set_cons_zero, List.set_cons_succ]
        refine held_yes (v := ?_) 4 (by simp only [List.getElem?_toArray, List.getElem?_cons_succ, List.getElem?_cons_zero]; rfl) (by kernel_rfl) (fun _ _ _ h => h) (by rfl) (by assumption) ?_ ?_
        rotate_left
        · (intro w hSw; (try dsimp only at hSw); go_simp; try with_reducible rfl)
        try simp only [Act.put, List.setIfInBounds_toArray, List.set_cons_zero, List.set_cons_succ]
        refine held_yes (v := ?_) 5 (by simp only [List.getElem?_toArray, List.getElem?_cons_succ, List.getElem?_cons_zero]; rfl) (by kernel_rfl) (fun _ _ _ h => h) (by rfl) (by assumption) ?_ ?_
        rotate_left
        · (intro w hSw; (try dsimp only at hSw); go_simp; try with_reducible rfl)
        try simp only [Act.put, List.setIfInBounds_toArray, List.set_cons_zero, List.set_cons_succ]
        refine held_yes (v := ?_) 6 (by simp only [List.getElem?_toArray, List.getElem?_cons_succ, List.getElem?_cons_zero]; rfl) (by kernel_rfl) (fun _ _ _ h => h) (by rfl) (by assumption) ?_ ?_
        rotate_left
        · (intro w hSw; (try dsimp only at hSw); go_simp; try with_reducible rfl)
        try simp only [Act.put, List.setIfInBounds_toArray, List.set_cons_zero, List.set_cons_succ]
        refine held_yes (v := ?_) 7 (by simp only [List.getElem?_toArray, List.getElem?_cons_succ, List.getElem?_cons_zero]; rfl) (by kernel_rfl) (fun _ _ _ h => h) (by rfl) (by assumption) ?_ ?_
        rotate_left
        · (intro w hSw; (try dsimp only at hSw); go_simp; try with_reducible rfl)
        try simp only [Act.put, List.setIfInBounds_toArray, List.set_cons_zero, List.set_cons_succ]
        refine held_yes (v := ?_) 8 (by simp only [List.getElem?_toArray, List.getElem?_cons_succ, List.getElem?_cons_zero]; rfl) (by kernel_rfl) (fun _ _ _ h => h) (by rfl) (by assumption) ?_ ?_
        rotate_left
        · (intro w hSw; (try dsimp only at hSw); go_simp; try with_reducible rfl)
        try simp only [Act.put, List.setIfInBounds_toArray, List.set_cons_zero, List.set_cons_succ]
        refine held_yes (v := ?_) 9 (by simp only [List.getElem?_toArray, List.getElem?_cons_succ, List.getElem?_cons_zero]; rfl) (by kernel_rfl) (fun _ _ _ h => h) (by rfl) (by assumption) ?_ ?_
        rotate_left
        · (intro w hSw; (try dsimp only at hSw); go_simp; try with_reducible rfl)
        try simp only [Act.put, List.setIfInBounds_toArray, List.set_cons_zero, List.set_cons_succ]
        refine held_yes (v := ?_) 10 (by simp only [List.getElem?_toArray, List.getElem?_cons_succ, List.getElem?_cons_zero]; rfl) (by kernel_rfl) (fun _ _ _ h => h) (by rfl) (by assumption) ?_ ?_
        rotate_left
        · (intro w hSw; (try dsimp only at hSw); go_simp; try with_reducible rfl)
        try simp only [Act.put, List.setIfInBounds_toArray, List.set_cons_zero, List.set_cons_succ]
        refine held_yes (v := ?_) 11 (by simp only [List.getElem?_toArray, List.getElem?_cons_succ, List.getElem?_cons_zero]; rfl) (by kernel_rfl) (fun _ _ _ h => h) (by rfl) (by assumption) ?_ ?_
        rotate_left
        · (intro w hSw; (try dsimp only at hSw); go_simp; try with_reducible rfl)
        try simp only [Act.put, List.setIfInBounds_toArray, List.set_cons_zero, List.set_cons_succ]
        refine held_one 12 (by simp only [List.getElem?_toArray, List.getElem?_cons_succ, List.getElem?_cons_zero]; rfl) (by kernel_rfl) (by rfl) (fun K hK => ?_)
        go_simp
        refine (CAl.out _).mono ?_
        rintro e w9 ⟨rfl, hB9⟩
        go_wp2_with fail
        refine hK.out _ _ ?_ (fun hHeld => ?_)
        · (refine HkV.out _ ?_; first | assumption | exact bel_drew (by assumption) | exact bel_call (by assumption) (And.left (by assumption)) | exact bel_call (by assumption) (by assumption))
        clear hK K
        try simp only [Act.put, List.setIfInBounds_toArray, List.set_cons_zero, List.set_cons_succ]
        refine held_yes (v := ?_) 13 (by simp only [List.getElem?_toArray, List.getElem?_cons_succ, List.getElem?_cons_zero]; rfl) (by kernel_rfl) (fun _ _ _ h => h) (by rfl) (by assumption) ?_ ?_
        rotate_left
        · (intro w hSw; (try dsimp only at hSw); go_simp; try with_reducible rfl)
        try simp only [Act.put, List.setIfInBounds_toArray, List.set_cons_zero, List.set_cons_succ]
        refine held_yes (v := ?_) 14 (by simp only [List.getElem?_toArray, List.getElem?_cons_succ, List.getElem?_cons_zero]; rfl) (by kernel_rfl) (fun _ _ _ h => h) (by rfl) (by assumption) ?_ ?_
        rotate_left
        · (intro w hSw; (try dsimp only at hSw); go_simp; try with_reducible rfl)
        try simp only [Act.put, List.setIfInBounds_toArray, List.set_cons_zero, List.set_cons_succ]
        refine held_yes (v := ?_) 15 (by simp only [List.getElem?_toArray, List.getElem?_cons_succ, List.getElem?_cons_zero]; rfl) (by kernel_rfl) (fun _ _ _ h => h) (by rfl) (by assumption) ?_ ?_
        rotate_left
        · (intro w hSw; (try dsimp only at hSw); go_simp; try with_reducible rfl)
        try simp only [Act.put, List.setIfInBounds_toArray, List.set_cons_zero, List.set_cons_succ]
        refine held_yes (v := ?_) 16 (by simp only [List.getElem?_toArray, List.getElem?_cons_succ, List.getElem?_cons_zero]; rfl) (by kernel_rfl) (fun _ _ _ h => h) (by rfl) (by assumption) ?_ ?_
        rotate_left
        · (intro w hSw; (try dsimp only at hSw); go_simp; try with_reducible rfl)
        try simp only [Act.put, List.setIfInBounds_toArray, List.set_cons_zero, List.set_cons_succ]
        refine held_yes (v := ?_) 17 (by simp only [List.getElem?_toArray, List.getElem?_cons_succ, List.getElem?_cons_zero]; rfl) (by kernel_rfl) (fun _ _ _ h => h) (by rfl) (by assumption) ?_ ?_
        rotate_left
        · (intro w hSw; (try dsimp only at hSw); go_simp; try with_reducible rfl)
        try simp only [Act.put, List.setIfInBounds_toArray, List.set_cons_zero, List.set_cons_succ]
        refine held_yes (v := ?_) 18 (by simp only [List.getElem?_toArray, List.getElem?_cons_succ, List.getElem?_cons_zero]; rfl) (by kernel_rfl) (fun _ _ _ h => h) (by rfl) (by assumption) ?_ ?_
        rotate_left
        · (intro w hSw; (try dsimp only at hSw); go_simp; try with_reducible rfl)
        try simp only [Act.put, List.setIfInBounds_toArray, List.set_cons_zero, List.set_cons_succ]
        refine held_yes (v := ?_) 19 (by simp only [List.getElem?_toArray, List.getElem?_cons_succ, List.getElem?_cons_zero]; rfl) (by kernel_rfl) (fun _ _ _ h => h) (by rfl) (by assumption) ?_ ?_
        rotate_left
        · (intro w hSw; (try dsimp only at hSw); go_simp; try with_reducible rfl)
        try simp only [Act.put, List.setIfInBounds_toArray, List.set_cons_zero, List.set_cons_succ]
        refine held_yes (v := ?_) 20 (by simp only [List.getElem?_toArray, List.getElem?_cons_succ, List.getElem?_cons_zero]; rfl) (by kernel_rfl) (fun _ _ _ h => h) (by rfl) (by assumption) ?_ ?_
        rotate_left
        · (intro w hSw; (try dsimp only at hSw); go_simp; try with_reducible rfl)
        try simp only [Act.put, List.setIfInBounds_toArray, List.set_cons_zero, List.set_cons_succ]
        refine held_yes (v := ?_) 21 (by simp only [List.getElem?_toArray, List.getElem?_cons_succ, List.getElem?_cons_zero]; rfl) (by kernel_rfl) (fun _ _ _ h => h) (by rfl) (by assumption) ?_ ?_
        rotate_left
        · (intro w hSw; (try dsimp only at hSw); go_simp; try with_reducible rfl)
        try simp only [Act.put, List.setIfInBounds_toArray, List.set_cons_zero, List.set_cons_succ]
        refine held_yes (v := ?_) 22 (by simp only [List.getElem?_toArray, List.getElem?_cons_succ, List.getElem?_cons_zero]; rfl) (by kernel_rfl) (fun _ _ _ h => h) (by rfl) (by assumption) ?_ ?_
        rotate_left
        · (intro w hSw; (try dsimp only at hSw); go_simp; try with_reducible rfl)
        try simp only [Act.put, List.setIfInBounds_toArray, List.set_cons_zero, List.set_cons_succ]
        refine held_yes (v := ?_) 23 (by simp only [List.getElem?_toArray, List.getElem?_cons_succ, List.getElem?_cons_zero]; rfl) (by kernel_rfl) (fun _ _ _ h => h) (by rfl) (by assumption) ?_ ?_
        rotate_left
        · (intro w hSw; (try dsimp only at hSw); go_simp; try with_reducible rfl)
        try simp only [Act.put, List.setIfInBounds_toArray, List.set_cons_zero, List.set_cons_succ]
        refine held_yes (v := ?_) 24 (by simp only [List.getElem?_toArray, List.getElem?_cons_succ, List.getElem?_cons_zero]; rfl) (by kernel_rfl) (fun _ _ _ h => h) (by rfl) (by assumption) ?_ ?_
        rotate_left
        · (intro w hSw; (try dsimp only at hSw); go_simp; try with_reducible rfl)
        try simp only [Act.put, List.setIfInBounds_toArray, List.set_cons_zero, List.set_cons_succ]
        refine held_yes (v := ?_) 25 (by simp only [List.getElem?_toArray, List.getElem?_cons_succ, List.getElem?_cons_zero]; rfl) (by kernel_rfl) (fun _ _ _ h => h) (by rfl) (by assumption) ?_ ?_
        rotate_left
        · (intro w hSw; (try dsimp only at hSw); go_simp; try with_reducible rfl)
        try simp only [Act.put, List.setIfInBounds_toArray, List.set_cons_zero, List.set_cons_succ]
        refine held_yes (v := ?_) 26 (by simp only [List.getElem?_toArray, List.getElem?_cons_succ, List.getElem?_cons_zero]; rfl) (by kernel_rfl) (fun _ _ _ h => h) (by rfl) (by assumption) ?_ ?_
        rotate_left
        · (intro w hSw; (try dsimp only at hSw); go_simp; try with_reducible rfl)
        try simp only [Act.put, List.setIfInBounds_toArray, List.set_cons_zero, List.set_cons_succ]
        refine held_yes (v := ?_) 27 (by simp only [List.getElem?_toArray, List.getElem?_cons_succ, List.getElem?_cons_zero]; rfl) (by kernel_rfl) (fun _ _ _ h => h) (by rfl) (by assumption) ?_ ?_
        rotate_left
        · (intro w hSw; (try dsimp only at hSw); go_simp; try with_reducible rfl)
        try simp only [Act.put, List.setIfInBounds_toArray, List.set_cons_zero, List.set_cons_succ]
        refine held_yes (v := ?_) 28 (by simp only [List.getElem?_toArray, List.getElem?_cons_succ, List.getElem?_cons_zero]; rfl) (by kernel_rfl) (fun _ _ _ h => h) (by rfl) (by assumption) ?_ ?_
        rotate_left
        · (intro w hSw; (try dsimp only at hSw); go_simp; try with_reducible rfl)
        try simp only [Act.put, List.setIfInBounds_toArray, List.set_cons_zero, List.set_cons_succ]
        refine held_yes (v := ?_) 29 (by simp only [List.getElem?_toArray, List.getElem?_cons_succ, List.getElem?_cons_zero]; rfl) (by kernel_rfl) (fun _ _ _ h => h) (by rfl) (by assumption) ?_ ?_
        rotate_left
        · (intro w hSw; (try dsimp only at hSw); go_simp; try with_reducible rfl)
        try simp only [Act.put, List.setIfInBounds_toArray, List.set_cons_zero, List.set_cons_succ]
        refine held_yes (v := ?_) 30 (by simp only [List.getElem?_toArray, List.getElem?_cons_succ, List.getElem?_cons_zero]; rfl) (by kernel_rfl) (fun _ _ _ h => h) (by rfl) (by assumption) ?_ ?_
        rotate_left
        · (intro w hSw; (try dsimp only at hSw); go_simp; try with_reducible rfl)
        try simp only [Act.put, List.setIfInBounds_toArray, List.set_cons_zero, List.set_cons_succ]
        refine held_yes (v := ?_) 31 (by simp only [List.getElem?_toArray, List.getElem?_cons_succ, List.getElem?_cons_zero]; rfl) (by kernel_rfl) (fun _ _ _ h => h) (by rfl) (by assumption) ?_ ?_
        rotate_left
        · (intro w hSw; (try dsimp only at hSw); go_simp; try with_reducible rfl)
        try simp only [Act.put, List.setIfInBounds_toArray, List.set_cons_zero, List.set_cons_succ]
        refine held_yes (v := ?_) 33 (by simp only [List.getElem?_toArray, List.getElem?_cons_succ, List.getElem?_cons_zero]; rfl) (by kernel_rfl) (fun _ _ _ h => h) (by rfl) (by assumption) ?_ ?_
        rotate_left
        · (intro w hSw; (try dsimp only at hSw); go_simp; try with_reducible rfl)
        try simp only [Act.put, List.setIfInBounds_toArray, List.set_cons_zero, List.set_cons_succ]
        refine held_yes (v := ?_) 34 (by simp only [List.getElem?_toArray, List.getElem?_cons_succ, List.getElem?_cons_zero]; rfl) (by kernel_rfl) (fun _ _ _ h => h) (by rfl) (by assumption) ?_ ?_
        rotate_left
        · (intro w hSw; (try dsimp only at hSw); go_simp; try with_reducible rfl)
        try simp only [Act.put, List.setIfInBounds_toArray, List.set_cons_zero, List.set_cons_succ]
        refine held_yes (v := ?_) 35 (by simp only [List.getElem?_toArray, List.getElem?_cons_succ, List.getElem?_cons_zero]; rfl) (by kernel_rfl) (fun _ _ _ h => h) (by rfl) (by assumption) ?_ ?_
        rotate_left
        · (intro w hSw; (try dsimp only at hSw); go_simp; try with_reducible rfl)
        try simp only [Act.put, List.setIfInBounds_toArray, List.set_cons_zero, List.set_cons_succ]
        refine held_one 32 (by simp only [List.getElem?_toArray, List.getElem?_cons_succ, List.getElem?_cons_zero]; rfl) (by kernel_rfl) (by rfl) (fun K hK => ?_)
        go_simp
        refine (CP.out _).mono ?_
        rintro e w_ ⟨rfl, rfl⟩
        go_wp2_with fail
        refine hK.out _ _ ?_ (fun hHeld => ?_)
        · (refine HkV.out _ ?_; first | assumption | exact bel_drew (by assumption) | exact bel_call (by assumption) (And.left (by assumption)) | exact bel_call (by assumption) (by assumption))
        clear hK K
        try simp only [Act.put, List.setIfInBounds_toArray, List.set_cons_zero, List.set_cons_succ]
        refine held_yes (v := ?_) 36 (by simp only [List.getElem?_toArray, List.getElem?_cons_succ, List.getElem?_cons_zero]; rfl) (by kernel_rfl) (fun _ _ _ h => h) (by rfl) (by assumption) ?_ ?_
        rotate_left
        · (intro w hSw; (try dsimp only at hSw); go_simp; try with_reducible rfl)
        try simp only [Act.put, List.setIfInBounds_toArray, List.set_cons_zero, List.set_cons_succ]
        refine held_yes (v := ?_) 37 (by simp only [List.getElem?_toArray, List.getElem?_cons_succ, List.getElem?_cons_zero]; rfl) (by kernel_rfl) (fun _ _ _ h => h) (by rfl) (by assumption) ?_ ?_
        rotate_left
        · (intro w hSw; (try dsimp only at hSw); go_simp; try with_reducible rfl)
        try simp only [Act.put, List.setIfInBounds_toArray, List.set_cons_zero, List.set_cons_succ]
        refine held_yes (v := ?_) 38 (by simp only [List.getElem?_toArray, List.getElem?_cons_succ, List.getElem?_cons_zero]; rfl) (by kernel_rfl) (fun _ _ _ h => h) (by rfl) (by assumption) ?_ ?_
        rotate_left
        · (intro w hSw; (try dsimp only at hSw); go_simp; try with_reducible rfl)
        try simp only [Act.put, List.setIfInBounds_toArray, List.set_cons_zero, List.set_cons_succ]
        refine held_yes (v := ?_) 39 (by simp only [List.getElem?_toArray, List.getElem?_cons_succ, List.getElem?_cons_zero]; rfl) (by kernel_rfl) (fun _ _ _ h => h) (by rfl) (by assumption) ?_ ?_
        rotate_left
        · (intro w hSw; (try dsimp only at hSw); go_simp; try with_reducible rfl)
        try simp only [Act.put, List.setIfInBounds_toArray, List.set_cons_zero, List.set_cons_succ]
        refine held_yes (v := ?_) 40 (by simp only [List.getElem?_toArray, List.getElem?_cons_succ, List.getElem?_cons_zero]; rfl) (by kernel_rfl) (fun _ _ _ h => h) (by rfl) (by assumption) ?_ ?_
        rotate_left
        · (intro w hSw; (try dsimp only at hSw); go_simp; try with_reducible rfl)
        try simp only [Act.put, List.setIfInBounds_toArray, List.set_cons_zero, List.set_cons_succ]
        refine held_yes (v := ?_) 41 (by simp only [List.getElem?_toArray, List.getElem?_cons_succ, List.getElem?_cons_zero]; rfl) (by kernel_rfl) (fun _ _ _ h => h) (by rfl) (by assumption) ?_ ?_
        rotate_left
        · (intro w hSw; (try dsimp only at hSw); go_simp; try with_reducible rfl)
        try simp only [Act.put, List.setIfInBounds_toArray, List.set_cons_zero, List.set_cons_succ]
        refine held_yes (v := ?_) 42 (by simp only [List.getElem?_toArray, List.getElem?_cons_succ, List.getElem?_cons_zero]; rfl) (by kernel_rfl) (fun _ _ _ h => h) (by rfl) (by assumption) ?_ ?_
        rotate_left
        · (intro w hSw; (try dsimp only at hSw); go_simp; try with_reducible rfl)
        try simp only [Act.put, List.setIfInBounds_toArray, List.set_cons_zero, List.set_cons_succ]
        refine held_no 43 (by simp only [List.getElem?_toArray, List.getElem?_cons_succ, List.getElem?_cons_zero]; rfl) (by kernel_rfl) (fun _ _ _ h => h) (by rfl) (by assumption) ?_
        try simp only [Act.put, List.setIfInBounds_toArray, List.set_cons_zero, List.set_cons_succ]
        refine held_no 44 (by simp only [List.getElem?_toArray, List.getElem?_cons_succ, List.getElem?_cons_zero]; rfl) (by kernel_rfl) (fun _ _ _ h => h) (by rfl) (by assumption) ?_
        try simp only [Act.put, List.setIfInBounds_toArray, List.set_cons_zero, List.set_cons_succ]
        refine held_yes (v := ?_) 45 (by simp only [List.getElem?_toArray, List.getElem?_cons_succ, List.getElem?_cons_zero]; rfl) (by kernel_rfl) (fun _ _ _ h => h) (by rfl) (by assumption) ?_ ?_
        rotate_left
        · (intro w hSw; (try dsimp only at hSw); go_simp; try with_reducible rfl)
        try simp only [Act.put, List.setIfInBounds_toArray, List.set_cons_zero, List.set_cons_succ]
        refine held_yes (v := ?_) 46 (by simp only [List.getElem?_toArray, List.getElem?_cons_succ, List.getElem?_cons_zero]; rfl) (by kernel_rfl) (fun _ _ _ h => h) (by rfl) (by assumption) ?_ ?_
        rotate_left
        · (intro w hSw; (try dsimp only at hSw); go_simp; try with_reducible rfl)
        try simp only [Act.put, List.setIfInBounds_toArray, List.set_cons_zero, List.set_cons_succ]
        refine held_yes (v := ?_) 47 (by simp only [List.getElem?_toArray, List.getElem?_cons_succ, List.getElem?_cons_zero]; rfl) (by kernel_rfl) (fun _ _ _ h => h) (by rfl) (by assumption) ?_ ?_
        rotate_left
        · (intro w hSw; (try dsimp only at hSw); go_simp; try with_reducible rfl)
        try simp only [Act.put, List.setIfInBounds_toArray, List.set_cons_zero, List.set_cons_succ]
        refine held_yes (v := ?_) 48 (by simp only [List.getElem?_toArray, List.getElem?_cons_succ, List.getElem?_cons_zero]; rfl) (by kernel_rfl) (fun _ _ _ h => h) (by rfl) (by assumption) ?_ ?_
        rotate_left
        · (intro w hSw; (try dsimp only at hSw); go_simp; try with_reducible rfl)
        try simp only [Act.put, List.setIfInBounds_toArray, List.set_cons_zero, List.set_cons_succ]
        refine held_yes (v := ?_) 50 (by simp only [List.getElem?_toArray, List.getElem?_cons_succ, List.getElem?_cons_zero]; rfl) (by kernel_rfl) (fun _ _ _ h => h) (by rfl) (by assumption) ?_ ?_
        rotate_left
        · (intro w hSw; (try dsimp only at hSw); go_simp; try with_reducible rfl)
        try simp only [Act.put, List.setIfInBounds_toArray, List.set_cons_zero, List.set_cons_succ]
        refine held_one 49 (by simp only [List.getElem?_toArray, List.getElem?_cons_succ, List.getElem?_cons_zero]; rfl) (by kernel_rfl) (by rfl) (fun K hK => ?_)
        go_simp
        refine (CN.out _).mono ?_
        rintro e w11 ⟨rfl, hB11⟩
        go_wp2_with fail
        refine hK.out _ _ ?_ (fun hHeld => ?_)
        · (refine HkV.out _ ?_; first | assumption | exact bel_drew (by assumption) | exact bel_call (by assumption) (And.left (by assumption)) | exact bel_call (by assumption) (by assumption))
        clear hK K
        try simp only [Act.put, List.setIfInBounds_toArray, List.set_cons_zero, List.set_cons_succ]
        refine held_yes (v := ?_) 51 (by simp only [List.getElem?_toArray, List.getElem?_cons_succ, List.getElem?_cons_zero]; rfl) (by kernel_rfl) (fun _ _ _ h => h) (by rfl) (by assumption) ?_ ?_
        rotate_left
        · (intro w hSw; (try dsimp only at hSw); go_simp; try with_reducible rfl)
        try simp only [Act.put, List.setIfInBounds_toArray, List.set_cons_zero, List.set_cons_succ]
        refine held_yes (v := ?_) 52 (by simp only [List.getElem?_toArray, List.getElem?_cons_succ, List.getElem?_cons_zero]; rfl) (by kernel_rfl) (fun _ _ _ h => h) (by rfl) (by assumption) ?_ ?_
        rotate_left
        · (intro w hSw; (try dsimp only at hSw); go_simp; try with_reducible rfl)
        try simp only [Act.put, List.setIfInBounds_toArray, List.set_cons_zero, List.set_cons_succ]
        refine held_yes (v := ?_) 53 (by simp only [List.getElem?_toArray, List.getElem?_cons_succ, List.getElem?_cons_zero]; rfl) (by kernel_rfl) (fun _ _ _ h => h) (by rfl) (by assumption) ?_ ?_
        rotate_left
        · (intro w hSw; (try dsimp only at hSw); go_simp; try with_reducible rfl)
        try simp only [Act.put, List.setIfInBounds_toArray, List.set_cons_zero, List.set_cons_succ]
        refine wpAnyH_done (by kernel_rfl) ?_ _
        refine NoPanic.normal ?_
        all_goals
          go_wp2_with fail
          go_ret
          exact ⟨rfl, (E8.out.step hHeld.1).bel⟩
end Go.Proofs.Ytlnkngacenkikaa
