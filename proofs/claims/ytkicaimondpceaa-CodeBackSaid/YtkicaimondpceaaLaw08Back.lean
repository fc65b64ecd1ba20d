/- CodeBack: the walk. -/
import Derived.Test.YtkicaimondpceaaCodeHelp
import Derived.Deep.RegionHeld3
import Derived.Deep.DeepCutAuto
namespace Go.Proofs.Ytkicaimondpceaa
open Go.RowKit
set_option linter.unusedVariables false

theorem stands_in {l : List Nat} (hl : Code l) (P R : List Bool) (s n : Nat) (hs : l[s]? = some n) : StandsAt l (B.pack (P ++ wordB l s ++ R)) (P.length : Nat) s n := by
  have hw : (wordB l s).length = n := by rw [length_wordB, hs]; rfl
  have h8 := len8_pack (P ++ wordB l s ++ R)
  simp only [List.length_append] at h8
  refine ⟨hs, by omega, by omega, ?_⟩
  rw [Int.toNat_natCast, B.slice_pack_at _ _ _ (by simp; omega), List.append_assoc, List.drop_left, ← hw, List.take_left]
  unfold wordB
  rw [B.num_low, hs]
  exact Nat.mod_eq_of_lt (wordV_lt hl hs)
theorem stands_put {l : List Nat} (hl : Code l) (A : List Bool) (m : List Nat) (T : List Bool) (i s n : Nat) (hm : m[i]? = some s) (hs : l[s]? = some n) :
    StandsAt l (B.pack [A, putB l m, T].flatten) ((A.length + (putB l (m.take i)).length : Nat) : Int) s n := by
  have e : [A, putB l m, T].flatten = (A ++ putB l (m.take i)) ++ wordB l s ++ (putB l (m.drop (i + 1)) ++ T) := by
    have : putB l m = putB l (m.take i) ++ wordB l s ++ putB l (m.drop (i + 1)) := by rw [← putB_take l m i s hm, putB_cut]
    rw [this]
    simp
  have := stands_in hl (A ++ putB l (m.take i)) (putB l (m.drop (i + 1)) ++ T) s n hs
  rw [e, ← List.length_append]
  exact this

set_option maxRecDepth 100000 in
set_option maxHeartbeats 6400000 in
theorem cback_walk (w : World) (v v2 v3 v4 : Value) (raw symbols one two : List Int) (hv : IsInts w w.heap.size v raw) (hr : I64s raw) (hv2 : IsInts w w.heap.size v2 symbols) (hr2 : I64s symbols) (hv3 : IsInts w w.heap.size v3 one) (hr3 : I64s one) (hv4 : IsInts w w.heap.size v4 two) (hr4 : I64s two) :
    Calls Try.prog 4 #[v, v2, v3, v4] w fun e w' => e = .returned (.bool true) ∧ Below w.heap.size w w' := by
  have HRW := Lib.hid hv
  have HSW := Lib.hid hv2
  have HR1 := Lib.hid hv3
  have HT2 := Lib.hid hv4
  have HR := Lib.hid hr
  have HR2 := Lib.hid hr2
  have ha30 := length_rawBits one 30
  have hb30 := length_rawBits two 30
  have CA : Hid (∀ W, IsInts W W.heap.size v3 one → Calls Try.prog 22 #[v3, .int .i64 30] W fun e w' => e = .returned (.agg #[.string (txt (rawBits one 30)), .int .i64 ((rawBits one 30).length : Nat)]) ∧ Below W.heap.size W w') := fun W hv => lawBits_any W _ one 30 hv hr3 (by omega)
  have CB : Hid (∀ W, IsInts W W.heap.size v4 two → Calls Try.prog 22 #[v4, .int .i64 30] W fun e w' => e = .returned (.agg #[.string (txt (rawBits two 30)), .int .i64 ((rawBits two 30).length : Nat)]) ∧ Below W.heap.size W w') := fun W hv => lawBits_any W _ two 30 hv hr4 (by omega)
  generalize rawBits one 30 = A at *
  generalize rawBits two 30 = T at *
  clear hv hv2 hv3 hv4 hr hr2 hr3 hr4
  go_enter Try.func4, Try.ntmps4
  have E0 := Lib.hid (Env.nil w)
  go_wp2_with fail
  refine (awake08_any _).mono ?_
  rintro e w1 ⟨rfl, hB⟩
  have E1 := Lib.hid (E0.out.step hB)
  clear E0 hB  
  go_wp2_with fail
  refine (lens08_is _ _ raw 60 (E1.out.old HRW.out) HR.out (by omega) (by omega)).mono ?_
  rintro e w2 ⟨l, q1, c1, rfl, hv, hcode, hl60, hB⟩
  have E2 := Lib.hid ((E1.out.step hB).add hv)
  clear E1 hB hv
  obtain ⟨n, hn⟩ : ∃ n, l.length = n := ⟨_, rfl⟩
  have HN := Lib.hid hn
  have Hcode := Lib.hid hcode
  have hn2 := hcode.two
  rw [hn] at E2 hl60 hn2 ⊢
  clear hn hcode
  have hlt := symsF_lt symbols n 40 (by omega)
  have hl40 := symsF_len symbols n 40
  have CS : Hid (∀ W (u : Value), IsInts W W.heap.size u symbols → Calls Try.prog 17 #[u, .int .i64 (n : Nat), .int .i64 40] W fun e w' => ∃ q c, e = .returned (.slice q (symsF symbols n 40).length c) ∧ IsInts w' w'.heap.size (.slice q (symsF symbols n 40).length c) (ints (symsF symbols n 40)) ∧ Below W.heap.size W w') := fun W u h => syms_is W u symbols n 40 h HR2.out (by omega) (by omega) (by omega)
  generalize symsF symbols n 40 = m at *
  obtain ⟨M, hM⟩ : ∃ M, m.length = M := ⟨_, rfl⟩
  rw [hM] at CS hl40
  have HM := Lib.hid hM
  have Hlt := Lib.hid hlt
  clear hM hlt
  go_wp2_with fail
  refine (CS.out _ _ (E2.out.old HSW.out)).mono ?_
  rintro e w3 ⟨q2, c2, rfl, hv, hB⟩
  have E3 := Lib.hid ((E2.out.step hB).add hv)
  clear E2 hB hv CS
  have hlp := length_putB_le Hcode.out.fits m
  rw [HM.out] at hlp
  have CPa := Lib.hid (fun W u v h1 h2 => cput_nat W u v l m _ rfl h1 Hcode.out h2 (by rw [HM.out]; omega) (fun x hx => by rw [HN.out]; exact Hlt.out x hx))
  obtain ⟨D, hD⟩ : ∃ D, [A, putB l m, T].flatten = D := ⟨_, rfl⟩
  have hDb : D.length ≤ 3000 := by rw [← hD]; simp; omega
  have CT : Hid (∀ W (u : Value) (i s t : Nat), IsInts W W.heap.size u (ints l) → m[i]? = some s → l[s]? = some t → Calls Try.prog 20 #[u, .string (txt D), .int .i64 ((A.length + (putB l (m.take i)).length : Nat) : Int)] W fun e w' => e = .returned (.tuple #[.int .i64 (s : Nat), .int .i64 (((A.length + (putB l (m.take i)).length : Nat) : Int) + (t : Int)), .int .i64 0]) ∧ Below W.heap.size W w') := fun W u i s t h1 h2 h3 => by
    refine take8_is W u l (txt D) _ h1 Hcode.out (by rw [txt_size]; omega) ((s : Int), ((A.length + (putB l (m.take i)).length : Nat) : Int) + (t : Int), 0) ?_
    rw [txt_list, ← hD, takeF_word Hcode.out _ _ s t (stands_put Hcode.out A m T i s t h2 h3)]
    rfl
  have Hend : Hid (putB l (m.take M) = putB l m) := by rw [← HM.out, List.take_length]; exact rfl
  have Hput : Hid (∀ i, (putB l (m.take i)).length ≤ 800) := fun i => by
    have := length_putB_take l m Hcode.out.fits i
    rw [HM.out] at this
    omega
  generalize hP : putB l m = Bl at *
  have HD := Lib.hid hD
  clear hP hD
  go_wp2_with fail
  refine (CPa.out _ _ _ (E3.out.get 1 rfl) (E3.out.get 0 rfl)).mono ?_
  rintro e w4 ⟨rfl, hB⟩
  have E4 := Lib.hid (E3.out.step hB)
  clear E3 hB  CPa
  have E5 := Lib.hid (E4.out.box #[.string (txt Bl), .int .i64 (Bl.length : Nat)] 37 (w4.heap.size) (by simp))
  clear E4 
  go_wp2_with fail
  refine (CA.out _ (E5.out.old HR1.out)).mono ?_
  rintro e w5 ⟨rfl, hB⟩
  have E6 := Lib.hid (E5.out.step hB)
  clear E5 hB  CA
  have E7 := Lib.hid (E6.out.box #[.string (txt A), .int .i64 (A.length : Nat)] 37 (w5.heap.size) (by simp))
  clear E6 
  go_upto_region 6 with fail
  obtain ⟨W, hW⟩ : ∃ W, w5.alloc (.cells #[.string (txt A), .int .i64 (A.length : Nat)] 37) = W := ⟨_, rfl⟩
  rw [hW] at E7 ⊢
  clear hW
  have HkW : Hid (∀ w' : World, Below W.heap.size W w' → Below W.heap.size W w' ∧ w'.cell? ⟨w5.heap.size, 0, none⟩ = some (.string (txt A)) ∧ w'.cell? ⟨w5.heap.size, 1, none⟩ = some (.int .i64 (A.length : Nat)) ∧ w'.cell? ⟨w4.heap.size, 0, none⟩ = some (.string (txt Bl)) ∧ w'.cell? ⟨w4.heap.size, 1, none⟩ = some (.int .i64 (Bl.length : Nat))) := fun w' h =>
    have hE := E7.out.step h
    ⟨h, hE.cellv 0 rfl 0 _ rfl, hE.cellv 0 rfl 1 _ rfl, hE.cellv 1 rfl 0 _ rfl, hE.cellv 1 rfl 1 _ rfl⟩
  have hbW : Below W.heap.size W W := Below.refl _ _
  obtain ⟨_, k00, k01, k10, k11⟩ := HkW.out W hbW
  go_cut [15, 16] (fun sa se wx => ∃ k : Nat, sa = .pointer (some ⟨k, 0, none⟩) ∧ se = .int .i64 0 ∧ Env w wx [(.slice q2 M c2, ints m), (.slice q1 n c1, ints l)] ((k, #[.string (txt D), .int .i64 (D.length : Nat)], 37) :: [(w5.heap.size, #[.string (txt A), .int .i64 (A.length : Nat)], 37), (w4.heap.size, #[.string (txt Bl), .int .i64 (Bl.length : Nat)], 37)]))
  case first =>
    go_region_held3 (fun w' => Below W.heap.size W w' ∧ w'.cell? ⟨w5.heap.size, 0, none⟩ = some (.string (txt A)) ∧ w'.cell? ⟨w5.heap.size, 1, none⟩ = some (.int .i64 (A.length : Nat)) ∧ w'.cell? ⟨w4.heap.size, 0, none⟩ = some (.string (txt Bl)) ∧ w'.cell? ⟨w4.heap.size, 1, none⟩ = some (.int .i64 (Bl.length : Nat)))
      ((refine HkW.out _ ?_; first | assumption | exact bel_drew (by assumption) | exact bel_alloc (And.left (by assumption)) _ | exact bel_drew (bel_alloc (by assumption) _) | exact bel_call (by assumption) (And.left (by assumption)) | exact bel_call (by assumption) (bel_alloc (And.left (by assumption)) _) | exact bel_alloc (by assumption) _ | exact bel_set (bel_set (by assumption) (by omega) _ _) (by omega) _ _))
      ((first
        | (go_at_call 22
           refine (CB.out _ ?_).mono ?_
           · exact ints_up (E7.out.old HT2.out) (And.left (by assumption))
           rintro e w8 ⟨rfl, hB8⟩
           have hW8 : Below W.heap.size W w8 := bel_call hB8 (And.left (by assumption))
           have hz8 := hW8.size
           try (have HC8 : w8.heap[W.heap.size]? = some (.cells #[.string ⟨#[]⟩, .int .i64 0] 37) := heap_call hB8 (heap_new W (.cells #[.string ⟨#[]⟩, .int .i64 0] 37) _ rfl)))
        | (go_at_call 23
           refine (cat_is _ _ [A, Bl, T] D HD.out ?_ (by simp; omega)).mono ?_
           · first
             | exact IsPairs.new _ _ (by simp) [pairOf A, pairOf Bl, pairOf T] _ rfl (by simp [maxLen])
             | exact pairs_alloc (IsPairs.new _ _ (by simp) [pairOf A, pairOf Bl, pairOf T] _ rfl (by simp [maxLen])) _
           rintro e w9 ⟨rfl, hB9⟩
           have hW9 : Below W.heap.size W w9 := bel_call hB9 (And.left (by assumption))
           have hz9 := hW9.size
           first
             | have HC9 : w9.heap[W.heap.size]? = some (.cells #[.string ⟨#[]⟩, .int .i64 0] 37) := heap_call hB9 (heap_up _ HC8)
             | have HC9 : w9.heap[w8.heap.size]? = some (.cells #[.string ⟨#[]⟩, .int .i64 0] 37) := heap_call hB9 (heap_up _ (heap_new w8 (.cells #[.string ⟨#[]⟩, .int .i64 0] 37) _ rfl))
             | have HC9 : w9.heap[w8.heap.size + 1]? = some (.cells #[.string ⟨#[]⟩, .int .i64 0] 37) := heap_call hB9 (heap_new1 w8 _ (.cells #[.string ⟨#[]⟩, .int .i64 0] 37))
             | skip
           try (have kc0 := cell_of_heap HC9 0; have kc1 := cell_of_heap HC9 1; have fc := frozen_of_heap HC9; have lc := lt_of_heap HC9))))
    all_goals
      go_wp2_with fail
      go_meet
      first
        | exact ⟨_, rfl, rfl, E7.out.fresh (bel_alloc hW9 _) (heap_new w9 _ _ rfl)⟩
        | exact ⟨_, rfl, rfl, E7.out.fresh (bel_set (bel_set hW9 (by omega) _ _) (by omega) _ _) (heap_set2 HC9 _ _)⟩
  case rest =>
    obtain ⟨k, rfl, rfl, hE⟩ := hcut
    have E8 := Lib.hid hE
    clear hE HkW hbW k00 k01 k10 k11 E7
    have k_a1 := E8.out.cellv 1 rfl 1 _ rfl
    go_wp2_with fail
    go_loopw [17, 18] (fun av iv wr => ∃ i : Nat, i ≤ M ∧ iv = .int .i64 i ∧ av = .int .i64 ((A.length + (putB l (m.take i)).length : Nat) : Int) ∧ Env w wr [(.slice q2 M c2, ints m), (.slice q1 n c1, ints l)] [(k, #[.string (txt D), .int .i64 (D.length : Nat)], 37), (w5.heap.size, #[.string (txt A), .int .i64 (A.length : Nat)], 37), (w4.heap.size, #[.string (txt Bl), .int .i64 (Bl.length : Nat)], 37)]) (fun _ iv _ => M + 1 - (intOf iv).toNat)
    case atStart => exact ⟨0, Nat.zero_le _, rfl, rfl, E8.out⟩
    case round =>
      obtain ⟨i, hi, rfl, rfl, hE⟩ := hrel
      have EE := Lib.hid hE
      clear hE
      by_cases hit : i < M
      · obtain ⟨s, hs⟩ : ∃ s, m[i]? = some s := ⟨_, List.getElem?_eq_getElem (by rw [HM.out]; exact hit)⟩
        have hsn := Hlt.out s (List.mem_of_getElem? hs)
        obtain ⟨t, ht⟩ : ∃ t, l[s]? = some t := ⟨_, List.getElem?_eq_getElem (by rw [HN.out]; exact hsn)⟩
        have ht20 := Hcode.out.fits t (List.mem_of_getElem? ht)
        have Hnx := Lib.hid (putB_take_len l m i s t hs ht)
        have hle := Hput.out i
        have CT1 := Lib.hid (fun W u h => CT.out W u i s t h hs ht)
        have Hs := Lib.hid hs
        have Ht := Lib.hid ht
        obtain ⟨z, hz⟩ : ∃ z, A.length + (putB l (m.take i)).length = z := ⟨_, rfl⟩
        have hz2 : A.length + (putB l (m.take (i + 1))).length = z + t := by rw [Hnx.out]; omega
        rw [hz] at CT1 ⊢
        have Hz2 := Lib.hid hz2
        have hw : IntKind.i64.wrap ((z : Int) + (t : Int)) = (z : Int) + (t : Int) := IntWalk.i64_in _ (by omega)
        have k_all0 := EE.out.cellv 0 rfl 0 _ rfl
        clear hs ht hz hz2
        go_wp2_with fail
        refine (CT1.out _ _ (EE.out.get 1 rfl)).mono ?_
        rintro e w6 ⟨rfl, hB⟩
        have E2 := Lib.hid (EE.out.step hB)
        clear hB k_all0 CT1
        obtain ⟨g1, o1, rfl, hg1, hx1⟩ := (E2.out.get 0 rfl).at i (by rw [length_ints, HM.out]; exact hit)
        rw [show (ints m)[i]?.getD 0 = (s : Int) by simp [ints, Hs.out]] at hx1
        obtain ⟨g2, o2, rfl, hg2, hx2⟩ := (E2.out.get 1 rfl).at s (by rw [length_ints, HN.out]; exact hsn)
        rw [show (ints l)[s]?.getD 0 = (t : Int) by simp [ints, Ht.out]] at hx2
        go_wp2_with fail
        go_roundw
        case rel => exact ⟨i + 1, by omega, by go_num, by rw [Hz2.out]; go_num, E2.out⟩
        case measure => simp [intOf]; omega
      · obtain rfl : i = M := by omega
        rw [Hend.out]
        have k_a1 := EE.out.cellv 1 rfl 1 _ rfl
        have k_b1 := EE.out.cellv 2 rfl 1 _ rfl
        have hw : IntKind.i64.wrap ((A.length : Int) + (Bl.length : Int)) = ((A.length + Bl.length : Nat) : Int) := by rw [IntWalk.i64_in _ (by omega)]; push_cast; rfl
        go_wp2
        go_ret
        exact ⟨by rfl, EE.out.bel⟩
end Go.Proofs.Ytkicaimondpceaa
