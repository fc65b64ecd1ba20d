/- CodeCat: the walk. -/
import Derived.Test.YtkicaimondpceaaCodeHelp
namespace Go.Proofs.Ytkicaimondpceaa
open Go.RowKit
set_option linter.unusedVariables false

set_option maxRecDepth 100000 in
set_option maxHeartbeats 6400000 in
theorem ccat_walk (w : World) (v v2 : Value) (raw symbols : List Int) (at0 : Int) (hv : IsInts w w.heap.size v raw) (hr : I64s raw) (hv2 : IsInts w w.heap.size v2 symbols) (hr2 : I64s symbols) (hat : -9223372036854775808 ≤ at0) (hat' : at0 ≤ 9223372036854775807) :
    Calls Try.prog 7 #[v, v2, .int .i64 at0] w fun e w' => e = .returned (.bool true) ∧ Below w.heap.size w w' := by
  have HRW := Lib.hid hv
  have HSW := Lib.hid hv2
  have HR := Lib.hid hr
  have HR2 := Lib.hid hr2
  clear hv hv2 hr hr2
  go_enter Try.func7, Try.ntmps7
  have E0 := Lib.hid (Env.nil w)
  go_wp2_with fail
  refine (awake08_any _).mono ?_
  rintro e w1 ⟨rfl, hB⟩
  have E1 := Lib.hid (E0.out.step hB)
  clear E0 hB  
  go_wp2_with fail
  refine (lens08_is _ _ raw 60 (E1.out.old HRW.out) HR.out (by omega) (by omega)).mono ?_
  rintro e w2 ⟨l, q1, c1, rfl, hv, hcode, hl60, hB⟩
  have E2 := Lib.hid ((E1.out.step hB).add hv)
  clear E1 hB hv
  obtain ⟨n, hn⟩ : ∃ n, l.length = n := ⟨_, rfl⟩
  have HN := Lib.hid hn
  have Hcode := Lib.hid hcode
  have hn2 := hcode.two
  rw [hn] at E2 hl60 hn2 ⊢
  clear hn hcode
  have hlt := symsF_lt symbols n 40 (by omega)
  have hl40 := symsF_len symbols n 40
  have CS : Hid (∀ W (u : Value), IsInts W W.heap.size u symbols → Calls Try.prog 17 #[u, .int .i64 (n : Nat), .int .i64 40] W fun e w' => ∃ q c, e = .returned (.slice q (symsF symbols n 40).length c) ∧ IsInts w' w'.heap.size (.slice q (symsF symbols n 40).length c) (ints (symsF symbols n 40)) ∧ Below W.heap.size W w') := fun W u h => syms_is W u symbols n 40 h HR2.out (by omega) (by omega) (by omega)
  generalize symsF symbols n 40 = m at *
  obtain ⟨M, hM⟩ : ∃ M, m.length = M := ⟨_, rfl⟩
  rw [hM] at CS hl40
  have HM := Lib.hid hM
  have Hlt := Lib.hid hlt
  clear hM hlt
  go_wp2_with fail
  refine (CS.out _ _ (E2.out.old HSW.out)).mono ?_
  rintro e w3 ⟨q2, c2, rfl, hv, hB⟩
  have E3 := Lib.hid ((E2.out.step hB).add hv)
  clear E2 hB hv CS
  have hpk := pickF_lt at0 ((M : Int) + 1) (by omega)
  obtain ⟨K, hK⟩ : ∃ K : Nat, pickF at0 ((M : Int) + 1) = (K : Int) := ⟨(pickF at0 ((M : Int) + 1)).toNat, by omega⟩
  have hKM : K ≤ M := by omega
  have HK := Lib.hid hK
  clear hpk hK
  go_wp2_with fail
  refine (pick08_any at0 _ _ hat hat' (by omega) (by omega)).mono ?_
  rintro e w_ ⟨rfl, rfl⟩
  rw [HK.out]
  have hcut := putB_cut l m K
  have hlp := length_putB_le Hcode.out.fits m
  rw [HM.out] at hlp
  have CPa := Lib.hid (fun W u v h1 h2 => cput_nat W u v l m _ rfl h1 Hcode.out h2 (by rw [HM.out]; omega) (fun x hx => by rw [HN.out]; exact Hlt.out x hx))
  have CPb := Lib.hid (fun W u v h1 h2 => cput_nat W u v l (m.take K) _ rfl h1 Hcode.out h2 (by simp; have := HM.out; omega) (fun x hx => by rw [HN.out]; exact Hlt.out x (List.mem_of_mem_take hx)))
  have CPc := Lib.hid (fun W u v h1 h2 => cput_nat W u v l (m.drop K) _ rfl h1 Hcode.out h2 (by simp; have := HM.out; omega) (fun x hx => by rw [HN.out]; exact Hlt.out x (List.mem_of_mem_drop hx)))
  have Hend : Hid (putB l (m.take M) = putB l m) := by rw [← HM.out, List.take_length]; exact rfl
  obtain ⟨P, hP⟩ : ∃ P, putB l m = P := ⟨_, rfl⟩
  generalize putB l (m.take K) = B1 at *
  generalize putB l (m.drop K) = C1 at *
  rw [hP] at CPa Hend hcut hlp
  have Hcut := Lib.hid hcut
  have hbl : B1.length + C1.length = P.length := by rw [← hcut, List.length_append]
  clear hP hcut
  obtain ⟨vb, hb1, ⟨qb, cb, hb2⟩, hb3, hb4, hb5⟩ := (E3.out.get 0 rfl).cut 0 K (Nat.zero_le _) hKM
  obtain ⟨vc, hc1, ⟨qc, cc, hc2⟩, hc3, hc4, hc5⟩ := (E3.out.get 0 rfl).cut K M hKM (Nat.le_refl _)
  subst hb2 hc2
  have hsb := hb5 rfl
  have hsc := hc4 rfl
  have hbx := hb1
  rw [List.drop_zero, show (ints m).take K = ints (m.take K) by simp [ints, List.map_take]] at hbx
  have hcx := hc1
  rw [List.take_of_length_le (by rw [length_ints, HM.out]; exact Nat.le_refl _), show (ints m).drop K = ints (m.drop K) by simp [ints, List.map_drop]] at hcx
  clear hb1 hb3 hb4 hb5 hc1 hc3 hc4 hc5
  have E4 := Lib.hid ((E3.out.add hbx).add hcx)
  clear E3 hbx hcx
  go_wp2_with fail
  refine (CPa.out _ _ _ (E4.out.get 3 rfl) (E4.out.get 2 rfl)).mono ?_
  rintro e w4 ⟨rfl, hB⟩
  have E5 := Lib.hid (E4.out.step hB)
  clear E4 hB  CPa
  have E6 := Lib.hid (E5.out.box #[.string (txt P), .int .i64 (P.length : Nat)] 37 (w4.heap.size) (by simp))
  clear E5 
  go_wp2_with fail
  refine (CPb.out _ _ _ (E6.out.get 3 rfl) (E6.out.get 1 rfl)).mono ?_
  rintro e w5 ⟨rfl, hB⟩
  have E7 := Lib.hid (E6.out.step hB)
  clear E6 hB  CPb hsb
  have E8 := Lib.hid (E7.out.box #[.string (txt B1), .int .i64 (B1.length : Nat)] 37 (w5.heap.size) (by simp))
  clear E7 
  go_wp2_with fail
  refine (CPc.out _ _ _ (E8.out.get 3 rfl) (E8.out.get 0 rfl)).mono ?_
  rintro e w6 ⟨rfl, hB⟩
  have E9 := Lib.hid (E8.out.step hB)
  clear E8 hB  CPc hsc
  have E10 := Lib.hid (E9.out.box #[.string (txt C1), .int .i64 (C1.length : Nat)] 37 (w6.heap.size) (by simp))
  clear E9 
  have k_b0 := E10.out.cellv 1 rfl 0 _ rfl
  have k_b1 := E10.out.cellv 1 rfl 1 _ rfl
  have k_c0 := E10.out.cellv 0 rfl 0 _ rfl
  have k_c1 := E10.out.cellv 0 rfl 1 _ rfl
  go_wp2_with fail
  refine (cat_is _ _ [B1, C1] P (by simpa using Hcut.out) (IsPairs.new _ _ (by simp) ([B1, C1].map pairOf) _ rfl (by simp [maxLen])) (by simp; omega)).mono ?_
  rintro e w7 ⟨rfl, hB⟩
  have E11 := Lib.hid ((E10.out.alloc _).step hB)
  clear E10 hB
  clear k_b0 k_b1 k_c0 k_c1
  have E12 := Lib.hid (E11.out.box #[.string (txt P), .int .i64 (P.length : Nat)] 37 (w7.heap.size) (by simp))
  clear E11 
  have k_a0 := E12.out.cellv 3 rfl 0 _ rfl
  have k_a1 := E12.out.cellv 3 rfl 1 _ rfl
  have k_d0 := E12.out.cellv 0 rfl 0 _ rfl
  have k_d1 := E12.out.cellv 0 rfl 1 _ rfl
  have hlv := (E12.out.get 3 rfl)
  have hmv := (E12.out.get 2 rfl)
  have HLV := Lib.hid hlv
  have HMV := Lib.hid hmv
  clear hlv hmv
  go_wp2_with fail
  generalize w7.alloc (.cells #[.string (txt P), .int .i64 (P.length : Nat)] 37) = W at *
  go_loopw [19, 20] (fun nv iv wr => W = wr ∧ ∃ i : Nat, i ≤ M ∧ iv = .int .i64 i ∧ nv = .int .i64 ((putB l (m.take i)).length : Nat)) (fun _ iv _ => M + 1 - (intOf iv).toNat)
  case atStart => exact ⟨rfl, 0, Nat.zero_le _, rfl, rfl⟩
  case round =>
    obtain ⟨rfl, i, hi, rfl, rfl⟩ := hrel
    by_cases hit : i < M
    · obtain ⟨s, hs⟩ : ∃ s, m[i]? = some s := ⟨_, List.getElem?_eq_getElem (by rw [HM.out]; exact hit)⟩
      have hsn := Hlt.out s (List.mem_of_getElem? hs)
      obtain ⟨g1, o1, rfl, hg1, hx1⟩ := HMV.out.at i (by rw [length_ints, HM.out]; exact hit)
      rw [show (ints m)[i]?.getD 0 = (s : Int) by simp [ints, hs]] at hx1
      obtain ⟨t, ht⟩ : ∃ t, l[s]? = some t := ⟨_, List.getElem?_eq_getElem (by rw [HN.out]; exact hsn)⟩
      obtain ⟨g2, o2, rfl, hg2, hx2⟩ := HLV.out.at s (by rw [length_ints, HN.out]; exact hsn)
      rw [show (ints l)[s]?.getD 0 = (t : Int) by simp [ints, ht]] at hx2
      have ht20 := Hcode.out.fits t (List.mem_of_getElem? ht)
      have Hnx := Lib.hid (putB_take_len l m i s t hs ht)
      have hle := length_putB_take l m Hcode.out.fits i
      rw [HM.out] at hle
      generalize (putB l (m.take i)).length = z at *
      have hw : IntKind.i64.wrap ((z : Int) + (t : Int)) = (z : Int) + (t : Int) := IntWalk.i64_in _ (by omega)
      clear hs ht
      go_wp2_with fail
      go_roundw
      case rel => exact ⟨trivial, i + 1, by omega, by go_num, by rw [Hnx.out]; go_num⟩
      case measure => simp [intOf]; omega
    · obtain rfl : i = M := by omega
      rw [Hend.out]
      go_wp2
      go_ret
      exact ⟨by rfl, E12.out.bel⟩
end Go.Proofs.Ytkicaimondpceaa
