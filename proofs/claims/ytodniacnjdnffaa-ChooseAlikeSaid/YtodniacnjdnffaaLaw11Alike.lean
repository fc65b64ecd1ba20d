/- ChooseAlike: the walk. -/
import Derived.Test.YtodniacnjdnffaaAlikeP
import Derived.Test.YtodniacnjdnffaaAwake11
import Derived.Test.YtodniacnjdnffaaTables
import Derived.Test.YtodniacnjdnffaaSymsK
namespace Go.Proofs.Ytodniacnjdnffaa
open Go.RowKit
set_option linter.unusedVariables false

def lenOf : Value → Nat
  | .slice _ n _ => n
  | _ => 0

set_option maxRecDepth 100000 in
set_option maxHeartbeats 6400000 in
theorem calike_walk (w : World) (v : Value) (raw : List Int) (many : Int) (hi : IsInts w w.heap.size v raw) (hr : I64s raw) (hmany : -9223372036854775808 ≤ many) (hmany' : many ≤ 9223372036854775807) :
    Calls Try.prog 3 #[v, .int .i64 many] w fun e w' => e = .returned (.bool true) ∧ Below w.heap.size w w' := by
  have hpm := pickF_lt many 30 (by omega)
  obtain ⟨a, ha⟩ : ∃ k : Nat, pickF many 30 = (k : Int) := ⟨(pickF many 30).toNat, by omega⟩
  have HA := Lib.hid ha
  obtain ⟨n, hn⟩ : ∃ n, n = 2 + a := ⟨_, rfl⟩
  have hna : (2 : Int) + (a : Int) = (n : Int) := by omega
  have hn2 : 2 ≤ n := by omega
  have hn31 : n ≤ 31 := by omega
  have HI := Lib.hid hi
  have CS : Hid (∀ W u, IsInts W W.heap.size u raw → Calls Try.prog 9 #[u, .int .i64 (n : Nat), .int .i64 10] W fun e w' => ∃ q c, e = .returned (.slice q (symsF raw n 10).length c) ∧ OwnInts w' W.heap.size (.slice q (symsF raw n 10).length c) (ints (symsF raw n 10)) ∧ Below W.heap.size W w') := fun W u h => (syms_any W u raw n 10 h hr (by omega) (by omega) (by omega)).mono fun e w' h => by
    obtain ⟨u, h1, h2, h3⟩ := h
    obtain ⟨q, c, rfl⟩ := h2.shape
    rw [length_ints] at h1 h2
    exact ⟨q, c, h1, h2, h3⟩
  have hml := symsF_len raw n 10
  have hms := symsF_lt raw n 10 (by omega)
  generalize symsF raw n 10 = m at *
  obtain ⟨M, hM⟩ : ∃ M, m.length = M := ⟨_, rfl⟩
  rw [hM] at CS hml
  have HM := Lib.hid hM
  have HS := Lib.hid hms
  obtain ⟨cz, hcz, hmk⟩ := run_make_ints n (by omega)
  have HCZ := Lib.hid hcz
  clear hi hr ha hn hpm hM hms hcz
  go_enter Try.func3, Try.ntmps3
  have E0 := Lib.hid (Env.nil w)
  go_wp2_with fail
  refine (awake11_any _).mono ?_
  rintro e w1 ⟨rfl, hB⟩
  have E1 := Lib.hid (E0.out.step hB)
  clear E0 hB  
  go_wp2_with fail
  refine (pick11_any many 30 _ hmany hmany' (by omega) (by omega)).mono ?_
  rintro e w_ ⟨rfl, rfl⟩
  rw [HA.out]
  go_wp2_with fail
  refine (CS.out _ _ (E1.out.old HI.out)).mono ?_
  rintro e w2 ⟨q2, c2, rfl, ho2, hB⟩
  have HO2 : Hid (OwnInts w2 w.heap.size (.slice q2 M c2) (ints m)) := OwnInts.mono ho2 E1.out.bel.size
  have E3 := Lib.hid (E1.out.step hB)
  clear E1 ho2 hB CS HI
  by_cases hM0 : M = 0
  · subst hM0
    go_wp2_with fail
    go_ret
    exact ⟨rfl, E3.out.bel⟩
  have hMi : ((M : Int) == 0) = false := by rw [beq_eq_false_iff_ne]; omega
  have hM1 : 0 < M := by omega
  have CT : Hid (∀ W u, IsInts W W.heap.size u (ints m) → Calls Try.prog 10 #[u, .int .i64 (n : Nat)] W fun e w' => ∃ (va vb : Value) (q : Option Addr) (c : Nat) (q2 : Option Addr) (c2 : Nat), e = .returned (.tuple #[.slice q 2 c, .slice q2 1 c2, .int .i64 0]) ∧ IsSl w' w'.heap.size (.slice q 2 c) [(va, ints (tabF m n 0)), (vb, ints (lenF (List.replicate n 0) 20))] ∧ Below W.heap.size W w') := fun W u h => (tables_ok W u m n h (by rw [HM.out]; exact hM1) (by rw [HM.out]; omega) hn2 (by omega) HS.out).mono fun e w' h => by
    obtain ⟨va, vb, q, c, q2, c2, h1, h2, _, h3⟩ := h
    rw [cntG_one (by rw [HM.out]; exact hM1) (by rw [HM.out]; exact hml)] at h1
    rw [tabF_one m n (by rw [HM.out]; exact hM1) (by rw [HM.out]; exact hml)] at h2
    exact ⟨va, vb, q, c, q2, c2, h1, h2, h3⟩
  have CL : Hid (∀ W u, IsInts W W.heap.size u (ints (List.replicate n 0)) → Calls Try.prog 11 #[u, .int .i64 20] W fun e w' => ∃ q c, e = .returned (.tuple #[.slice q n c, .int .i64 0]) ∧ IsInts w' w'.heap.size (.slice q n c) (ints (lenF (List.replicate n 0) 20)) ∧ Below W.heap.size W w') := fun W u h => by
    have := lengths_ok W u (List.replicate n 0) 20 h (fun x hx => by rw [(List.mem_replicate.1 hx).2]; omega) (by simpa using hn2) (by simp; omega) (by omega) (by omega)
    rw [List.length_replicate] at this
    exact this
  have hZl := length_lenF (List.replicate n 0) 20 (by simpa using hn2) (by simp; omega) (by omega)
  rw [List.length_replicate] at hZl
  generalize lenF (List.replicate n 0) 20 = Z at *
  generalize tabF m n 0 = A0 at *
  go_wp2_with fail
  refine (CT.out _ _ (ints_up HO2.out.is (Below.refl _ _))).mono ?_
  rintro e w3 ⟨va, vb, q3, c3, q4, c4, rfl, hT, hB⟩
  have HT := Lib.hid hT
  have HO3 : Hid (OwnInts w3 w.heap.size (.slice q2 M c2) (ints m)) := HO2.out.below hB
  have E4 := Lib.hid (E3.out.step hB)
  have HZL := Lib.hid hZl
  clear CT hT hB HO2 E3 hZl
  go_wp2_with fail
  refine (CL.out _ _ (ints_of_heap (heap_new w3 _ _ rfl) (by rw [HCZ.out]; simp [ints]) (by simp [ints]) (by simp [ints, maxLen]; omega))).mono ?_
  rintro e w4 ⟨q5, c5, rfl, hl5, hB⟩
  have hB4 : Below w3.heap.size w3 w4 := bel_call hB (bel_alloc (Below.refl _ _) _)
  have HT4 := Lib.hid (HT.out.up hB4)
  have HO4 : Hid (OwnInts w4 w.heap.size (.slice q2 M c2) (ints m)) := HO3.out.below hB4
  have E5 := Lib.hid (E4.out.step hB4)
  have HL5 := Lib.hid hl5
  clear CL hB hB4 HT HO3 E4 hl5 hmk HCZ
  obtain ⟨g1, o1, hq, hg1, hc1, hi1⟩ := HT4.out.at 1 _ rfl
  subst hq
  dsimp only at hc1 hi1
  have HI1 := Lib.hid hi1
  clear hi1
  go_wp2_with fail
  refine (aw11_ints _ _ _ _ HI1.out HL5.out (by rw [length_ints, HZL.out]; omega)).mono ?_
  rintro e w5 ⟨rfl, hB⟩
  have HO5 : Hid (OwnInts w5 w.heap.size (.slice q2 M c2) (ints m)) := HO4.out.below hB
  have HB5 : Hid (Below w.heap.size w w5) := (E5.out.step hB).bel
  clear hB HO4 E5 HI1 HL5 HT4 hc1 hg1
  go_wp2_with fail
  go_loopw [7] (fun mv wr => ∃ (L : List Nat) (T : Nat) (q : Option Addr) (c : Nat), 0 < T ∧ T ≤ 10 ∧ mv = .slice q T c ∧ Hid (L.length = T ∧ ∀ s ∈ L, s < n) ∧ Hid (OwnInts wr w.heap.size (.slice q T c) (ints L)) ∧ Hid (Below w.heap.size w wr)) (fun mv _ => 11 - lenOf mv)
  case atStart => exact ⟨m, M, q2, c2, hM1, hml, rfl, ⟨HM.out, HS.out⟩, HO5, HB5⟩
  case round =>
    obtain ⟨L, T, q, c, hT0, hT10, rfl, HL, HOw, HB⟩ := hrel
    have hz0 := HB.out.size
    clear HO5 HB5
    by_cases hlt : T < 10
    · obtain ⟨x, L2, hx⟩ : ∃ x L2, L = x :: L2 := by
        cases L with
        | nil => have := HL.out.1; simp at this; omega
        | cons x L2 => exact ⟨x, L2, rfl⟩
      obtain ⟨g3, o3, hq, hg3, hx3⟩ := HOw.out.is.at 0 (by rw [length_ints, HL.out.1]; exact hT0)
      subst hq
      rw [show (ints L)[0]?.getD 0 = (x : Int) by rw [hx]; rfl, Nat.add_zero] at hx3
      have HX := Lib.hid hx
      clear hx
      go_wp2_with
        (at_builtin
         refine wpList_append_ints rfl _ _ rfl w.heap.size _ (ints L) rfl (HOw.out.alloc _) (wr.heap.size + 1) _ [(x : Int)] rfl (IsInts.new wr [(x : Int)] _ _ _ rfl rfl rfl (by simp [maxLen])) (by rw [length_ints, HL.out.1]; simp; omega) (by simp; omega) ?_
         intro q' c' w6 hown1 hg1 hat1
         rw [show (ints L).length + [(x : Int)].length = T + 1 by rw [length_ints, HL.out.1]; rfl] at hown1 ⊢
         rw [show ints L ++ [(x : Int)] = ints (L ++ [x]) by simp [ints]] at hown1
         have Hown1 := Lib.hid hown1
         have HB1 : Hid (Below w.heap.size w w6) := bel_grown hg1 (HB.out.alloc (by omega) _) (fun k hk => own_ge HOw.out hk)
         clear hg1 hat1 hown1)
      go_roundw
      case rel =>
        refine ⟨L ++ [x], T + 1, _, _, by omega, by omega, rfl, ⟨by rw [List.length_append, HL.out.1]; rfl, fun s hs => ?_⟩, Hown1, HB1⟩
        rcases List.mem_append.1 hs with h | h
        · exact HL.out.2 s h
        · rw [List.mem_singleton.1 h]; exact HL.out.2 x (by rw [HX.out]; simp)
      case measure => simp [lenOf]; omega
    · obtain rfl : T = 10 := by omega
      go_wp2_with
        (at_builtin
         first
         | (refine wpList_append_ints rfl _ _ rfl w.heap.size (.slice none 0 0) [] rfl (OwnInts.nil _ _) wr.heap.size _ (ints L) rfl HOw.out.is (by rw [length_ints, HL.out.1]; simp) hz0 ?_
            intro qa ca wa hown1 hg1 hat1
            have HBa : Hid (Below w.heap.size w wa) := bel_grown hg1 HB.out (fun k hk => by simp [Value.ownBlock] at hk)
            have HBw : Hid (Below wr.heap.size wr wa) := bel_grown hg1 (Below.refl _ _) (fun k hk => by simp [Value.ownBlock] at hk)
            rw [show ([] : List Int).length + (ints L).length = 10 by rw [length_ints, HL.out.1]; rfl] at hown1 ⊢
            rw [List.nil_append] at hown1
            have Hown1 := Lib.hid hown1
            have hza := HBa.out.size
            clear hg1 hat1 hown1)
         | (refine wpList_append_ints rfl _ _ rfl w.heap.size (.slice qa 10 ca) (ints L) rfl Hown1.out wa.heap.size _ (ints L) rfl (ints_up HOw.out.is HBw.out) (by rw [length_ints, HL.out.1]; simp) hza ?_
            intro qb cb wb hown2 hg2 hat2
            have HBb : Hid (Below w.heap.size w wb) := bel_grown hg2 HBa.out (fun k hk => own_ge Hown1.out hk)
            rw [show (ints L).length + (ints L).length = 20 by rw [length_ints, HL.out.1]] at hown2 ⊢
            rw [show ints L ++ ints L = ints (L ++ L) by simp [ints]] at hown2
            have Hown2 := Lib.hid hown2
            have hzb := HBb.out.size
            clear hg2 hat2 hown2))
      have hnn : ∀ s ∈ L ++ L, s < n := fun s hs => (List.mem_append.1 hs).elim (HL.out.2 s) (HL.out.2 s)
      have CT2 := tables_ok wb (.slice qb 20 cb) (L ++ L) n Hown2.out.is (by rw [List.length_append, HL.out.1]; omega) (by rw [List.length_append, HL.out.1]; omega) hn2 (by omega) hnn
      have HTL := (tab_ok (L ++ L) n 0 (by rw [List.length_append, HL.out.1]; omega) hn2 (by omega)).2
      rw [tabF_two L n HL.out.1, chosen_two L n HL.out.1, cntG_two L HL.out.1] at CT2
      generalize tabF (L ++ L) n 0 = B0 at *
      have HTL2 := Lib.hid HTL
      clear hnn HTL HOw Hown1 HBw HBa
      refine CT2.mono ?_
      rintro e W ⟨va2, vb2, q6, c6, q7, c7, rfl, hT, hv7, hB⟩
      clear CT2
      have HBf : Hid (Below w.heap.size w W) := HBb.out.trans (hB.mono HBb.out.size)
      obtain ⟨g5, o5, hq, hg5, hca, hia⟩ := hT.at 0 _ rfl
      obtain ⟨g6, o6, hq6, hg6, hcb, hib⟩ := hT.at 1 _ rfl
      subst hq
      injection hq6 with hq6
      injection hq6 with hq6 hq7
      subst hq6 hq7
      rw [Nat.add_zero] at hca
      dsimp only at hca hcb hia hib
      have HIA := Lib.hid hia
      have HIB := Lib.hid hib
      have HCH := Lib.hid hv7
      have HkW : Hid (∀ w' : World, Below W.heap.size W w' → Below W.heap.size W w' ∧ w'.cell? ⟨g5, o5, none⟩ = some va2 ∧ w'.cell? ⟨g5, o5 + 1, none⟩ = some vb2) := fun w' h => ⟨h, (h.cell (p := ⟨g5, o5, none⟩) hg5).trans hca, (h.cell (p := ⟨g5, o5 + 1, none⟩) hg5).trans hcb⟩
      have hbW : Below W.heap.size W W := Below.refl _ _
      obtain ⟨_, k0, k1⟩ := HkW.out W hbW
      clear hT hia hib hv7 hB hca hcb HBb Hown2 hza hzb hg6
      go_wp2_with fail
      go_region_held3 (fun w' => Below W.heap.size W w' ∧ w'.cell? ⟨g5, o5, none⟩ = some va2 ∧ w'.cell? ⟨g5, o5 + 1, none⟩ = some vb2)
        ((refine HkW.out _ ?_; first | assumption | exact bel_drew (by assumption) | exact bel_alloc (And.left (by assumption)) _ | exact bel_drew (bel_alloc (by assumption) _) | exact bel_call (by assumption) (And.left (by assumption)) | exact bel_call (by assumption) (bel_alloc (And.left (by assumption)) _) | exact bel_alloc (by assumption) _))
        ((go_at_call 12
          first
          | (with_reducible show Calls Try.prog _ #[va2, vb2] _ _
             refine (aw11_ints _ va2 vb2 (ints B0) ?_ ?_ (by rw [length_ints, HTL2.out]; omega)).mono ?_
             · exact ints_up HIA.out (And.left (by assumption))
             · exact ints_up HIB.out (And.left (by assumption))
             rintro e w8 ⟨rfl, hB8⟩
             have hW8 : Below W.heap.size W w8 := bel_call hB8 (And.left (by assumption))
             have hz8 := hW8.size
             try (have HC8 : w8.heap[W.heap.size]? = some (.cells #[.int .i64 0, .int .i64 0] 3 (0, 0)) := heap_call hB8 (heap_new W (.cells #[.int .i64 0, .int .i64 0] 3) _ rfl)))
          | (refine (aw11_ints _ _ _ [0, 0] ?_ ?_ (by decide)).mono ?_
             · exact ints_up HCH.out (And.left (by assumption))
             · first
               | exact ints_of_heap HC8 rfl rfl (by simp [maxLen])
               | exact ints_of_heap (heap_new _ _ _ rfl) rfl rfl (by simp [maxLen])
             rintro e w9 ⟨rfl, hB9⟩
             have hW9 : Below W.heap.size W w9 := bel_call hB9 (And.left (by assumption))
             have hz9 := hW9.size)))
      all_goals
        go_wp2_with fail
        go_ret
        first
        | exact ⟨rfl, HBf.out.trans (hW9.mono HBf.out.size)⟩
        | exact ⟨rfl, HBf.out.trans (hW8.mono HBf.out.size)⟩
        | exact ⟨rfl, HBf.out.trans (hW9.drew.mono HBf.out.size)⟩
        | exact ⟨rfl, HBf.out.trans (hW8.drew.mono HBf.out.size)⟩
end Go.Proofs.Ytodniacnjdnffaa
