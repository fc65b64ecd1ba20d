/- Map of the program: a text's bytes as bits. -/
import Derived.Test.YtlnkngacenkikaaUsedMap
import Derived.Test.YtlnkngacenkikaaOnly
import Derived.Test.YtlnkngacenkikaaEnv2
namespace Go.Proofs.Ytlnkngacenkikaa
open Go.RowKit
set_option linter.unusedVariables false

/-- block b holds these bits -/
def Holds (w : World) (b : Nat) (l : List Bool) : Prop := w.heap[b]? = some (.cells #[.string (txt l), .int .i64 (l.length : Nat)] 25 (0, 0))

set_option maxHeartbeats 800000 in
theorem lay_any (w : World) (b : Nat) (l : List Bool) (m : List Bool) (h : Holds w b l) (hm : m.length = 16) (hl : l.length ≤ 1000) :
    Calls Try.prog 15 #[.int .u64 (B.num m : Nat), .pointer (some ⟨b, 0, none⟩)] w fun e w' => e = .returned (.tuple #[]) ∧ Only b w w' ∧ Holds w' b (l ++ m) := by
  have C : Hid (∀ W, Calls Try.prog 16 #[.agg #[.string (txt l), .int .i64 (l.length : Nat)], .int .u64 (B.num m : Nat), .int .i64 16] W fun e w' =>
      e = .returned (.tuple #[.agg #[.string (txt (l ++ m)), .int .i64 ((l ++ m).length : Nat)], .int .i64 0]) ∧ Below W.heap.size W w') := fun W =>
    put_is W l (B.num m) 16 (l ++ m) (by rw [low16 m hm]) (by omega) (by have := num16_lt m hm; omega) (by omega)
  have H := Lib.hid h
  have c0 := (cell_of_heap h 0).trans rfl
  have c1 := (cell_of_heap h 1).trans rfl
  generalize hx : B.num m = x at *
  have Hx := Lib.hid hx
  generalize hr : l ++ m = r at *
  clear h hx hr
  go_enter Try.func15, Try.ntmps15
  go_wp2_with fail
  refine (C.out _).mono ?_
  rintro e w1 ⟨rfl, hB⟩
  have H1 : Holds w1 b l := heap_call hB H.out
  have f0 := frozen_of_heap H1 0
  have f1 := frozen_of_heap H1 1
  have d0 := (cell_of_heap H1 0).trans rfl
  have d1 := (cell_of_heap H1 1).trans rfl
  have hlt := lt_of_heap H1
  go_wp2_with fail
  go_end0
  refine ⟨rfl, ((Only.of hB).set _ _).set _ _, ?_⟩
  exact heap_set2 H1 _ _

theorem num_row (l : List UInt8) (k : Nat) : ((B.num (rowB l k) : Int) != 0) = someB l k := by
  have h := num_zero_iff (rowB l k)
  unfold someB
  cases hb : (rowB l k).any id with
  | false =>
    have := h.2 hb
    rw [this]; rfl
  | true =>
    have : B.num (rowB l k) ≠ 0 := fun e => by rw [h.1 e] at hb; cases hb
    simp only [bne_iff_ne]
    omega
theorem num_head (l : List UInt8) (k : Nat) : B.num (headL l (k + 1)) = 2 * B.num (headL l k) + (someB l k).toNat := by rw [headL_succ, B.num_snoc]
theorem num_head_lt (l : List UInt8) (k : Nat) (hk : k ≤ 16) : B.num (headL l k) < 131072 := by
  have := B.num_lt (headL l k)
  rw [length_headL] at this
  exact Nat.lt_of_lt_of_le this (Nat.le_trans (Nat.pow_le_pow_right (by omega) hk) (by decide))
theorem length_mapRows_le (l : List UInt8) (n : Nat) (hn : n ≤ 16) : (mapRows l n).length ≤ 256 := by
  rw [length_mapRows]
  have := cntP_le (someB l) n
  omega

set_option maxRecDepth 100000 in
set_option maxHeartbeats 3200000 in
theorem map_any (w : World) (s : ByteArray) (hs : s.size ≤ 1000000) :
    Calls Try.prog 7 #[.string s] w fun e w' => e = .returned (.agg #[.string (txt (mapL s.data.toList)), .int .i64 ((mapL s.data.toList).length : Nat)]) ∧ Below w.heap.size w w' := by
  have C : Hid (∀ W, Calls Try.prog 17 #[.string s] W fun e w' => e = .returned (.agg (setC s.data.toList)) ∧ Below W.heap.size W w') := fun W => of_set s W hs
  generalize s.data.toList = l at *
  have CR : Hid (∀ (k : Nat) W, k < 16 → Calls Try.prog 18 #[.agg (setC l), .int .i64 (k : Nat)] W fun e w' => e = .returned (.int .u64 (B.num (rowB l k) : Nat)) ∧ Below W.heap.size W w') := fun k W hk => row_set W l k hk
  obtain ⟨S, hS⟩ : ∃ S, setC l = S := ⟨_, rfl⟩
  rw [hS] at C CR
  have hSs : S.size = 256 := by rw [← hS]; exact setC_size _
  have hS1 : S.all (·.oneCell') = true := by rw [← hS]; exact setC_one _
  have hi : (Try.prog.info? 47).map (·.size) = some S.size := by rw [hSs]; exact set_info
  have Hi := Lib.hid hi
  have HS1 := Lib.hid hS1
  have HSs := Lib.hid hSs
  have hz := set_zero
  obtain ⟨Z, hZ⟩ : ∃ Z, setC [] = Z := ⟨_, rfl⟩
  rw [hZ] at hz
  have hZs : Z.size = S.size := by rw [← hZ, hSs]; exact setC_size _
  have HZs := Lib.hid hZs
  clear hS hSs hi hS1 hZ hZs
  go_enter Try.func7, Try.ntmps7
  go_wp2_with fail
  refine (C.out _).mono ?_
  rintro e w1 ⟨rfl, hB1⟩
  have E1 := Lib.hid (((Env.nil w).box #[.string ⟨#[]⟩, .int .i64 0] 25 w.heap.size rfl).step hB1)
  clear hB1 C
  go_wp2_with
    (refine wpList_store_whole rfl 47 _ _ rfl w1.heap.size S Z _ rfl rfl (heap_new _ _ _ rfl) HZs.out Hi.out HS1.out ?_
     intro w2 hg2 hs2 hk2 hb2
     have E2 := Lib.hid (E1.out.fresh (hb2 _ _ (Nat.le_refl _) ((Below.refl _ _).alloc (Nat.le_refl _) _)) hg2)
     clear hg2 hs2 hk2 hb2)
  have hbb : w1.heap.size ≠ w.heap.size := by have := E1.out.lt 0 rfl; omega
  go_loopw [5, 12] (fun av iv wr => ∃ k : Nat, k ≤ 16 ∧ iv = .int .i64 k ∧ av = .int .u64 (B.num (headL l k) : Nat) ∧ Env w wr [] [(w1.heap.size, S, 47), (w.heap.size, #[.string ⟨#[]⟩, .int .i64 0], 25)]) (fun _ iv _ => 16 - (intOf iv).toNat)
  case atStart => exact ⟨0, Nat.zero_le _, rfl, rfl, E2.out⟩
  case round =>
    obtain ⟨k, hk, rfl, rfl, hE⟩ := hrel
    have HE := Lib.hid hE
    clear hE E1 E2
    by_cases hlt : k < 16
    · have hn2 := num_head_lt l k hk
      have hnr := num_row l k
      have hnum := num_head l k
      have C1 := Lib.hid (CR.out k wr hlt)
      obtain ⟨x, hx⟩ : ∃ x, B.num (headL l k) = x := ⟨_, rfl⟩
      obtain ⟨b, hbe⟩ : ∃ b, someB l k = b := ⟨_, rfl⟩
      obtain ⟨r, hre⟩ : ∃ r, B.num (rowB l k) = r := ⟨_, rfl⟩
      rw [hx] at hn2 hnum ⊢
      rw [hre] at hnr C1
      rw [hbe] at hnum hnr
      have hs : IntKind.u64.wrap ((x : Int) * 2) = (x : Int) * 2 := by rw [IntKind.wrap_u64]; omega
      have Hor := Lib.hid (or_one x (by omega))
      have Hnum := Lib.hid hnum
      clear hnum hx hbe hre
      cases b with
      | true =>
        go_wp2_with
          (first
            | (refine wpList_load_row rfl 47 _ rfl w1.heap.size rfl _ S _ _ (HE.out.blk 0 rfl) Try.underlying47 rfl Hi.out ?_)
            | (go_at_call 18
               refine C1.out.mono ?_
               rintro e w3 ⟨rfl, hB3⟩
               have E3 := Lib.hid (HE.out.step hB3)
               clear hB3))
        go_roundw
        case rel => exact ⟨k + 1, by omega, by go_num, by rw [Hnum.out, Hor.out]; rfl, E3.out⟩
        case measure => simp [intOf]; omega
      | false =>
        go_wp2_with
          (first
            | (refine wpList_load_row rfl 47 _ rfl w1.heap.size rfl _ S _ _ (HE.out.blk 0 rfl) Try.underlying47 rfl Hi.out ?_)
            | (go_at_call 18
               refine C1.out.mono ?_
               rintro e w3 ⟨rfl, hB3⟩
               have E3 := Lib.hid (HE.out.step hB3)
               clear hB3))
        go_roundw
        case rel => exact ⟨k + 1, by omega, by go_num, by rw [Hnum.out, Int.mul_comm]; simp, E3.out⟩
        case measure => simp [intOf]; omega
    · obtain rfl : k = 16 := by omega
      go_wp2_with fail
      refine (lay_any _ w.heap.size [] (headL l 16) (HE.out.blk 1 rfl) (length_headL _ _) (by simp)).mono ?_
      rintro e w3 ⟨rfl, hO, hH⟩
      have E3 : Env w w3 [] [(w1.heap.size, S, 47), (w.heap.size, #[.string (txt (headL l 16 ++ mapRows l 0)), .int .i64 ((headL l 16 ++ mapRows l 0).length : Nat)], 25)] := by
        refine ⟨⟨hO.bel HE.out.bel (Nat.le_refl _) (Nat.le_refl _), fun p hp => by simp at hp⟩, fun p hp => ?_⟩
        rcases List.mem_cons.1 hp with rfl | hp
        · exact hO.other (HE.out.blk 0 rfl) hbb
        · rcases List.mem_cons.1 hp with rfl | hp
          · simpa [mapRows, Holds] using hH
          · simp at hp
      have E3 := Lib.hid E3
      clear hO hH
      go_wp2_with fail
      clear HE
      obtain ⟨wo, rfl⟩ : ∃ wo : World, wo = wr := ⟨_, rfl⟩
      go_loopw [27] (fun iv wr => ∃ k : Nat, k ≤ 16 ∧ iv = .int .i64 k ∧ Env w wr [] [(w1.heap.size, S, 47), (w.heap.size, #[.string (txt (headL l 16 ++ mapRows l k)), .int .i64 ((headL l 16 ++ mapRows l k).length : Nat)], 25)]) (fun iv _ => 16 - (intOf iv).toNat)
      case atStart => exact ⟨0, Nat.zero_le _, rfl, E3.out⟩
      case round =>
        obtain ⟨k, hk, rfl, hE⟩ := hrel
        have HE := Lib.hid hE
        clear hE E3
        by_cases hlt : k < 16
        · have hnr := num_row l k
          have C1 := Lib.hid (CR.out k wr hlt)
          have hml := length_mapRows_le l k hk
          have hmr : mapRows l (k + 1) = mapRows l k ++ if someB l k then rowB l k else [] := rfl
          have HMR := Lib.hid hmr
          clear hmr
          obtain ⟨r, hre⟩ : ∃ r, B.num (rowB l k) = r := ⟨_, rfl⟩
          have HR := Lib.hid hre
          rw [hre] at hnr C1
          clear hre
          cases hb : someB l k with
          | true =>
            rw [hb] at hnr
            have Hb := Lib.hid hb
            clear hb
            have hW := HE.out.blk 1 rfl
            go_wp2_with
              (first
                | (refine wpList_load_row rfl 47 _ rfl w1.heap.size rfl _ S _ _ (HE.out.blk 0 rfl) Try.underlying47 rfl Hi.out ?_)
                | (go_at_call 18
                   refine C1.out.mono ?_
                   rintro e w4 ⟨rfl, hB4⟩
                   have E4 := Lib.hid (HE.out.step hB4)
                   have C2 := lay_any w4 w.heap.size (headL l 16 ++ mapRows l k) (rowB l k) (E4.out.blk 1 rfl) (length_rowB _ _) (by rw [List.length_append, length_headL]; omega)
                   rw [HR.out] at C2
                   have C2 := Lib.hid C2
                   clear hB4)
                | (go_at_call 15
                   refine C2.out.mono ?_
                   rintro e w5 ⟨rfl, hO, hH⟩
                   have E5 : Env w w5 [] [(w1.heap.size, S, 47), (w.heap.size, #[.string (txt (headL l 16 ++ mapRows l (k + 1))), .int .i64 ((headL l 16 ++ mapRows l (k + 1)).length : Nat)], 25)] := by
                     refine ⟨⟨hO.bel E4.out.bel (Nat.le_refl _) (Nat.le_refl _), fun p hp => by simp at hp⟩, fun p hp => ?_⟩
                     rcases List.mem_cons.1 hp with rfl | hp
                     · exact hO.other (E4.out.blk 0 rfl) hbb
                     · rcases List.mem_cons.1 hp with rfl | hp
                       · rw [HMR.out, Hb.out, if_pos rfl, ← List.append_assoc]
                         exact hH
                       · simp at hp
                   have E5 := Lib.hid E5
                   clear hO hH))
            go_roundw
            case rel => exact ⟨k + 1, by omega, by go_num, E5.out⟩
            case measure => simp [intOf]; omega
          | false =>
            rw [hb] at hnr
            have Hb := Lib.hid hb
            clear hb
            go_wp2_with
              (first
                | (refine wpList_load_row rfl 47 _ rfl w1.heap.size rfl _ S _ _ (HE.out.blk 0 rfl) Try.underlying47 rfl Hi.out ?_)
                | (go_at_call 18
                   refine C1.out.mono ?_
                   rintro e w4 ⟨rfl, hB4⟩
                   have E4 := Lib.hid (HE.out.step hB4)
                   clear hB4))
            go_roundw
            case rel => exact ⟨k + 1, by omega, by go_num, by rw [HMR.out, Hb.out, if_neg (by simp), List.append_nil]; exact E4.out⟩
            case measure => simp [intOf]; omega
        · obtain rfl : k = 16 := by omega
          have hE := HE.out
          obtain ⟨M, hM⟩ : ∃ M, headL l 16 ++ mapRows l 16 = M := ⟨_, rfl⟩
          rw [hM] at hE
          have HM := Lib.hid (show mapL l = M from hM)
          have HE := Lib.hid hE
          clear hM hE
          have k0 := HE.out.cellv 1 rfl 0 _ rfl
          have k1 := HE.out.cellv 1 rfl 1 _ rfl
          have f0 := HE.out.frozen 1 rfl 0
          have f1 := HE.out.frozen 1 rfl 1
          have xl := HE.out.lt 1 rfl
          go_wp2_with fail
          rw [HM.out]
          refine bodyPost_ret (results_cell_row rfl _ _ w.heap.size 25 #[.string (txt M), .int .i64 (M.length : Nat)] (0, 0) _ rfl (heap_set2 (HE.out.blk 1 rfl) _ _) Try.underlying25 rfl (by kernel_rfl)) rfl ⟨rfl, ?_⟩
          exact (HE.out.bel.setCell (p := ⟨w.heap.size, 0, none⟩) (Nat.le_refl _) _).setCell (p := ⟨w.heap.size, 1, none⟩) (Nat.le_refl _) _
end Go.Proofs.Ytlnkngacenkikaa
