/- DeltaTurned: the walk. -/
import Derived.Test.YtdngbmoippadhaaLaw09Long
import Derived.Test.YtdngbmoippadhaaBitsSame
import Derived.Test.YtdngbmoippadhaaEnv2
import Derived.Deep.RegionHeld3
import Derived.Deep.DeepCutAuto
namespace Go.Proofs.Ytdngbmoippadhaa
open Go.RowKit
set_option linter.unusedVariables false

theorem distR_rev (l : List Nat) : ∀ a b, distR a (l ++ [b]) = distR b (l.reverse ++ [a]) := by
  induction l with
  | nil => intro a b; simp [distR]; omega
  | cons n l ih =>
    intro a b
    rw [List.cons_append, distR, ih, List.reverse_cons, distR_snoc (l.reverse ++ [n])]
    simp
    omega
theorem length_deltaL_rev (l : List Nat) : (deltaL l.reverse).length = (deltaL l).length := by
  rw [length_deltaL_dist, length_deltaL_dist, List.length_reverse]
  congr 2
  cases l with
  | nil => rfl
  | cons a l =>
    have h := snocRec' l a
    obtain ⟨m, b, hm⟩ : ∃ m b, a :: l = m ++ [b] := h
    have h1 : (a :: l).headD 0 = a := rfl
    have h2 : (a :: l).reverse.headD 0 = b := by rw [hm]; simp
    rw [h1, h2]
    have h3 := distR_rev l a b
    have e1 : distR a (a :: l) = distR a l := by simp [distR]
    have e2 : distR b (a :: l).reverse = distR a l := by
      have h4 : distR a (m ++ [b]) = distR b (m.reverse ++ [a]) := distR_rev m a b
      rw [← hm] at h4
      have h5 : (a :: l).reverse = b :: m.reverse := by rw [hm]; simp
      cases m with
      | nil =>
        simp at hm
        obtain ⟨rfl, rfl⟩ := hm
        simp [distR]
      | cons c m =>
        simp only [List.cons_append, List.cons.injEq] at hm
        obtain ⟨rfl, rfl⟩ := hm
        have h6 := distR_rev m a b
        rw [h5, List.reverse_cons, distR, h6]
        omega
    rw [e1, e2]
where
  snocRec' (l : List Nat) (a : Nat) : ∃ m b, a :: l = m ++ [b] := ⟨(a :: l).dropLast, (a :: l).getLast (by simp), (List.dropLast_concat_getLast (by simp)).symm⟩
theorem rowsB_snoc (l : List Nat) (m : Nat) : ∀ now, rowsB now (l ++ [m]) = rowsB now l ++ stepB (l.getLastD now) m := by
  induction l with
  | nil => intro now; simp [rowsB]
  | cons n l ih =>
    intro now
    rw [List.cons_append, rowsB, rowsB, ih n, List.getLastD_cons, List.append_assoc]
theorem deltaL_last (l : List Nat) (h : 0 < l.length) : deltaL (l ++ [l[l.length - 1]?.getD 0]) = deltaL l ++ [false] := by
  unfold deltaL
  have h1 : (l ++ [l[l.length - 1]?.getD 0]).headD 0 = l.headD 0 := by cases l <;> simp at h ⊢
  rw [h1, rowsB_snoc, List.append_assoc]
  congr 2
  have h2 : l.getLastD (l.headD 0) = l[l.length - 1]?.getD 0 := by
    rw [List.getLastD_eq_getLast?, List.getLast?_eq_getElem?, List.getElem?_eq_getElem (by omega)]
    rfl
  rw [h2, stepB_same]
/-- the last ones, the other way round -/
def backI (l : List Nat) (n i : Nat) : List Nat := (l.drop (n - i)).reverse
theorem backI_snoc (l : List Nat) (n i : Nat) (hn : l.length = n) (hi : i < n) : backI l n (i + 1) = backI l n i ++ [l[n - 1 - i]?.getD 0] := by
  unfold backI
  have h1 : n - (i + 1) < l.length := by omega
  rw [List.drop_eq_getElem_cons h1, List.reverse_cons, show n - (i + 1) + 1 = n - i by omega, List.getElem?_eq_getElem (by omega)]
  simp only [Option.getD_some]
  congr 3
  omega
theorem backI_all (l : List Nat) : backI l l.length l.length = l.reverse := by simp [backI]
theorem length_backI (l : List Nat) (n i : Nat) (hn : l.length = n) (hi : i ≤ n) : (backI l n i).length = i := by simp [backI]; omega
theorem same_front (W : World) (c a b : List Bool) (h : c = a ++ b) (hl : a.length + b.length < 1000000) : Calls Try.prog 19 #[.string (txt c), .int .i64 0, .agg #[.string (txt a), .int .i64 (a.length : Nat)]] W fun e w' => e = .returned (.bool true) ∧ Below W.heap.size W w' := by
  have hc : c.length = a.length + b.length := by rw [h, List.length_append]
  refine (same_any W (txt c) (txt a) 0 (a.length : Nat) (by rw [txt_size]; omega) (by rw [txt_size]; omega) (by omega) (by omega)).mono fun e w' hh => ⟨hh.1.trans ?_, hh.2⟩
  congr 2
  have h8 := len8_pack c
  unfold sameB
  rw [txt_list, txt_list, rightB_pack]
  simp only [Bool.true_and, Bool.and_eq_true, decide_eq_true_eq]
  refine ⟨⟨by omega, by omega⟩, fun i hi => ?_⟩
  rw [Int.toNat_natCast] at hi
  rw [B.bitAt_pack, B.bitAt_pack, h, Int.toNat_zero, Nat.zero_add, List.getD_eq_getElem?_getD, List.getD_eq_getElem?_getD, List.getElem?_append_left hi]

set_option maxRecDepth 100000 in
set_option maxHeartbeats 3200000 in
theorem dturned_walk (w : World) (v : Value) (raw : List Int) (hv : IsInts w w.heap.size v raw) (hr : I64s raw) :
    Calls Try.prog 7 #[v] w fun e w' => e = .returned (.bool true) ∧ Below w.heap.size w w' := by
  have HRW := Lib.hid hv
  have Hr := Lib.hid hr
  have hml := lensF_mem raw
  obtain ⟨hl2, hl60⟩ := lensF_len raw
  have CL : Hid (∀ W, IsInts W W.heap.size v raw → Calls Try.prog 10 #[v] W fun e w' => ∃ q c, e = .returned (.slice q (lensF raw).length c) ∧ IsInts w' w'.heap.size (.slice q (lensF raw).length c) (ints (lensF raw)) ∧ Below W.heap.size W w') := fun W h => lens09_is W v raw h hr
  generalize lensF raw = l at *
  obtain ⟨n, hn⟩ : ∃ n, l.length = n := ⟨_, rfl⟩
  obtain ⟨x, hx⟩ : ∃ x, l[n - 1]?.getD 0 = x := ⟨_, rfl⟩
  have hrev : (deltaL l.reverse).length = (deltaL l).length := length_deltaL_rev l
  have hsn : deltaL (l ++ [x]) = deltaL l ++ [false] := by rw [← hx, ← hn]; exact deltaL_last l (by omega)
  have hxr : 1 ≤ x ∧ x ≤ 20 := by rw [← hx, List.getElem?_eq_getElem (by omega)]; exact hml _ (List.getElem_mem _)
  have hdb := length_deltaL l (fun m hm => (hml m hm).2)
  have CP : Hid (∀ W (u : Value), IsInts W W.heap.size u (ints l) → Calls Try.prog 11 #[u] W fun e w' => e = .returned (.tuple #[.agg #[.string (txt (deltaL l)), .int .i64 ((deltaL l).length : Nat)], .int .i64 0]) ∧ Below W.heap.size W w') := fun W u h => delta_put_ok W u l h (by omega) (by omega) hml
  have CR : Hid (∀ W (u : Value), IsInts W W.heap.size u (ints l.reverse) → Calls Try.prog 11 #[u] W fun e w' => e = .returned (.tuple #[.agg #[.string (txt (deltaL l.reverse)), .int .i64 ((deltaL l.reverse).length : Nat)], .int .i64 0]) ∧ Below W.heap.size W w') := fun W u h => delta_put_ok W u l.reverse h (by simp; omega) (by simp; omega) (fun m hm => hml m (List.mem_reverse.1 hm))
  have CX : Hid (∀ W (u : Value), IsInts W W.heap.size u (ints (l ++ [x])) → Calls Try.prog 11 #[u] W fun e w' => e = .returned (.tuple #[.agg #[.string (txt (deltaL (l ++ [x]))), .int .i64 ((deltaL (l ++ [x])).length : Nat)], .int .i64 0]) ∧ Below W.heap.size W w') := fun W u h => delta_put_ok W u (l ++ [x]) h (by simp; omega) (by simp; omega) (fun m hm => by
    rcases List.mem_append.1 hm with hm | hm
    · exact hml m hm
    · rw [List.mem_singleton] at hm
      rw [hm]
      exact hxr)
  have hdl : (deltaL l).length = (deltaL l).length := rfl
  rw [hrev] at CR
  have CS : Hid (∀ W, Calls Try.prog 19 #[.string (txt (deltaL (l ++ [x]))), .int .i64 0, .agg #[.string (txt (deltaL l)), .int .i64 ((deltaL l).length : Nat)]] W fun e w' => e = .returned (.bool true) ∧ Below W.heap.size W w') := fun W => same_front W (deltaL (l ++ [x])) (deltaL l) [false] hsn (by simp; omega)
  rw [hsn] at CX CS
  generalize hA : deltaL l = A at *
  generalize hR : deltaL l.reverse = R at *
  have HA := Lib.hid hA
  have HR2 := Lib.hid hR
  obtain ⟨a, ha⟩ : ∃ a, A.length = a := ⟨_, rfl⟩
  obtain ⟨C, hC⟩ : ∃ C, A ++ [false] = C := ⟨_, rfl⟩
  have hCl : C.length = a + 1 := by rw [← hC, List.length_append, ha]; rfl
  rw [hC] at CX CS
  rw [ha] at CP CR CS hdb
  rw [hCl] at CX
  have hab : a ≤ 5000 := by omega
  obtain ⟨m, rfl⟩ : ∃ m, n = m + 1 := ⟨n - 1, by omega⟩
  rw [Nat.add_sub_cancel] at hx
  rw [hn] at CL hl2 hl60
  have Hat := Lib.hid (fun i (hi : i < m + 1) => lensAt l i (by rw [hn]; exact hi))
  have Hx : Hid (((ints l)[m]?.getD 0) = (x : Int)) := by show _ = _; rw [lensAt l m (by omega), hx]
  have Hn := Lib.hid hn
  have Hback := Lib.hid (fun i (hi : i < m + 1) => backI_snoc l (m + 1) i hn hi)
  have Hfull : Hid (backI l (m + 1) (m + 1) = l.reverse) := by show _ = _; rw [← hn]; exact backI_all l
  have Hb0 : Hid (backI l (m + 1) 0 = []) := by show _ = _; rw [← hn]; simp [backI]
  have Hbl : Hid (∀ i, i ≤ m + 1 → (backI l (m + 1) i).length = i) := fun i hi => length_backI l (m + 1) i hn hi
  have hxs : ints (l ++ [x]) = ints l ++ [(x : Int)] := ints_snoc l x
  have Hxs := Lib.hid hxs
  clear hv hr hn hx hsn hA hR ha hC hCl hdb hdl hml hrev hxs hxr
  go_enter Try.func7, Try.ntmps7
  have E0 := Lib.hid (Env.nil w)
  go_wp2_with fail
  refine (awake9_any _).mono ?_
  rintro e w1 ⟨rfl, hB⟩
  have E1 := Lib.hid (E0.out.step hB)
  clear E0 hB  
  go_wp2_with fail
  refine (CL.out _ (E1.out.old HRW.out)).mono ?_
  rintro e w2 ⟨q1, c1, rfl, hv, hB⟩
  have E2 := Lib.hid ((E1.out.step hB).add hv)
  clear E1 hB hv 
  clear CL
  have hj : ((m + 1 : Nat) : Int) - 1 = (m : Int) := by omega
  go_wp2_with fail
  go_loopw [5, 6] (fun bv iv wr => ∃ (i : Nat) (z : Int), i ≤ m + 1 ∧ iv = .int .i64 z ∧ Hid (z = (m : Int) - i) ∧ Below w2.heap.size w2 wr ∧ OwnInts wr w2.heap.size bv (ints (backI l (m + 1) i))) (fun _ iv _ => (intOf iv + 1).toNat)
  case atStart => exact ⟨0, m, by omega, rfl, by show _ = _; omega, Below.refl _ _, by rw [Hb0.out]; exact OwnInts.nil _ _⟩
  case round =>
    obtain ⟨i, z, hi, rfl, Hz, hB, hown⟩ := hrel
    have HB := Lib.hid hB
    have Hown := Lib.hid hown
    have HE := Lib.hid (E2.out.step hB)
    have hz := hB.size
    clear hB hown
    by_cases hlt : i < m + 1
    · obtain ⟨d, hzd, hmd⟩ : ∃ d : Nat, z = (d : Int) ∧ i + d = m := ⟨m - i, by have := Hz.out; omega, by omega⟩
      subst hzd
      have hd0 : (0 : Int) ≤ (d : Int) := by omega
      have hd1 : (d : Int) < (m : Int) + 1 := by omega
      have Hmd := Lib.hid hmd
      clear hmd
      obtain ⟨g, o, rfl, hg, hx⟩ := (HE.out.get 0 rfl).at d (by rw [length_ints, Hn.out]; have := Hmd.out; omega)
      rw [Hat.out d (by have := Hmd.out; omega)] at hx
      have hbk := Hback.out i hlt
      rw [show m + 1 - 1 - i = d by have := Hmd.out; omega] at hbk
      obtain ⟨y, hy⟩ : ∃ y, l[d]?.getD 0 = y := ⟨_, rfl⟩
      rw [hy] at hx hbk
      have Hbk := Lib.hid hbk
      have hbl := Hbl.out i hi
      clear hbk hy hj
      go_wp2_with
        (at_builtin
         refine wpList_append_ints rfl _ _ rfl w2.heap.size _ (ints (backI l (m + 1) i)) rfl (Hown.out.alloc _) (wr.heap.size + 1) _ [(y : Int)] rfl (IsInts.new wr [(y : Int)] _ _ _ rfl rfl rfl (by simp [maxLen])) (by rw [length_ints]; simp; omega) (by simp; omega) ?_
         intro q' c' w1 hown1 hg1 hat1
         have Hown1 := Lib.hid hown1
         have hB1 : Below w2.heap.size w2 w1 := (HB.out.alloc (by omega) _).grown hg1 (by simp; omega) (fun k hk => by have := own_ge Hown.out hk; omega)
         have HB1 := Lib.hid hB1
         clear hg1 hat1 hown1 hB1)
      go_roundw
      case rel => exact ⟨i + 1, _, by omega, rfl, by show _ = _; have := Hmd.out; omega, HB1.out, by rw [Hbk.out, ints_snoc]; exact Hown1.out⟩
      case measure => simp [intOf]
    · obtain rfl : i = m + 1 := by omega
      obtain rfl : z = -1 := by have := Hz.out; omega
      have hown := Hown.out
      rw [Hfull.out] at hown
      have E5 := Lib.hid (HE.out.add hown.is)
      clear hown Hown HE
      go_wp2_with fail
      refine (CP.out _ _ (E5.out.get 1 rfl)).mono ?_
      rintro e w6 ⟨rfl, hB6⟩
      have E6 := Lib.hid ((E5.out.step hB6).box #[.string (txt A), .int .i64 (a : Nat)] 27 w6.heap.size rfl)
      clear hB6 E5
      go_wp2_with fail
      refine (CR.out _ _ (E6.out.get 0 rfl)).mono ?_
      rintro e w7 ⟨rfl, hB7⟩
      have E7 := Lib.hid ((E6.out.step hB7).box #[.string (txt R), .int .i64 (a : Nat)] 27 w7.heap.size rfl)
      clear hB7 E6 hlt HB Hb0 Hback Hbl
      go_upto_region 10 with fail
      obtain ⟨W, hW⟩ : ∃ W, w7.alloc (.cells #[.string (txt R), .int .i64 (a : Nat)] 27) = W := ⟨_, rfl⟩
      rw [hW] at E7 ⊢
      clear hW
      obtain ⟨ga, oa, rfl, hga, hxa⟩ := (E7.out.get 1 rfl).at m (by rw [length_ints, Hn.out]; omega)
      rw [Hx.out] at hxa
      have hla : (ints l).length = m + 1 := by rw [length_ints, Hn.out]
      have Hla := Lib.hid hla
      clear hla
      have hi0 : (0 : Int) ≤ (m : Int) := by omega
      have hi1 : (m : Int) < ((m + 1 : Nat) : Int) := by omega
      have hi2 : m < m + 1 := by omega
      have hw1 : IntKind.i64.wrap (m : Int) = (m : Int) := IntWalk.i64_in _ (by omega)
      have hi3 : (m : Int) < (m : Int) + 1 := by omega
      have HkW : Hid (∀ w' : World, Below W.heap.size W w' → Below W.heap.size W w' ∧ w'.cell? ⟨ga, oa + m, none⟩ = some (.int .i64 (x : Nat))) := fun w' h => ⟨h, (h.cell (p := ⟨ga, oa + m, none⟩) hga).trans hxa⟩
      have hbW : Below W.heap.size W W := Below.refl _ _
      go_cut [11, 12] (fun sa se wx => ∃ k : Nat, sa = .pointer (some ⟨k, 0, none⟩) ∧ se = .int .i64 0 ∧ Env w wx [(u5, ints l.reverse), (.slice (some ⟨ga, oa, none⟩) (m + 1) c1, ints l)] ((k, #[.string (txt C), .int .i64 ((a + 1 : Nat))], 27) :: [(w7.heap.size, #[.string (txt R), .int .i64 (a : Nat)], 27), (w6.heap.size, #[.string (txt A), .int .i64 (a : Nat)], 27)]))
      case first =>
        go_region_held3 (fun w' => Below W.heap.size W w' ∧ w'.cell? ⟨ga, oa + m, none⟩ = some (.int .i64 (x : Nat)))
          ((refine HkW.out _ ?_; first | assumption | exact bel_drew (by assumption) | exact bel_alloc (And.left (by assumption)) _ | exact bel_drew (bel_alloc (by assumption) _) | exact bel_call (by assumption) (And.left (by assumption)) | exact bel_call (by assumption) (bel_alloc (And.left (by assumption)) _) | exact bel_alloc (by assumption) _ | exact bel_set (bel_set (by assumption) (by omega) _ _) (by omega) _ _))
          ((first
            | (refine step_append_ints (by rfl) _ _ (by rfl) W.heap.size (.slice none 0 0) [] (by rfl) (OwnInts.nil _ _) _ _ (ints l) (by rfl) (ints_up (E7.out.get 1 rfl) (And.left (by assumption))) (by rw [Hla.out]; simp; omega) (bel_size (And.left (by assumption))) ?_
               intro qa ca wa hown1 hg1 hat1
               have hWa : Below W.heap.size W wa := bel_grown hg1 (And.left (by assumption)) (fun k hk => by simp [Value.ownBlock] at hk)
               have hza := hWa.size
               simp only [List.length_nil, Nat.zero_add, List.nil_append] at hown1
               rw [show ([] : List Int).length + (ints l).length = (ints l).length from Nat.zero_add _]
               have Hown1 := Lib.hid hown1
               first
                 | have HC1 : wa.heap[W.heap.size]? = some (.cells #[.string ⟨#[]⟩, .int .i64 0] 27) := heap_grown_nil hg1 (heap_new W (.cells #[.string ⟨#[]⟩, .int .i64 0] 27) _ rfl)
                 | have HC1 : wa.heap[W.heap.size]? = some (.cells #[.string ⟨#[]⟩, .int .i64 0] 27) := heap_grown_nil hg1 (heap_up _ (heap_new W (.cells #[.string ⟨#[]⟩, .int .i64 0] 27) _ rfl))
                 | have HC1 : wa.heap[W.heap.size + 1]? = some (.cells #[.string ⟨#[]⟩, .int .i64 0] 27) := heap_grown_nil hg1 (heap_new1 W _ (.cells #[.string ⟨#[]⟩, .int .i64 0] 27))
                 | skip
               first
                 | have HL1 : wa.heap[W.heap.size]? = some (.cells #[.int .i64 (x : Nat)] 3) := heap_grown_nil hg1 (heap_new W (.cells #[.int .i64 (x : Nat)] 3) _ rfl)
                 | have HL1 : wa.heap[W.heap.size]? = some (.cells #[.int .i64 (x : Nat)] 3) := heap_grown_nil hg1 (heap_up _ (heap_new W (.cells #[.int .i64 (x : Nat)] 3) _ rfl))
                 | have HL1 : wa.heap[W.heap.size + 1]? = some (.cells #[.int .i64 (x : Nat)] 3) := heap_grown_nil hg1 (heap_new1 W _ (.cells #[.int .i64 (x : Nat)] 3))
                 | skip
               clear hg1 hat1 hown1)
            | (refine step_append_two (by rfl) _ _ (by rfl) W.heap.size (.slice qa (ints l).length ca) (ints l) (by rfl) ?_ [(x : Int)] ?_ (by rw [Hla.out]; simp; omega) (bel_size (by first | assumption | exact And.left (by assumption))) ?_
               · first
                   | exact Hown1.out
                   | exact Hown1.out.alloc _
                   | exact (Hown1.out.alloc _).alloc _
               · first
                   | exact ⟨_, _, rfl, lit_of_heap HL1⟩
                   | exact ⟨_, _, rfl, lit_of_heap (heap_up _ HL1)⟩
                   | exact ⟨_, _, rfl, lit_of_heap (heap_new wa (.cells #[.int .i64 (x : Nat)] 3) _ rfl)⟩
                   | exact ⟨_, _, rfl, lit_of_heap (heap_up _ (heap_new wa (.cells #[.int .i64 (x : Nat)] 3) _ rfl))⟩
                   | exact ⟨_, _, rfl, lit_of_heap (heap_new1 wa _ (.cells #[.int .i64 (x : Nat)] 3))⟩
               intro qb cb wb hown2 hg2 hat2
               have hWb : Below W.heap.size W wb := bel_grown hg2 (by first | assumption | exact And.left (by assumption)) (fun k hk => own_ge Hown1.out hk)
               have hzb := hWb.size
               have Hown2 := Lib.hid hown2
               first
                 | have HC2 : wb.heap[W.heap.size]? = some (.cells #[.string ⟨#[]⟩, .int .i64 0] 27) := heap_grown_own (n := 0) hg2 Hown1.out bits_not_int HC1
                 | have HC2 : wb.heap[W.heap.size]? = some (.cells #[.string ⟨#[]⟩, .int .i64 0] 27) := heap_grown_own (n := 0) hg2 (Hown1.out.alloc _) bits_not_int (heap_up _ HC1)
                 | have HC2 : wb.heap[W.heap.size + 1]? = some (.cells #[.string ⟨#[]⟩, .int .i64 0] 27) := heap_grown_own (n := 0) hg2 Hown1.out bits_not_int HC1
                 | have HC2 : wb.heap[W.heap.size + 1]? = some (.cells #[.string ⟨#[]⟩, .int .i64 0] 27) := heap_grown_own (n := 0) hg2 (Hown1.out.alloc _) bits_not_int (heap_up _ HC1)
                 | have HC2 : wb.heap[wa.heap.size]? = some (.cells #[.string ⟨#[]⟩, .int .i64 0] 27) := heap_grown_own (n := 0) hg2 (Hown1.out.alloc _) bits_not_int (heap_new wa (.cells #[.string ⟨#[]⟩, .int .i64 0] 27) _ rfl)
                 | have HC2 : wb.heap[wa.heap.size]? = some (.cells #[.string ⟨#[]⟩, .int .i64 0] 27) := heap_grown_own (n := 0) hg2 ((Hown1.out.alloc _).alloc _) bits_not_int (heap_up _ (heap_new wa (.cells #[.string ⟨#[]⟩, .int .i64 0] 27) _ rfl))
                 | have HC2 : wb.heap[wa.heap.size + 1]? = some (.cells #[.string ⟨#[]⟩, .int .i64 0] 27) := heap_grown_own (n := 0) hg2 ((Hown1.out.alloc _).alloc _) bits_not_int (heap_new1 wa _ (.cells #[.string ⟨#[]⟩, .int .i64 0] 27))
                 | skip
               clear hg2 hat2 hown2)
            | (go_at_call 11
               refine (CX.out _ _ ?_).mono ?_
               · rw [Hxs.out]
                 first
                   | exact Hown2.out.is
                   | exact (Hown2.out.alloc _).is
               rintro e w8 ⟨rfl, hB8⟩
               have hW8 : Below W.heap.size W w8 := bel_call hB8 (by first | assumption | exact And.left (by assumption))
               have hz8 := hW8.size
               first
                 | have HC9 := heap_call hB8 HC2
                 | have HC9 := heap_call hB8 (heap_up _ HC2)
                 | have HC9 : w8.heap[wb.heap.size]? = some (.cells #[.string ⟨#[]⟩, .int .i64 0] 27) := heap_call hB8 (heap_new wb (.cells #[.string ⟨#[]⟩, .int .i64 0] 27) _ rfl)
                 | skip
               try (have kc0 := cell_of_heap HC9 0; have kc1 := cell_of_heap HC9 1; have fc := frozen_of_heap HC9; have lc := lt_of_heap HC9))))
        all_goals
          go_wp2_with fail
          go_meet
          first
            | exact ⟨_, rfl, rfl, E7.out.fresh (bel_alloc hW8 _) (heap_new w8 _ _ rfl)⟩
            | exact ⟨_, rfl, rfl, E7.out.fresh (bel_set (bel_set hW8 (by omega) _ _) (by omega) _ _) (heap_set2 HC9 _ _)⟩
      case rest =>
        obtain ⟨k, rfl, rfl, hE⟩ := hcut
        have E8 := Lib.hid hE
        clear hE HkW hbW E7
        have k_c0 := E8.out.cellv 0 rfl 0 _ rfl
        have k_c1 := E8.out.cellv 0 rfl 1 _ rfl
        have k_a0 := E8.out.cellv 2 rfl 0 _ rfl
        have k_a1 := E8.out.cellv 2 rfl 1 _ rfl
        have k_r1 := E8.out.cellv 1 rfl 1 _ rfl
        go_wp2_with fail
        refine (CS.out _).mono ?_
        rintro e w10 ⟨rfl, hB⟩
        have E9 := Lib.hid (E8.out.step hB)
        clear E8 hB  
        clear k_c0 k_c1 k_a0 k_a1 k_r1
        go_wp2
        go_ret
        exact ⟨rfl, E9.out.bel⟩
end Go.Proofs.Ytdngbmoippadhaa
