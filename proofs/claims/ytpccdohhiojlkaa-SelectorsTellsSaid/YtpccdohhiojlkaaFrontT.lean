/- The document's told, Front and Back (layer 5); alphabet and place (layer 12). -/
import Derived.Test.YtpccdohhiojlkaaFrontW
import Derived.Test.YtpccdohhiojlkaaRefBit
import Derived.Test.YtpccdohhiojlkaaRest
import Derived.Test.YtpccdohhiojlkaaKit2
namespace Go.Proofs.Ytpccdohhiojlkaa
open Go.RowKit
set_option linter.unusedVariables false

theorem al_get (p : List Nat) (i n : Nat) (h : p[i]? = some n) (hi : i < (al p).size) : (al p)[i] = UInt8.ofNat n := by
  have h1 := get_list (al p) i hi
  rw [al_list, List.getElem?_map, h] at h1
  simpa using h1.symm
theorem u8_ofNat (n : Nat) (h : n < 256) : (UInt8.ofNat n).toNat = n := UInt8.toNat_ofNat_of_lt' (by simpa using h)
theorem Perm.small {t : Nat} {p : List Nat} (h : Perm t p) (ht : t ≤ 6) : ∀ x ∈ p, x < 256 := fun x hx => by have := h.mem.1 hx; omega
theorem Perm.al_nodup {t : Nat} {p : List Nat} (h : Perm t p) (ht : t ≤ 6) : (al p).data.toList.Nodup := by
  rw [al_list]
  have hs := h.small ht
  exact List.Pairwise.map UInt8.ofNat (fun a b hab e => by exact hab e) (h.nodup.imp_of_mem fun {a b} ha hb hab => fun e => hab (ofNat_inj (hs a ha) (hs b hb) e))
/-- front, of numbers -/
theorem rfront_al (W : World) (p : List Nat) (k : Nat) (hp : p.length ≤ 6) (hk : k < p.length) :
    Calls Try.prog 45 #[.string (al p), .int .i64 (k : Nat)] W fun e w' => e = .returned (.string (al (mtf p k))) ∧ Below W.heap.size W w' := by
  refine (rfront5_any W (al p) k (by rw [al_size]; omega) (by rw [al_size]; exact hk)).mono ?_
  rintro e w' ⟨rfl, m, rfl⟩
  rw [front_al p k hk]
  exact ⟨rfl, below_drewN (Below.refl _ _) _⟩
set_option maxRecDepth 100000 in
set_option maxHeartbeats 1600000 in
theorem rtold_any (w : World) (t : Nat) (p ns : List Nat) (ht : t ≤ 6) (hp : Perm t p) (hn : ∀ n ∈ ns, n < t) (hl : ns.length ≤ 1048576) :
    Calls Try.prog 42 #[.string (al p), .string (al ns)] w fun e w' => ∃ v s', e = .returned (.tuple #[v, .string s', .int .i64 0]) ∧ OwnInts w' w.heap.size v (ints (atsL p ns)) ∧ Below w.heap.size w w' := by
  obtain ⟨N, hN⟩ : ∃ N, ns.length = N := ⟨_, rfl⟩
  have hsz : (al ns).size = N := by rw [al_size, hN]
  have CR : Hid (Calls Try.prog 44 #[.string (al p)] w fun e w' => e = .returned (.bool true) ∧ w = w') := rright5_any w (al p) (by rw [al_size, hp.len]; omega) (hp.al_nodup ht)
  have HGet : Hid (∀ (i n : Nat), ns[i]? = some n → ∀ (hi : i < (al ns).size), (al ns)[i] = UInt8.ofNat n) := fun i n h hi => al_get ns i n h hi
  obtain ⟨T, hT⟩ : ∃ T, atsL p ns = T := ⟨_, rfl⟩
  have HT : Hid (([] : List Nat) ++ atsL p (ns.drop 0) = T) := by show _ = _; rw [List.drop_zero, List.nil_append, hT]
  have HT2 := Lib.hid hT
  have HNN := Lib.hid hN
  have HN := Lib.hid hn
  have hTl : T.length = N := by rw [← hT, length_atsL, hN]
  have HP0 := Lib.hid hp
  rw [hN] at hl
  generalize al ns = sns at *
  clear hT hn hN hp
  go_enter Try.func42, Try.ntmps42
  go_wp2_with fail
  refine CR.out.mono ?_
  rintro e w_ ⟨rfl, rfl⟩
  clear CR
  go_wp2_with fail
  go_loopw [8, 9, 10] (fun nv ov iv wr => ∃ (i : Nat) (q D : List Nat), i ≤ N ∧ iv = .int .i64 i ∧ nv = .string (al q) ∧ Hid (Perm t q) ∧ Hid (D ++ atsL q (ns.drop i) = T) ∧ D.length = i ∧ Hid (OwnInts wr w.heap.size ov (ints D)) ∧ Hid (Below w.heap.size w wr)) (fun _ _ iv _ => N + 1 - (intOf iv).toNat)
  case atStart => exact ⟨0, p, [], Nat.zero_le _, rfl, rfl, HP0, HT, rfl, OwnInts.nil _ _, Below.refl _ _⟩
  case round =>
    clear HT
    obtain ⟨i, q, D, hi, rfl, rfl, HP, HD, hDl, HO, HB⟩ := hrel
    by_cases hlt : i < N
    · obtain ⟨n, hn⟩ : ∃ n, ns[i]? = some n := ⟨_, List.getElem?_eq_getElem (by rw [HNN.out]; exact hlt)⟩
      have hnt := HN.out n (List.mem_of_getElem? hn)
      have hx := HGet.out i n hn (by rw [hsz]; exact hlt)
      have hu := u8_ofNat n (by omega)
      have hm : n ∈ q := HP.out.mem.2 hnt
      have hq := HP.out.len
      have hk : q.idxOf n < q.length := List.idxOf_lt_length_of_mem hm
      have CP : Hid (∀ W, Calls Try.prog 48 #[.string (al q), .int .u8 (n : Nat)] W fun e w' => e = .returned (.int .i64 (q.idxOf n : Nat)) ∧ W = w') := fun W => by
        have := rplace5_any W (al q) (UInt8.ofNat n) (by rw [al_size]; omega)
        rw [plF_al q n (HP.out.small ht) hm, hu] at this
        exact this
      have CF : Hid (∀ W, Calls Try.prog 45 #[.string (al q), .int .i64 (q.idxOf n : Nat)] W fun e w' => e = .returned (.string (al (mtf q (q.idxOf n)))) ∧ Below W.heap.size W w') := fun W => rfront_al W q _ (by omega) hk
      have HP2 := Lib.hid (HP.out.mtf (k := q.idxOf n) (by omega))
      have HD2 : Hid ((D ++ [q.idxOf n]) ++ atsL (mtf q (q.idxOf n)) (ns.drop (i + 1)) = T) := by
        show _ = _
        rw [← HD.out, List.drop_eq_getElem_cons (i := i) (l := ns) (by rw [HNN.out]; exact hlt), atsL]
        rw [List.getElem?_eq_getElem (by rw [HNN.out]; exact hlt)] at hn
        injection hn with hn
        rw [hn]
        simp
      have hkt : q.idxOf n < 6 := by omega
      generalize mtf q (q.idxOf n) = q2 at *
      generalize q.idxOf n = k at *
      have hz := HB.out.size
      have hil : i < sns.size := by omega
      have hix : (sns[i]).toNat = n := by rw [hx, hu]
      clear hn hm HD hu hx HP hk
      go_wp2_with fail
      refine (CP.out _).mono ?_
      rintro e w_ ⟨rfl, rfl⟩
      clear CP hix
      go_wp2_with
        (at_builtin
         refine wpList_append_ints rfl _ _ rfl w.heap.size _ (ints D) rfl (HO.out.alloc _) (wr.heap.size + 1) _ [(k : Int)] rfl (IsInts.new wr [(k : Int)] _ _ _ rfl rfl rfl (by simp [maxLen])) (by rw [length_ints]; simp; omega) (by simp; omega) ?_
         intro q' c' w1 hown1 hg1 hat1
         have HO1 : Hid (OwnInts w1 w.heap.size (.slice q' ((ints D).length + [(k : Int)].length) c') (ints (D ++ [k]))) := by
           show OwnInts _ _ _ _
           rw [show ints (D ++ [k]) = ints D ++ [(k : Int)] by simp [ints]]
           exact hown1
         have HB1 := Lib.hid ((HB.out.alloc hz _).grown hg1 (by simp; omega) (fun k hk => own_ge HO.out hk))
         clear hg1 hat1 hown1)
      refine (CF.out _).mono ?_
      rintro e w2 ⟨rfl, hB2⟩
      have HO2 := Lib.hid (HO1.out.below hB2)
      have HB2 := Lib.hid (bel_call hB2 HB1.out)
      clear hB2 CF HO1 HB1 HO HB
      go_wp2_with fail
      go_roundw
      case rel => exact ⟨i + 1, q2, D ++ [k], by omega, by go_num, rfl, HP2, HD2, by rw [List.length_append, hDl]; rfl, HO2, HB2⟩
      case measure => simp [intOf]; omega
    · obtain rfl : i = N := by omega
      have hD : D = T := by
        have := HD.out
        rw [List.drop_of_length_le (by rw [HNN.out]; exact Nat.le_refl _)] at this
        simpa [atsL] using this
      subst hD
      clear HD
      go_wp2_with fail
      go_ret3
      exact ⟨_, _, rfl, by rw [HT2.out]; exact HO.out, HB.out⟩
set_option maxHeartbeats 800000 in
theorem rfrontL_any (w : World) (t : Nat) (p ns : List Nat) (ht : t ≤ 6) (hp : Perm t p) (hn : ∀ n ∈ ns, n < t) (hl : ns.length ≤ 1048576) :
    Calls Try.prog 27 #[.string (al p), .string (al ns)] w fun e w' => ∃ v, e = .returned (.tuple #[v, .int .i64 0]) ∧ OwnInts w' w.heap.size v (ints (atsL p ns)) ∧ Below w.heap.size w w' := by
  have CT : Hid (Calls Try.prog 42 #[.string (al p), .string (al ns)] w fun e w' => ∃ v s', e = .returned (.tuple #[v, .string s', .int .i64 0]) ∧ OwnInts w' w.heap.size v (ints (atsL p ns)) ∧ Below w.heap.size w w') := rtold_any w t p ns ht hp hn hl
  clear hp hn hl
  generalize al p = s1 at *
  generalize al ns = s2 at *
  go_enter Try.func27, Try.ntmps27
  go_wp2_with fail
  refine CT.out.mono ?_
  rintro e w1 ⟨v, s', rfl, ho, hB⟩
  have HO := Lib.hid ho
  have HB := Lib.hid hB
  clear ho hB CT
  go_wp2_with fail
  go_ret2
  exact ⟨_, rfl, HO.out, HB.out⟩
theorem alphabet_any (w : World) (t : Nat) (ht : t ≤ 6) :
    Calls Try.prog 28 #[.int .i64 (t : Nat)] w fun e w' => e = .returned (.string (al (List.range t))) ∧ w = w' := by
  have ha : (⟨#[0, 1, 2, 3, 4, 5]⟩ : ByteArray).extract 0 t = al (List.range t) := by
    have : ∀ t : Fin 7, (⟨#[0, 1, 2, 3, 4, 5]⟩ : ByteArray).extract 0 t.val = al (List.range t.val) := by decide
    exact this ⟨t, by omega⟩
  have hs : (⟨#[0, 1, 2, 3, 4, 5]⟩ : ByteArray).size = 6 := by decide
  rw [← ha]
  clear ha
  go_enter Try.func28, Try.ntmps28
  go_wp2
  go_ret
  exact ⟨rfl, rfl⟩
end Go.Proofs.Ytpccdohhiojlkaa
