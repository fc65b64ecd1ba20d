/- CodeForms: the walk. -/
import Derived.Test.YtkicaimondpceaaCodeHelp
import Derived.Test.YtkicaimondpceaaBitsSame
namespace Go.Proofs.Ytkicaimondpceaa
open Go.RowKit
set_option linter.unusedVariables false

theorem num_wordB {l : List Nat} (hl : Code l) (k n : Nat) (h : l[k]? = some n) : B.num (wordB l k) = wordV l k := by
  unfold wordB
  rw [B.num_low, h]
  exact Nat.mod_eq_of_lt (wordV_lt hl h)
theorem sameB_take {l : List Nat} (hl : Code l) (u : List UInt8) (a : Nat) (k n : Nat) (h : l[k]? = some n) :
    sameB u (a : Int) (B.pack (wordB l k)) ((wordB l k).length : Nat) = true ↔ takeF l u (a : Int) = .ok (k, (a : Int) + n) := by
  have hw : (wordB l k).length = n := by rw [length_wordB, h]; rfl
  constructor
  · intro hs
    unfold sameB at hs
    simp only [Bool.and_eq_true, decide_eq_true_eq, Int.toNat_natCast] at hs
    obtain ⟨⟨⟨h1, h2⟩, h3⟩, h4⟩ := hs
    refine takeF_word hl u a k n ⟨h, by omega, by omega, ?_⟩
    rw [← num_wordB hl k n h, Int.toNat_natCast]
    congr 1
    apply List.ext_getElem (by rw [B.length_slice, hw])
    intro i hi1 hi2
    have e1 := B.getD_slice u a n i (by rw [hw] at hi2; exact hi2)
    have e2 := h4 i hi2
    rw [B.bitAt_pack, List.getD_eq_getElem?_getD, List.getElem?_eq_getElem hi2, Option.getD_some] at e2
    rw [List.getD_eq_getElem?_getD, List.getElem?_eq_getElem hi1, Option.getD_some] at e1
    rw [e1, e2]
  · intro hs
    obtain ⟨n1, ⟨h1, h2, h3, h4⟩, _⟩ := takeF_ok hs
    rw [h] at h1
    injection h1 with h1
    subst h1
    refine sameB_pack u a (wordB l k) (by omega) ?_
    refine B.num_inj (by rw [B.length_slice]) ?_
    rw [num_wordB hl k n h, hw]
    exact h4
theorem takeGo_err (l : List Nat) (u : List UInt8) (a e : Int) : ∀ ns : List Nat, takeGo l u a ns = .error e → e ≠ 0
  | [], h => by
    injection h with h
    omega
  | n :: ns, h => by
    rw [takeGo] at h
    split at h
    · rename_i h1
      injection h with h
      rw [← h]
      exact h1
    · split at h
      · cases h
      · exact takeGo_err l u a e ns h
theorem takeF_err {l : List Nat} {u : List UInt8} {a e : Int} (h : takeF l u a = .error e) : e ≠ 0 := takeGo_err l u a e _ h
/-- how many of the first symbols stand -/
def cntF (r : Except Int (Nat × Int)) (i : Nat) : Nat := match r with
  | .ok (s, _) => if s < i then 1 else 0
  | .error _ => 0
theorem cntF_zero (r : Except Int (Nat × Int)) : cntF r 0 = 0 := by cases r <;> simp [cntF]
theorem cntF_le (r : Except Int (Nat × Int)) (i : Nat) : cntF r i ≤ 1 := by
  cases r with
  | ok p => simp only [cntF]; split <;> omega
  | error e => simp [cntF]
theorem cntF_same {r : Except Int (Nat × Int)} {i : Nat} (h : ∀ b, r ≠ .ok (i, b)) : cntF r (i + 1) = cntF r i := by
  cases r with
  | ok p =>
    obtain ⟨s, b⟩ := p
    have : s ≠ i := fun e => h b (by rw [e])
    simp only [cntF]
    by_cases h1 : s < i
    · rw [if_pos h1, if_pos (by omega)]
    · rw [if_neg h1, if_neg (by omega)]
  | error e => rfl

set_option maxRecDepth 100000 in
set_option maxHeartbeats 6400000 in
theorem cforms_walk (w : World) (v : Value) (raw : List Int) (s : ByteArray) (at0 : Int) (hv : IsInts w w.heap.size v raw) (hr : I64s raw) (hs : s.size ≤ 9223372036854775807) (hat : -9223372036854775808 ≤ at0) (hat' : at0 ≤ 9223372036854775807) :
    Calls Try.prog 9 #[v, .string s, .int .i64 at0] w fun e w' => e = .returned (.bool true) ∧ Below w.heap.size w w' := by
  obtain ⟨L, hL⟩ : ∃ L : Nat, L = min s.size 20 := ⟨_, rfl⟩
  have hL1 : (if (20 : Int) < s.size then 20 else (s.size : Int)) = L := by rw [hL]; split <;> omega
  have hL2 : L ≤ s.size := by omega
  have hL3 : L ≤ 20 := by omega
  have hfr := front_size s L hL2
  unfold front at hfr
  clear hL
  have hpk := pickF_lt at0 165 (by omega)
  obtain ⟨a, ha⟩ : ∃ a : Nat, pickF at0 165 = (a : Int) := ⟨(pickF at0 165).toNat, by omega⟩
  have ha165 : a < 165 := by omega
  have HA := Lib.hid ha
  have HRW := Lib.hid hv
  have HR := Lib.hid hr
  clear hv hr hpk ha
  go_enter Try.func9, Try.ntmps9
  have E0 := Lib.hid (Env.nil w)
  go_wp2_with fail
  refine (awake08_any _).mono ?_
  rintro e w1 ⟨rfl, hB⟩
  have E1 := Lib.hid (E0.out.step hB)
  clear E0 hB  
  go_wp2_with fail
  refine (lens08_is _ _ raw 40 (E1.out.old HRW.out) HR.out (by omega) (by omega)).mono ?_
  rintro e w2 ⟨l, q1, c1, rfl, hv, hcode, hl60, hB⟩
  have E2 := Lib.hid ((E1.out.step hB).add hv)
  clear E1 hB hv
  obtain ⟨n, hn⟩ : ∃ n, l.length = n := ⟨_, rfl⟩
  have HN := Lib.hid hn
  have Hcode := Lib.hid hcode
  have hn2 := hcode.two
  rw [hn] at E2 hl60 hn2 ⊢
  clear hn hcode
  go_wp2_with fail
  refine (pick08_any at0 165 _ hat hat' (by omega) (by omega)).mono ?_
  rintro e w_ ⟨rfl, rfl⟩
  rw [HA.out]
  have CP : Hid (∀ W (u1 u2 : Value) (k : Nat), IsInts W W.heap.size u1 (ints l) → IsInts W W.heap.size u2 [(k : Int)] → k < n → Calls Try.prog 18 #[u1, u2] W fun e w' => e = .returned (.tuple #[.agg #[.string (txt (wordB l k)), .int .i64 ((wordB l k).length : Nat)], .int .i64 0]) ∧ Below W.heap.size W w') := fun W u1 u2 k h1 h2 h3 =>
    cput_nat W u1 u2 l [k] _ (by simp [putB]) h1 Hcode.out h2 (by simp) (fun x hx => by simp at hx; rw [HN.out, hx]; exact h3)
  generalize hT : s.extract 0 L = T at *
  have hTl : T.data.toList.length = L := by rw [← hfr]; simp
  have CS : Hid (∀ W (k : Nat) (bb : Bool), sameB T.data.toList (a : Int) (B.pack (wordB l k)) ((wordB l k).length : Nat) = bb → Calls Try.prog 24 #[.string T, .int .i64 (a : Nat), .agg #[.string (txt (wordB l k)), .int .i64 ((wordB l k).length : Nat)]] W fun e w' => e = .returned (.bool bb) ∧ Below W.heap.size W w') := fun W k bb h => by
    have hw : (wordB l k).length ≤ 20 := by rw [length_wordB]; exact getD_fits Hcode.out.fits k
    have h2 := same_any W T (txt (wordB l k)) (a : Int) ((wordB l k).length : Nat) (by omega) (by rw [txt_size]; omega) (by omega) (by omega)
    rw [txt_list, h] at h2
    exact h2
  have Hsame : Hid (∀ (k t : Nat), l[k]? = some t → (sameB T.data.toList (a : Int) (B.pack (wordB l k)) ((wordB l k).length : Nat) = true ↔ takeF l T.data.toList (a : Int) = .ok (k, (a : Int) + t))) := fun k t h => sameB_take Hcode.out _ _ k t h
  have Herr : Hid (∀ e, takeF l T.data.toList (a : Int) = .error e → e ≠ 0) := fun e h => takeF_err h
  have Hok : Hid (∀ s1 b1, takeF l T.data.toList (a : Int) = .ok (s1, b1) → s1 < n) := fun s1 b1 h => by
    obtain ⟨t, h1, _⟩ := takeF_ok h
    rw [← HN.out]
    exact (List.getElem?_eq_some_iff.1 h1.1).1
  have Hb : Hid (∀ (s1 : Nat) (b1 : Int) (t : Nat), l[s1]? = some t → takeF l T.data.toList (a : Int) = .ok (s1, b1) → b1 = (a : Int) + t) := fun s1 b1 t h1 h => by
    obtain ⟨t1, h2, h3⟩ := takeF_ok h
    have h4 := h2.1
    rw [h1] at h4
    injection h4 with h4
    rw [h3, h4]
  have CT : Hid (∀ W (u : Value) r, resT (takeF l T.data.toList (a : Int)) = r → IsInts W W.heap.size u (ints l) → Calls Try.prog 20 #[u, .string T, .int .i64 (a : Nat)] W fun e w' => e = .returned (.tuple #[.int .i64 r.1, .int .i64 r.2.1, .int .i64 r.2.2]) ∧ Below W.heap.size W w') := fun W u r h1 h =>
    take8_is W u l T a h Hcode.out (by omega) r h1
  generalize takeF l T.data.toList (a : Int) = r at *
  obtain ⟨x, b, z, hres⟩ : ∃ x b z, resT r = (x, b, z) := ⟨_, _, _, rfl⟩
  have CT1 := Lib.hid (fun W u h => CT.out W u (x, b, z) hres h)
  have Hres := Lib.hid hres
  clear CT hres hT hTl
  go_wp2_with fail
  refine (CT1.out _ _ (E2.out.get 0 rfl)).mono ?_
  rintro e w3 ⟨rfl, hB⟩
  have E3 := Lib.hid (E2.out.step hB)
  clear E2 hB  CT1
  go_wp2_with fail
  go_loopw [14, 15] (fun mv iv wr => ∃ k : Nat, k ≤ n ∧ iv = .int .i64 k ∧ mv = .int .i64 (cntF r k : Nat) ∧ Env w wr [(.slice q1 n c1, ints l)] []) (fun _ iv _ => n + 1 - (intOf iv).toNat)
  case atStart => exact ⟨0, Nat.zero_le _, rfl, by rw [cntF_zero]; rfl, E3.out⟩
  case round =>
    obtain ⟨k, hk, rfl, rfl, hE⟩ := hrel
    have EE := Lib.hid hE
    have hc1 := cntF_le r k
    clear hE
    by_cases hkn : k < n
    · obtain ⟨t, ht⟩ : ∃ t, l[k]? = some t := ⟨_, List.getElem?_eq_getElem (by rw [HN.out]; exact hkn)⟩
      have hwl : (wordB l k).length = t := by rw [length_wordB, ht]; rfl
      have ht20 := Hcode.out.fits t (List.mem_of_getElem? ht)
      have hsm := Hsame.out k t ht
      have Hlk : Hid (l[k]? = some t) := ht
      have CP1 := Lib.hid (fun W u1 u2 h1 h2 => CP.out W u1 u2 k h1 h2 hkn)
      have CS1 := Lib.hid (fun W bb h => CS.out W k bb h)
      clear ht
      rw [hwl] at CP1 CS1 hsm
      generalize wordB l k = wk at *
      go_wp2_with fail
      refine (CP1.out _ _ _ ((EE.out.alloc _).get 0 rfl) ((IsInts.new wr [(k : Int)] #[.int .i64 (k : Int)] _ _ rfl rfl rfl (by simp [maxLen])).mono (by simp))).mono ?_
      rintro e w6 ⟨rfl, hB⟩
      have E2 := Lib.hid ((EE.out.alloc _).step hB)
      have E3 := Lib.hid (E2.out.box #[.string (txt wk), .int .i64 (t : Nat)] 37 w6.heap.size rfl)
      have k_b0 := E3.out.cellv 0 rfl 0 _ rfl
      have k_b1 := E3.out.cellv 0 rfl 1 _ rfl
      clear hB
      go_wp2_with fail
      by_cases hst : r = .ok (k, (a : Int) + t)
      · refine (CS1.out _ true (hsm.2 hst)).mono ?_
        rintro e w7 ⟨rfl, hB⟩
        have E4 := Lib.hid (E3.out.step hB)
        clear k_b0 k_b1 hsm hB
        have k_b0 := E4.out.cellv 0 rfl 0 _ rfl
        have k_b1 := E4.out.cellv 0 rfl 1 _ rfl
        obtain ⟨rfl, rfl, rfl⟩ : x = (k : Int) ∧ b = (a : Int) + t ∧ z = 0 := by
          have := Hres.out
          rw [hst] at this
          injection this with h1 h2
          injection h2 with h2 h3
          exact ⟨h1.symm, h2.symm, h3.symm⟩
        have Hcn : Hid (cntF r (k + 1) = cntF r k + 1) := by
          show _ = _
          rw [hst]
          simp [cntF]
        have hw : IntKind.i64.wrap ((a : Int) + (t : Int)) = (a : Int) + (t : Int) := IntWalk.i64_in _ (by omega)
        clear hst
        go_wp2_with fail
        go_roundw
        case rel => exact ⟨k + 1, by omega, by go_num, by rw [Hcn.out]; go_num, E4.out.drop (fun p hp => hp) (fun p hp => by simp at hp)⟩
        case measure => simp [intOf]; omega
      · refine (CS1.out _ false (by rw [← Bool.not_eq_true, hsm]; exact hst)).mono ?_
        rintro e w7 ⟨rfl, hB⟩
        have E4 := Lib.hid (E3.out.step hB)
        have Hcn : Hid (cntF r (k + 1) = cntF r k) := by
          show _ = _
          refine cntF_same fun b1 hb => hst ?_
          rw [hb, Hb.out k b1 t Hlk.out hb]
        clear k_b0 k_b1 hsm hB hst
        go_wp2_with fail
        go_roundw
        case rel => exact ⟨k + 1, by omega, by go_num, by rw [Hcn.out], E4.out.drop (fun p hp => hp) (fun p hp => by simp at hp)⟩
        case measure => simp [intOf]; omega
    · obtain rfl : k = n := by omega
      cases hrr : r with
      | ok p =>
        obtain ⟨s1, b1⟩ := p
        have hlt := Hok.out s1 b1 hrr
        obtain rfl : z = 0 := by
          have := Hres.out
          rw [hrr] at this
          injection this with h1 h2
          injection h2 with h2 h3
          exact h3.symm
        rw [show cntF (.ok (s1, b1)) k = 1 by simp [cntF, hlt]]
        go_wp2
        go_ret
        exact ⟨by rfl, EE.out.bel⟩
      | error e1 =>
        have he := Herr.out e1 hrr
        obtain ⟨rfl, rfl, rfl⟩ : x = 0 ∧ b = 0 ∧ z = e1 := by
          have := Hres.out
          rw [hrr] at this
          injection this with h1 h2
          injection h2 with h2 h3
          exact ⟨h1.symm, h2.symm, h3.symm⟩
        have hz : (z == 0) = false := by rw [beq_eq_false_iff_ne]; exact he
        rw [show cntF (.error z) k = 0 from rfl]
        clear he hrr
        go_wp2
        go_ret
        exact ⟨by rfl, EE.out.bel⟩
end Go.Proofs.Ytkicaimondpceaa
