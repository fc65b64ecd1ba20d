/- DeltaForms: the walk. -/
import Derived.Test.YtdngbmoippadhaaLaw09Parts
import Derived.Test.YtdngbmoippadhaaEnv2
import Derived.Test.YtdngbmoippadhaaTurn
import Derived.Deep.RegionHeld3
import Derived.Deep.DeepCutAuto
import Derived.StillTailTactics
namespace Go.Proofs.Ytdngbmoippadhaa
open Go.RowKit
set_option linter.unusedVariables false

theorem takeR_err (s : List UInt8) (a c : Nat) (e : Int) (h : takeR s a c = .error e) : e = 2 ∨ e = 3 := by
  rcases Nat.lt_or_ge (8 * s.length) a with ha | ha
  · rw [takeR_past s a c ha] at h
    injection h with h
    omega
  · rw [takeR_deltaP s a c ha] at h
    cases hd : deltaP c (rest s a) with
    | ok z => rw [hd] at h; cases h
    | error e' =>
      rw [hd] at h
      simp only [placed, Except.error.injEq] at h
      subst h
      exact deltaP_err _ _ _ hd
theorem forms_ok (s : List UInt8) (c : Nat) (l : List Nat) (x : Nat) (hc : 0 < c) (h : takeR s 0 c = .ok (l, x)) : l.length = c ∧ (∀ n ∈ l, 1 ≤ n ∧ n ≤ 20) ∧ (deltaL l).length ≤ x ∧ x ≤ 8 * s.length ∧ ((deltaL l).length = x → sameB s 0 (B.pack (deltaL l)) ((deltaL l).length : Nat) = true) := by
  rw [takeR_deltaP s 0 c (Nat.zero_le _)] at h
  cases hd : deltaP c (rest s 0) with
  | error e => rw [hd] at h; cases h
  | ok z =>
    obtain ⟨l', r⟩ := z
    rw [hd] at h
    simp only [placed, Except.ok.injEq, Prod.mk.injEq] at h
    obtain ⟨rfl, rfl⟩ := h
    obtain ⟨g1, g2, p, hp, g3, g4⟩ := deltaP_short c _ _ _ hc hd
    have hcl := congrArg List.length hp
    rw [length_rest, List.length_append] at hcl
    refine ⟨g1, g2, by omega, by omega, fun he => ?_⟩
    have h5 := g4 (by omega)
    unfold sameB
    rw [rightB_pack]
    simp only [Bool.true_and, Bool.and_eq_true, decide_eq_true_eq]
    refine ⟨⟨by omega, by omega⟩, fun i hi => ?_⟩
    rw [Int.toNat_natCast] at hi
    rw [B.bitAt_pack, Int.toNat_zero, Nat.zero_add]
    have h6 := B.getD_slice s 0 (8 * s.length - 0) i (by omega)
    rw [Nat.zero_add] at h6
    rw [← h6]
    show (rest s 0).getD i false = _
    rw [hp, h5, List.getD_eq_getElem?_getD, List.getD_eq_getElem?_getD, List.getElem?_append_left hi]

set_option maxRecDepth 100000 in
set_option maxHeartbeats 6400000 in
theorem dforms_walk (w : World) (v : Value) (raw : List Int) (s : ByteArray) (n which : Int) (hv : IsInts w w.heap.size v raw) (hr : I64s raw) (hs : s.size ≤ 9223372036854775807) (hn : -9223372036854775808 ≤ n) (hn' : n ≤ 9223372036854775807) (hk : -9223372036854775808 ≤ which) (hk' : which ≤ 9223372036854775807) :
    Calls Try.prog 8 #[v, .string s, .int .i64 n, .int .i64 which] w fun e w' => e = .returned (.bool true) ∧ Below w.heap.size w w' := by
  have HRW := Lib.hid hv
  have hml := lensF_mem raw
  obtain ⟨hl2, hl60⟩ := lensF_len raw
  obtain ⟨L, hL⟩ : ∃ L : Nat, L = min s.size 60 := ⟨_, rfl⟩
  have hL1 : (if (60 : Int) < s.size then 60 else (s.size : Int)) = L := by rw [hL]; split <;> omega
  have hL2 : L ≤ s.size := by omega
  have hL3 : L ≤ 60 := by omega
  have hfr := front_size s L hL2
  unfold front at hfr
  have hp := pickF_lt n 20 (by omega)
  obtain ⟨a, ha⟩ : ∃ k : Nat, pickF n 20 = (k : Int) := ⟨(pickF n 20).toNat, by omega⟩
  obtain ⟨m, hm⟩ : ∃ m, m = 2 + a := ⟨_, rfl⟩
  have hma : (2 : Int) + (a : Int) = (m : Int) := by omega
  have hm2 : 2 ≤ m := by omega
  have hm22 : m ≤ 22 := by omega
  have HA := Lib.hid ha
  have CL : Hid (∀ W, IsInts W W.heap.size v raw → Calls Try.prog 10 #[v] W fun e w' => ∃ q c, e = .returned (.slice q (lensF raw).length c) ∧ IsInts w' w'.heap.size (.slice q (lensF raw).length c) (ints (lensF raw)) ∧ Below W.heap.size W w') := fun W h => lens09_is W v raw h hr
  have CP : Hid (∀ W (u : Value), IsInts W W.heap.size u (ints (lensF raw)) → Calls Try.prog 11 #[u] W fun e w' => e = .returned (.tuple #[.agg #[.string (txt (deltaL (lensF raw))), .int .i64 ((deltaL (lensF raw)).length : Nat)], .int .i64 0]) ∧ Below W.heap.size W w') := fun W u h => delta_put_ok W u _ h (by omega) (by omega) hml
  have hdb := length_deltaL (lensF raw) (fun m hm => (hml m hm).2)
  have hdb2 := length_deltaL_dist (lensF raw)
  obtain ⟨t, ht⟩ : ∃ t, txt (deltaL (lensF raw)) = t := ⟨_, rfl⟩
  have hts : t.size ≤ 400 := by rw [← ht, txt_size]; omega
  have hpos : 0 < t.size := by rw [← ht, txt_size]; omega
  rw [ht] at CP
  obtain ⟨d0, hd0⟩ : ∃ d0, (deltaL (lensF raw)).length = d0 := ⟨_, rfl⟩
  rw [hd0] at CP
  generalize lensF raw = l at *
  have hte : t.toList.isEmpty = false := by
    rw [ByteArray.toList_eq, List.isEmpty_eq_false_iff]
    intro hq
    have h3 : t.data.toList.length = t.size := by simp
    rw [hq] at h3
    simp at h3
    omega
  have hx := pickF_lt which (8 * (t.size : Int)) (by omega)
  obtain ⟨x, hxx⟩ : ∃ k : Nat, pickF which (8 * (t.size : Int)) = (k : Int) := ⟨(pickF which (8 * (t.size : Int))).toNat, by omega⟩
  have hx1 : x < 8 * t.size := by omega
  have Hxx := Lib.hid hxx
  clear hv hr hml hdb hdb2 hL hp ha hm ht hd0 hx hxx hl2 hl60
  go_enter Try.func8, Try.ntmps8
  have E0 := Lib.hid (Env.nil w)
  go_wp2_with fail
  refine (awake9_any _).mono ?_
  rintro e w1 ⟨rfl, hB⟩
  have E1 := Lib.hid (E0.out.step hB)
  clear E0 hB  
  go_wp2_with fail
  refine (CL.out _ (E1.out.old HRW.out)).mono ?_
  rintro e w2 ⟨q1, c1, rfl, hv, hB⟩
  have E2 := Lib.hid ((E1.out.step hB).add hv)
  clear E1 hB hv 
  go_wp2_with fail
  refine (CP.out _ _ (E2.out.get 0 rfl)).mono ?_
  rintro e w3 ⟨rfl, hB⟩
  have E3 := Lib.hid (E2.out.step hB)
  clear E2 hB  
  have E4 := Lib.hid (E3.out.box #[.string t, .int .i64 (d0 : Nat)] 27 (w3.heap.size) (by simp))
  clear E3 
  have k_b0 := E4.out.cellv 0 rfl 0 _ rfl
  go_wp2_with fail
  obtain ⟨WB, hWB⟩ : ∃ WB, (w3.alloc (.cells #[.string t, .int .i64 (d0 : Nat)] 27)) = WB := ⟨_, rfl⟩
  rw [hWB] at E4 ⊢
  clear hWB
  rw [Lib.run_convert_string_bytes WB 9 31 5 t Try.underlying9 Try.underlying31 Try.underlying5]
  have hc1 := Lib.bytesWorld_cell WB 5 t (x / 8) (by omega)
  have hcs : Hid (∀ j, j < t.size → (Lib.bytesWorld WB 5 t).cell? ⟨WB.heap.size, j, none⟩ = some (.int .u8 ((t.data.toList.getD j 0).toNat : Nat))) := fun j hj => Lib.bytesWorld_cell WB 5 t j hj
  have hn1 := Lib.bytesWorld_at_new WB 5 t
  have ho1 := Lib.bytesWorld_at_old WB 5 t
  have hs1 := Lib.bytesWorld_size WB 5 t
  have hf1 : (Lib.bytesWorld WB 5 t).frozen? ⟨WB.heap.size, x / 8, none⟩ = false := by
    have hsz1 : x / 8 < (Lib.bytesCells WB 5 t).size := by simp [Lib.bytesCells]; omega
    simp [World.frozen?, hn1]; omega
  have hBc : Below WB.heap.size WB (Lib.bytesWorld WB 5 t) := ⟨rfl, rfl, rfl, by rw [hs1]; omega, fun k hk => ho1 k hk⟩
  obtain ⟨y, hy⟩ : ∃ y, (t.data.toList.getD (x / 8) 0).toNat = y := ⟨_, rfl⟩
  rw [hy] at hc1
  generalize Lib.bytesWorld WB 5 t = WC at *
  have hd : (x : Int).tdiv 8 = (x : Int) / 8 := Int.tdiv_eq_ediv_of_nonneg (by omega)
  have hm : (x : Int).tmod 8 = (x : Int) % 8 := Int.tmod_eq_emod_of_nonneg (by omega)
  have hq1 : 0 ≤ (x : Int) / 8 := by omega
  have hq2 : (x : Int) / 8 < (t.size : Int) := by omega
  have hq3 : ((x : Int) / 8).toNat = x / 8 := by omega
  have hq4 : 0 ≤ (x : Int) % 8 := by omega
  have hq5 : ((x : Int) % 8).toNat = x % 8 := by omega
  have hq6 : IntKind.i64.wrap ((x : Int) / 8) = (x : Int) / 8 := IntWalk.i64_in _ (by omega)
  have hx8 : x / 8 < t.size := by omega
  have Hy := Lib.hid hy
  have HBc := Lib.hid hBc
  clear hn1 ho1 hy hBc
  go_wp2_with fail
  refine (pick09_any which (8 * (t.size : Int)) _ hk hk' (by omega) (by omega)).mono ?_
  rintro e w4 ⟨rfl, rfl⟩
  rw [Hxx.out]
  go_wp2_with fail
  go_still_tail 12, (by kernel_rfl)
  go_wp2_with fail
  have hy256 : y < 256 := by rw [← Hy.out]; exact UInt8.toNat_lt _
  have hr256 : 128 / 2 ^ (x % 8) < 256 := Nat.lt_of_le_of_lt (Nat.div_le_self _ _) (by omega)
  have hxr : y ^^^ (128 / 2 ^ (x % 8)) < 256 := Nat.xor_lt_two_pow (n := 8) hy256 hr256
  obtain ⟨vb, hvv⟩ : ∃ v : UInt8, v.toNat = y ^^^ (128 / 2 ^ (x % 8)) := ⟨UInt8.ofNat (y ^^^ (128 / 2 ^ (x % 8))), by rw [UInt8.toNat_ofNat', Nat.mod_eq_of_lt hxr]⟩
  have hbx : bits .xor .u8 (y : Int) (128 / 2 ^ (x % 8)) = (vb.toNat : Int) := by
    rw [hvv, ← u8_xor_nat _ _ hy256 hr256]; congr 1
  rw [hbx]
  obtain ⟨u, hu⟩ : ∃ u, t.data.toList.set (x / 8) vb = u := ⟨_, rfl⟩
  have hul : u.length = t.size := by rw [← hu]; simp
  have hcu : ∀ j (hj : j < u.length), ((WC.setCell ⟨WB.heap.size, x / 8, none⟩ (.int .u8 (vb.toNat : Int))).drew).cell? ((⟨WB.heap.size, 0, none⟩ : Addr).add j) = some (.int .u8 (u[j].toNat : Int)) := by
    subst hu
    exact turned_cells WC WB.heap.size t.data.toList (x / 8) vb (by simpa using hx8) (by simpa using hcs.out)
  have hB7 : Below WB.heap.size WB ((WC.setCell ⟨WB.heap.size, x / 8, none⟩ (.int .u8 (vb.toNat : Int))).drew) := (HBc.out.setCell (p := ⟨WB.heap.size, x / 8, none⟩) (Nat.le_refl _) _).drew
  have HYx : Hid (vb.toNat = (t.data.toList.getD (x / 8) 0).toNat ^^^ (128 / 2 ^ (x % 8))) := by show _ = _; rw [Hy.out, hvv]
  have Hu := Lib.hid hu
  obtain ⟨W7, hW7⟩ : ∃ W7, (WC.setCell ⟨WB.heap.size, x / 8, none⟩ (.int .u8 (vb.toNat : Int))).drew = W7 := ⟨_, rfl⟩
  rw [hW7] at hcu hB7 ⊢
  have E5 := Lib.hid (E4.out.step hB7)
  clear E4 hW7 hB7 hcs hc1 hf1 hs1 Hy hbx hu hvv hxr hr256 hy256 HBc hd hm hq1 hq2 hq3 hq4 hq5 hq6
  have hconv := run_convert_bytes_back (P := Try.prog) W7.drew 31 9 5 ⟨WB.heap.size, 0, none⟩ (grownCap WB t.size 0 5) u Try.underlying31 Try.underlying5 Try.underlying9 hcu
  rw [hul] at hconv
  have hus : (⟨u.toArray⟩ : ByteArray).size = t.size := by rw [← hul]; simp [ByteArray.size]
  generalize (⟨u.toArray⟩ : ByteArray) = y2 at *
  clear hcu
  go_cut [63, 64, 65] (fun sa sb sc wx => sa = .slice (some ⟨W7.heap.size, 0, none⟩) 2 2 ∧ sb = .int .i64 2 ∧ sc = .int .i64 0 ∧ Env w wx [(.slice q1 l.length c1, ints l)] ((W7.heap.size, #[.string (s.extract 0 L), .string y2], 9) :: [(w3.heap.size, #[.string t, .int .i64 (d0 : Nat)], 27)]))
  case first =>
    first | go_region_with (fail) | fail
    all_goals
      go_wp2_with fail
      go_meet
      exact ⟨rfl, rfl, rfl, (E5.out.box _ _ _ rfl).drew⟩
  case rest =>
    obtain ⟨rfl, rfl, rfl, hE⟩ := hcut
    have hE1 := hE.drop (m := []) (cs := [(W7.heap.size, #[.string (s.extract 0 L), .string y2], 9)]) (by simp) (by simp)
    have HE1 := Lib.hid hE1
    have hex : (s.extract 0 L).size ≤ 60 := by rw [hfr]; exact hL3
    generalize s.extract 0 L = y1 at *
    clear hE hE1 E5 hconv hfr hL1 hL2 hL3 Hu HYx
    go_wp2_with fail
    go_loopw [65] (fun iv wr => ∃ j : Nat, j ≤ 2 ∧ iv = .int .i64 j ∧ Env w wr [] [(W7.heap.size, #[.string y1, .string y2], 9)]) (fun iv _ => 3 - (intOf iv).toNat)
    case atStart => exact ⟨0, by omega, rfl, HE1.out⟩
    case round =>
      obtain ⟨j, hj, rfl, hE⟩ := hrel
      have HE := Lib.hid hE
      clear hE HE1
      by_cases hlt : j < 2
      · obtain ⟨z, hz, hzs⟩ : ∃ z : ByteArray, wr.cell? ⟨W7.heap.size, j, none⟩ = some (.string z) ∧ z.size ≤ 400 := by
          rcases (show j = 0 ∨ j = 1 by omega) with rfl | rfl
          · exact ⟨y1, HE.out.cellv 0 rfl 0 _ rfl, by omega⟩
          · exact ⟨y2, HE.out.cellv 0 rfl 1 _ rfl, by omega⟩
        have TO := Lib.hid (fun (W : World) l x h => take_ok W z 0 m l x (by omega) (by omega) (by omega) h)
        have TE := Lib.hid (fun (W : World) e h => take_er W z 0 m e (by omega) (by omega) (by omega) h)
        have hfo := forms_ok z.data.toList m
        go_wp2_with fail
        refine (pick09_any n 20 _ hn hn' (by omega) (by omega)).mono ?_
        rintro e w_ ⟨rfl, rfl⟩
        rw [HA.out]
        go_wp2_with fail
        cases hr : takeR z.data.toList 0 m with
        | error e =>
          have hee := takeR_err _ _ _ _ hr
          have C1 := Lib.hid (TE.out wr e hr)
          refine C1.out.mono ?_
          rintro ee w5 ⟨rfl, hB⟩
          have E5 := Lib.hid (HE.out.step hB)
          clear hB HE C1 TE TO hr hfo
          have hne : (e == (0 : Int)) = false := by rw [beq_eq_false_iff_ne]; omega
          go_wp2_with fail
          go_roundw
          case rel => exact ⟨j + 1, by omega, by go_num, E5.out⟩
          case measure => simp [intOf]; omega
        | ok p =>
          obtain ⟨l2, x2⟩ := p
          obtain ⟨g1, g2, g3, g4, g5⟩ := hfo l2 x2 (by omega) hr
          have g4' : x2 ≤ 8 * z.size := by simpa using g4
          have C1 := Lib.hid (TO.out wr l2 x2 hr)
          have CP2 : Hid (∀ W (u : Value), IsInts W W.heap.size u (ints l2) → Calls Try.prog 11 #[u] W fun e w' => e = .returned (.tuple #[.agg #[.string (txt (deltaL l2)), .int .i64 ((deltaL l2).length : Nat)], .int .i64 0]) ∧ Below W.heap.size W w') := fun W u h => delta_put_ok W u l2 h (by omega) (by omega) g2
          obtain ⟨sb, hsb⟩ : ∃ sb, sameB z.data.toList 0 (B.pack (deltaL l2)) ((deltaL l2).length : Nat) = sb := ⟨_, rfl⟩
          have CS : Hid (∀ W, Calls Try.prog 19 #[.string z, .int .i64 0, .agg #[.string (txt (deltaL l2)), .int .i64 ((deltaL l2).length : Nat)]] W fun e w' => e = .returned (.bool sb) ∧ Below W.heap.size W w') := fun W => by
            have := same_any W z (txt (deltaL l2)) 0 ((deltaL l2).length : Nat) (by omega) (by rw [txt_size]; omega) (by omega) (by omega)
            rw [txt_list, hsb] at this
            exact this
          rw [hsb] at g5
          generalize deltaL l2 = D2 at *
          obtain ⟨d2, hd2⟩ : ∃ d2, D2.length = d2 := ⟨_, rfl⟩
          rw [hd2] at CP2 CS g3 g5
          have hx3 : x2 ≤ 3200 := by omega
          clear hr hfo TO TE g1 g2 g4 g4' hsb hd2
          refine C1.out.mono ?_
          rintro ee w5 ⟨q5, c5, rfl, hv, hB⟩
          have E5 := Lib.hid ((HE.out.step hB).add hv)
          clear hB HE C1 hv
          go_wp2_with fail
          refine (CP2.out _ _ (E5.out.get 0 rfl)).mono ?_
          rintro ee w6 ⟨rfl, hB⟩
          have E6 := Lib.hid ((E5.out.step hB).box #[.string (txt D2), .int .i64 (d2 : Nat)] 27 w6.heap.size rfl)
          clear hB E5 CP2
          go_upto_region 14 with fail
          obtain ⟨W8, hW8⟩ : ∃ W8, w6.alloc (.cells #[.string (txt D2), .int .i64 (d2 : Nat)] 27) = W8 := ⟨_, rfl⟩
          rw [hW8] at E6 ⊢
          have HkW : Hid (∀ w' : World, Below W8.heap.size W8 w' → Below W8.heap.size W8 w' ∧ w'.cell? ⟨w6.heap.size, 0, none⟩ = some (.string (txt D2)) ∧ w'.cell? ⟨w6.heap.size, 1, none⟩ = some (.int .i64 (d2 : Nat))) := fun w' h => ⟨h, (E6.out.step h).cellv 0 rfl 0 _ rfl, (E6.out.step h).cellv 0 rfl 1 _ rfl⟩
          have hbW : Below W8.heap.size W8 W8 := Below.refl _ _
          obtain ⟨_, k00, k01⟩ := HkW.out W8 hbW
          have E8 := Lib.hid (E6.out.drop (m := []) (cs := [(W7.heap.size, #[.string y1, .string y2], 9)]) (by simp) (by simp))
          clear hW8 E6
          have t1 : decide (x2 < d2) = false := by simp; omega
          by_cases hdx : d2 = x2
          · obtain rfl : sb = true := g5 hdx
            have t2 : ((d2 : Int) == (x2 : Int)) = true := by rw [beq_iff_eq]; omega
            clear g5 hdx
            go_wp2_with fail
            first | go_region_with ((go_at_call 19; refine (CS.out _).mono ?_; rintro e w9 ⟨rfl, hB9⟩; have k10 := (HkW.out _ (bel_call hB9 (bel_drew hbW))).2.2)) | fail
            all_goals
              go_wp2_with fail
              go_roundw
              case rel => exact ⟨j + 1, by omega, by go_num, (E8.out.drew).step hB9⟩
              case measure => simp [intOf]; omega
          · have t2 : ((d2 : Int) == (x2 : Int)) = false := by rw [beq_eq_false_iff_ne]; omega
            clear g5 hdx
            cases sb
            all_goals
              go_wp2_with fail
              first | go_region_with ((go_at_call 19; refine (CS.out _).mono ?_; rintro e w9 ⟨rfl, hB9⟩; have k10 := (HkW.out _ (bel_call hB9 (bel_drew hbW))).2.2)) | fail
              all_goals
                go_wp2_with fail
                go_roundw
                case rel => exact ⟨j + 1, by omega, by go_num, (E8.out.drew).step hB9⟩
                case measure => simp [intOf]; omega
      · obtain rfl : j = 2 := by omega
        go_wp2
        go_ret
        exact ⟨rfl, HE.out.bel⟩
end Go.Proofs.Ytdngbmoippadhaa
