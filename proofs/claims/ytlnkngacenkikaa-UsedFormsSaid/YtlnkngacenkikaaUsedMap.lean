/- A set's rows; Alphabet. -/
import Derived.Test.YtlnkngacenkikaaUsedOf
import Derived.Test.YtlnkngacenkikaaBitsSame
import Derived.Test.YtlnkngacenkikaaKit2
namespace Go.Proofs.Ytlnkngacenkikaa
open Go.RowKit
set_option linter.unusedVariables false

theorem rowB_snoc (l : List UInt8) (k i : Nat) (h : i < 16) : (rowB l k).take (i + 1) = (rowB l k).take i ++ [hasB l (16 * k + i)] := by
  rw [List.take_succ_eq_append_getElem (by rw [length_rowB]; exact h)]
  simp [rowB]
theorem shl_one (x : Nat) (hx : x < 4294967296) : IntKind.u64.wrap ((x : Int) * 2) = ((2 * x : Nat) : Int) := by rw [IntKind.wrap_u64]; omega
theorem or_one (x : Nat) (hx : x < 4294967296) : bits BinOp.or IntKind.u64 ((x : Int) * 2) 1 = ((2 * x + 1 : Nat) : Int) := by
  have := or_bit x true (by omega)
  rw [show IntKind.u64.wrap ((x : Int) * 2) = (x : Int) * 2 by rw [IntKind.wrap_u64]; omega] at this
  exact this

set_option maxHeartbeats 800000 in
theorem row_set (w : World) (l : List UInt8) (k : Nat) (hk : k < 16) :
    Calls Try.prog 18 #[.agg (setC l), .int .i64 (k : Nat)] w fun e w' => e = .returned (.int .u64 (B.num (rowB l k) : Nat)) ∧ Below w.heap.size w w' := by
  obtain ⟨S, hS⟩ : ∃ S, setC l = S := ⟨_, rfl⟩
  rw [hS]
  have HS := Lib.hid hS
  clear hS
  have hi : (Try.prog.info? 47).map (·.size) = some S.size := by rw [← HS.out, setC_size]; exact set_info
  have Hi := Lib.hid hi
  clear hi
  go_enter Try.func18, Try.ntmps18
  go_wp2
  have hb : (w.alloc (.cells S 47)).heap[w.heap.size]? = some (.cells S 47 (0, 0)) := heap_new _ _ _ rfl
  have Hb := Lib.hid hb
  clear hb
  go_loopw [4, 6] (fun v i wr => ∃ j : Nat, j ≤ 16 ∧ i = .int .i64 j ∧ v = .int .u64 (B.num ((rowB l k).take j) : Nat) ∧ Hid (wr = w.alloc (.cells S 47))) (fun _ i _ => 16 - (intOf i).toNat)
  case atStart => exact ⟨0, Nat.zero_le _, rfl, rfl, Lib.hid rfl⟩
  case round =>
    obtain ⟨j, hj, rfl, rfl, hw⟩ := hrel
    by_cases hlt : j < 16
    · have hn := B.num_lt ((rowB l k).take j)
      rw [List.length_take, length_rowB, Nat.min_eq_left hj] at hn
      have hn2 : B.num ((rowB l k).take j) < 65536 := Nat.lt_of_lt_of_le hn (Nat.pow_le_pow_right (by omega) (show j ≤ 16 from hj))
      clear hn
      have hsn := rowB_snoc l k j hlt
      obtain ⟨x, hx⟩ : ∃ x, B.num ((rowB l k).take j) = x := ⟨_, rfl⟩
      obtain ⟨b, hbe⟩ : ∃ b, hasB l (16 * k + j) = b := ⟨_, rfl⟩
      have hnum : B.num ((rowB l k).take (j + 1)) = 2 * x + b.toNat := by rw [hsn, B.num_snoc, hx, hbe]
      have hc : (w.alloc (.cells S 47)).cell? ⟨w.heap.size, 16 * k + j, none⟩ = some (.bool (hasB l (16 * k + j))) := (cell_of_heap Hb.out (16 * k + j)).trans (by rw [← HS.out]; exact setC_get l (16 * k + j) (by omega))
      rw [hbe, ← hw.out, show 16 * k + j = k * 16 + j by omega] at hc
      rw [hx] at hn2 ⊢
      have hs : IntKind.u64.wrap ((x : Int) * 2) = (x : Int) * 2 := by rw [IntKind.wrap_u64]; omega
      have Hor := Lib.hid (or_one x (by omega))
      have Hnum := Lib.hid hnum
      clear hsn hx hbe hnum
      have i1 : ((k : Int) * 16 + (j : Int)).toNat = k * 16 + j := by omega
      cases b with
      | true =>
        go_wp2
        go_roundw
        case rel => exact ⟨j + 1, by omega, by go_num, by rw [Hnum.out, Hor.out]; rfl, hw⟩
        case measure => simp [intOf]; omega
      | false =>
        go_wp2
        go_roundw
        case rel => exact ⟨j + 1, by omega, by go_num, by rw [Hnum.out, Int.mul_comm]; simp, hw⟩
        case measure => simp [intOf]; omega
    · obtain rfl : j = 16 := by omega
      go_wp2
      go_ret
      refine ⟨ret_int (by rw [List.take_of_length_le (by rw [length_rowB]; exact Nat.le_refl _)]), ?_⟩
      rw [hw.out]
      exact (Below.refl _ _).alloc (Nat.le_refl _) _

theorem length_alpha_le (l : List UInt8) (n : Nat) (p : Nat → Bool) : (bytesP p n).length ≤ n := by rw [length_bytesP]; exact cntP_le _ _
theorem byte_of (c : Nat) (h : c < 256) : ((UInt8.ofNat c).toNat : Int) = (c : Int) := by simp; omega
theorem byteCells_one (c : Nat) (h : c < 256) : byteCells [UInt8.ofNat c] = [.int .u8 (c : Int)] := by
  unfold byteCells
  rw [List.map_cons, byte_of c h]; rfl
/-- bytes of one's own -/
def OwnBytes (w : World) (base : Nat) (v : Value) (xs : List UInt8) : Prop := w.ownsRow base 5 1 v xs.length (byteCells xs)
theorem OwnBytes.nil (w : World) (base : Nat) : OwnBytes w base (.slice none 0 0) [] := ⟨by simp [byteCells], .inl ⟨rfl, rfl⟩⟩
theorem OwnBytes.shape {w : World} {base : Nat} {v : Value} {xs : List UInt8} (h : OwnBytes w base v xs) : ∃ q c, v = .slice q xs.length c := by
  rcases h.2 with ⟨rfl, h0⟩ | ⟨g, cap, cur, rfl, _⟩
  · have := h.1
    rw [h0] at this
    rw [length_byteCells] at this
    have h1 : xs.length = 0 := by simpa using this
    rw [h1]
    exact ⟨_, _, rfl⟩
  · exact ⟨_, _, rfl⟩
/-- an append of one byte -/
theorem wpList_append_byte {w : World} {ops : Array Oper} {rest : List Oper} {o : Oper} {a : Act} {Q : Exit → Act → World → Prop} (hgd : o.guard = none) (s x : Operand)
    (ho : o.op = .call { callee := .builtin .append, args := #[s, x], argTypes := #[27, 27] })
    (base : Nat) (v : Value) (xs : List UInt8) (hs : a.eval s = v) (hown : OwnBytes w base v xs)
    (k : Nat) (c : Nat) (hc : c < 256) (hx : a.eval x = .slice (some ⟨k, 0, none⟩) 1 1) (hr : w.heap[k]? = some (.cells #[.int .u8 (c : Int)] 5 (0, 0)))
    (hlen : xs.length ≤ 1099511627776) (hbase : base ≤ w.heap.size)
    (h : ∀ q cap w', OwnBytes w' base (.slice q (xs.length + 1) cap) (xs ++ [UInt8.ofNat c]) → w.grownBy w' v.ownBlock → ((Value.slice q (xs.length + 1) cap).ownBlock = v.ownBlock ∨ (Value.slice q (xs.length + 1) cap).ownBlock = some w.heap.size) → wpList Try.prog ops Q rest (a.put o.dst (.slice q (xs.length + 1) cap)) w') :
    wpList Try.prog ops Q (o :: rest) a w := by
  obtain ⟨i0, hi, hz0, hz1, hz2⟩ := info_parts byte_info
  refine wpList_append_rd hgd s x 27 ho base 5 i0 (.int .u8 0) 1 1 Try.underlying27 hi hz0 hz1 hz2 rfl (by decide) v xs.length (byteCells xs) hs hown (k + 1) 1 _ (byteCells [UInt8.ofNat c]) hx ?_ (one_byteCells _) (by unfold maxLen; omega) (by omega) hbase ?_
  · refine ⟨by simp [byteCells], _, 1, rfl, Nat.le_refl _, by simp [maxLen], fun _ => ⟨k, 0, rfl, Nat.lt_succ_self _, fun i u hu => ?_⟩⟩
    rw [byteCells_one c hc] at hu
    rw [Nat.zero_add, cell_of_heap hr, ← hu]
    simp
  · intro v' w' h2 h3 h4
    have h5 : OwnBytes w' base v' (xs ++ [UInt8.ofNat c]) := by
      unfold OwnBytes
      rw [byteCells_append]
      simpa using h2
    obtain ⟨q, cp, rfl⟩ := h5.shape
    rw [show (xs ++ [UInt8.ofNat c]).length = xs.length + 1 by simp] at *
    exact h q cp w' h5 h3 h4
theorem own_bytes_ge {w : World} {base : Nat} {v : Value} {xs : List UInt8} (h : OwnBytes w base v xs) {k : Nat} (hk : v.ownBlock = some k) : base ≤ k := by
  rcases h.2 with ⟨rfl, _⟩ | ⟨g, cap, cur, rfl, hb, _⟩
  · simp [Value.ownBlock] at hk
  · obtain rfl : g = k := by simpa [Value.ownBlock] using hk
    exact hb
theorem bytesP_yes {p : Nat → Bool} {n : Nat} (h : p n = true) : bytesP p (n + 1) = bytesP p n ++ [UInt8.ofNat n] := by rw [bytesP_succ, h]; rfl
theorem bytesP_no {p : Nat → Bool} {n : Nat} (h : p n = false) : bytesP p (n + 1) = bytesP p n := by rw [bytesP_succ, h]; simp

theorem run_index_set (cs : Array Value) (k : Nat) (b : Bool) (hk : k < 256) (hs : cs.size = 256) (h : cs[k]? = some (.bool b)) (W : World) : (Instr.index 47 (.agg cs) (.int .i64 (k : Int))).run Try.prog W = .ok (.bool b) W := by
  have h2 : (sizeOf 4).run Try.prog W = .ok 1 W := by kernel_rfl
  simp [Instr.index, run_underlying Try.underlying47, asIntOf, part, h2, hk, h, go_sem]
set_option maxRecDepth 100000 in
set_option maxHeartbeats 1600000 in
theorem alphabet_any (w : World) (s : ByteArray) (hs : s.size ≤ 1000000) :
    Calls Try.prog 9 #[.string s] w fun e w' => e = .returned (.string ⟨(alphaL s.data.toList).toArray⟩) ∧ Below w.heap.size w w' := by
  have C := Lib.hid (of_set s w hs)
  unfold alphaL
  generalize s.data.toList = l at *
  obtain ⟨S, hS⟩ : ∃ S, setC l = S := ⟨_, rfl⟩
  rw [hS] at C
  have HS := Lib.hid hS
  clear hS
  have hSs : S.size = 256 := by rw [← HS.out]; exact setC_size _
  have HSs := Lib.hid hSs
  clear hSs
  go_enter Try.func9, Try.ntmps9
  go_wp2_with fail
  refine C.out.mono ?_
  rintro e w1 ⟨rfl, hB1⟩
  have HB1 := Lib.hid hB1
  clear hB1 C
  go_wp2_with fail
  go_loopw [3, 8] (fun ov iv wr => ∃ k : Nat, k ≤ 256 ∧ iv = .int .i64 k ∧ OwnBytes wr w.heap.size ov (bytesP (hasB l) k) ∧ Below w.heap.size w wr) (fun _ iv _ => 256 - (intOf iv).toNat)
  case atStart => exact ⟨0, Nat.zero_le _, rfl, OwnBytes.nil _ _, HB1.out⟩
  case round =>
    obtain ⟨k, hk, rfl, hown, hB⟩ := hrel
    have Hown := Lib.hid hown
    have hzB := hB.size
    have hlk := length_alpha_le l k (hasB l)
    clear hown
    by_cases hlt : k < 256
    · have hidx : ∀ W, (Instr.index 47 (.agg S) (.int .i64 (k : Int))).run Try.prog W = .ok (.bool (hasB l k)) W := by
        have h1 : S[k]? = some (.bool (hasB l k)) := by rw [← HS.out]; exact setC_get l k hlt
        exact run_index_set S k _ hlt HSs.out h1
      obtain ⟨b, hb⟩ : ∃ b, hasB l k = b := ⟨_, rfl⟩
      rw [hb] at hidx
      have Hb := Lib.hid hb
      clear hb
      cases b with
      | true =>
        go_wp2_with
          (at_builtin
           refine wpList_append_byte rfl _ _ rfl w.heap.size _ (bytesP (hasB l) k) rfl (Hown.out.alloc _) wr.heap.size k hlt rfl (heap_new _ _ _ rfl) (by omega) (by simp; omega) ?_
           intro q' c' w1 hown1 hg1 hat1
           have Hown1 := Lib.hid hown1
           have hB1 : Below w.heap.size w w1 := (hB.alloc (by omega) _).grown hg1 (by simp; omega) (fun j hj => own_bytes_ge Hown.out hj)
           clear hg1 hat1 hown1)
        go_roundw
        case rel => exact ⟨k + 1, by omega, by go_num, by rw [bytesP_yes Hb.out]; exact Hown1.out, hB1⟩
        case measure => simp [intOf]; omega
      | false =>
        go_wp2_with fail
        go_roundw
        case rel => exact ⟨k + 1, by omega, by go_num, by rw [bytesP_no Hb.out]; exact Hown.out, hB⟩
        case measure => simp [intOf]; omega
    · obtain rfl : k = 256 := by omega
      have hcv := convert_own _ Hown.out
      go_wp2_with fail
      go_ret
      exact ⟨rfl, hB⟩
end Go.Proofs.Ytlnkngacenkikaa
