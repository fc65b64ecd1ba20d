/- Rows of bytes of one's own (for seats without layer 7). -/
import Derived.Test.YtpccdohhiojlkaaBitsWriter
import Derived.Test.YtpccdohhiojlkaaKit2
namespace Go.Proofs.Ytpccdohhiojlkaa
open Go.RowKit
set_option linter.unusedVariables false

theorem byte_of (c : Nat) (h : c < 256) : ((UInt8.ofNat c).toNat : Int) = (c : Int) := by simp; omega
theorem byteCells_one (c : Nat) (h : c < 256) : byteCells [UInt8.ofNat c] = [.int .u8 (c : Int)] := by
  unfold byteCells
  rw [List.map_cons, byte_of c h]; rfl
/-- bytes of one's own -/
def OwnBytes (w : World) (base : Nat) (v : Value) (xs : List UInt8) : Prop := w.ownsRow base 5 1 v xs.length (byteCells xs)
theorem OwnBytes.nil (w : World) (base : Nat) : OwnBytes w base (.slice none 0 0) [] := ⟨by simp [byteCells], .inl ⟨rfl, rfl⟩⟩
theorem OwnBytes.shape {w : World} {base : Nat} {v : Value} {xs : List UInt8} (h : OwnBytes w base v xs) : ∃ q c, v = .slice q xs.length c := by
  rcases h.2 with ⟨rfl, h0⟩ | ⟨g, cap, cur, rfl, _⟩
  · have := h.1
    rw [h0] at this
    rw [length_byteCells] at this
    have h1 : xs.length = 0 := by simpa using this
    rw [h1]
    exact ⟨_, _, rfl⟩
  · exact ⟨_, _, rfl⟩
/-- an append of one byte -/
theorem wpList_append_byte {w : World} {ops : Array Oper} {rest : List Oper} {o : Oper} {a : Act} {Q : Exit → Act → World → Prop} (hgd : o.guard = none) (s x : Operand)
    (ho : o.op = .call { callee := .builtin .append, args := #[s, x], argTypes := #[32, 32] })
    (base : Nat) (v : Value) (xs : List UInt8) (hs : a.eval s = v) (hown : OwnBytes w base v xs)
    (k : Nat) (c : Nat) (hc : c < 256) (hx : a.eval x = .slice (some ⟨k, 0, none⟩) 1 1) (hr : w.heap[k]? = some (.cells #[.int .u8 (c : Int)] 5 (0, 0)))
    (hlen : xs.length ≤ 1099511627776) (hbase : base ≤ w.heap.size)
    (h : ∀ q cap w', OwnBytes w' base (.slice q (xs.length + 1) cap) (xs ++ [UInt8.ofNat c]) → w.grownBy w' v.ownBlock → ((Value.slice q (xs.length + 1) cap).ownBlock = v.ownBlock ∨ (Value.slice q (xs.length + 1) cap).ownBlock = some w.heap.size) → wpList Try.prog ops Q rest (a.put o.dst (.slice q (xs.length + 1) cap)) w') :
    wpList Try.prog ops Q (o :: rest) a w := by
  obtain ⟨i0, hi, hz0, hz1, hz2⟩ := info_parts byte_info
  refine wpList_append_rd hgd s x 32 ho base 5 i0 (.int .u8 0) 1 1 Try.underlying32 hi hz0 hz1 hz2 rfl (by decide) v xs.length (byteCells xs) hs hown (k + 1) 1 _ (byteCells [UInt8.ofNat c]) hx ?_ (one_byteCells _) (by unfold maxLen; omega) (by omega) hbase ?_
  · refine ⟨by simp [byteCells], _, 1, rfl, Nat.le_refl _, by simp [maxLen], fun _ => ⟨k, 0, rfl, Nat.lt_succ_self _, fun i u hu => ?_⟩⟩
    rw [byteCells_one c hc] at hu
    rw [Nat.zero_add, cell_of_heap hr, ← hu]
    simp
  · intro v' w' h2 h3 h4
    have h5 : OwnBytes w' base v' (xs ++ [UInt8.ofNat c]) := by
      unfold OwnBytes
      rw [byteCells_append]
      simpa using h2
    obtain ⟨q, cp, rfl⟩ := h5.shape
    rw [show (xs ++ [UInt8.ofNat c]).length = xs.length + 1 by simp] at *
    exact h q cp w' h5 h3 h4
theorem own_bytes_ge {w : World} {base : Nat} {v : Value} {xs : List UInt8} (h : OwnBytes w base v xs) {k : Nat} (hk : v.ownBlock = some k) : base ≤ k := by
  rcases h.2 with ⟨rfl, _⟩ | ⟨g, cap, cur, rfl, hb, _⟩
  · simp [Value.ownBlock] at hk
  · obtain rfl : g = k := by simpa [Value.ownBlock] using hk
    exact hb
theorem OwnBytes.below {w w' : World} {base : Nat} {v : Value} {xs : List UInt8} (h : OwnBytes w base v xs) (hB : Below w.heap.size w w') : OwnBytes w' base v xs := ownsRow_below h hB
theorem OwnBytes.alloc {w : World} {base : Nat} {v : Value} {xs : List UInt8} (h : OwnBytes w base v xs) (o : Obj) : OwnBytes (w.alloc o) base v xs := World.ownsRow.alloc h o
end Go.Proofs.Ytpccdohhiojlkaa
