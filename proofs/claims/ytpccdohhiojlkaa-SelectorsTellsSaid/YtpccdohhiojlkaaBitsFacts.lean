/- Plain facts on what the program's bits come to. -/
import Derived.Test.YtpccdohhiojlkaaOf
namespace Go.Proofs.Ytpccdohhiojlkaa
open Go.RowKit
set_option linter.unusedVariables false

/-- the text of bits -/
def txt (l : List Bool) : ByteArray := ⟨(B.pack l).toArray⟩
theorem txt_list (l : List Bool) : (txt l).data.toList = B.pack l := rfl
theorem txt_size (l : List Bool) : (txt l).size = (l.length + 7) / 8 := by
  rw [← B.length_pack]; rfl
theorem bitsVal_txt (l : List Bool) : bitsVal l = .agg #[.string (txt l), .int .i64 (l.length : Nat)] := rfl
theorem rightB_pack (l : List Bool) : rightB (B.pack l) (l.length : Nat) = true := by
  have := B.right_pack l
  unfold rightB
  simp only [Bool.and_eq_true, decide_eq_true_eq]
  refine ⟨⟨by omega, by rw [Int.toNat_natCast]; exact this.1⟩, fun i hi hn => this.2 i (by omega) hi⟩
theorem putL_pack (l : List Bool) (v : Nat) (n : Nat) (hn : n ≤ 64) : putL (B.pack l) (l.length : Nat) v n = some (l ++ B.low v n) := by
  unfold putL
  rw [rightB_pack, if_pos rfl, if_pos ⟨by omega, by omega⟩, Int.toNat_natCast, Int.toNat_natCast, B.slice_pack]
theorem getE_ok (s : List UInt8) (a n : Nat) (h : a + n ≤ 8 * s.length) (hn : n ≤ 64) : getE s a n = 0 := by
  unfold getE
  rw [if_neg (by omega), if_neg (by omega)]
theorem getV_ok (s : List UInt8) (a n : Nat) (h : a + n ≤ 8 * s.length) (hn : n ≤ 64) : getV s a n = (B.num (B.slice s a n) : Nat) := by
  unfold getV
  rw [if_neg (by omega), if_neg (by omega), Int.toNat_natCast, Int.toNat_natCast]
theorem len8_pack (l : List Bool) : l.length ≤ 8 * (B.pack l).length := by rw [B.length_pack]; omega
theorem getE_pack (l : List Bool) (a n : Nat) (h : a + n ≤ l.length) (hn : n ≤ 64) : getE (B.pack l) a n = 0 :=
  getE_ok _ _ _ (Nat.le_trans h (len8_pack l)) hn
theorem getV_pack (l : List Bool) (a n : Nat) (h : a + n ≤ l.length) (hn : n ≤ 64) : getV (B.pack l) a n = (B.num ((l.drop a).take n) : Nat) := by
  rw [getV_ok _ _ _ (Nat.le_trans h (len8_pack l)) hn, B.slice_pack_at _ _ _ h]
/-- rows of bits that are right -/
def pairOf (l : List Bool) : Pair := (txt l, (l.length : Nat))
theorem catFrom_pairs (ls : List (List Bool)) : ∀ l : List Bool, catFrom l (ls.map pairOf) = some (l ++ ls.flatten) := by
  induction ls with
  | nil => intro l; simp [catFrom]
  | cons m ls ih =>
    intro l
    rw [List.map_cons]
    unfold catFrom
    rw [show (pairOf m).1.data.toList = B.pack m from rfl, show (pairOf m).2 = ((m.length : Nat) : Int) from rfl, rightB_pack, if_pos rfl, Int.toNat_natCast, B.slice_pack, ih]
    simp
theorem pairBits_pairs (ls : List (List Bool)) : pairBits (ls.map pairOf) ≤ ls.flatten.length + 8 * ls.length := by
  induction ls with
  | nil => simp [pairBits]
  | cons m ls ih =>
    rw [List.map_cons]
    unfold pairBits
    rw [show (pairOf m).1.size = (m.length + 7) / 8 from txt_size m]
    simp only [List.flatten_cons, List.length_append, List.length_cons]
    omega
theorem pairsOk_pairs (ls : List (List Bool)) (h : ls.flatten.length < 9223372036854775807) : PairsOk (ls.map pairOf) := by
  intro p hp
  simp only [List.mem_map] at hp
  obtain ⟨l, hl, rfl⟩ := hp
  have : l.length ≤ ls.flatten.length := by
    clear h
    induction ls with
    | nil => simp at hl
    | cons m ls ih =>
      simp only [List.flatten_cons, List.length_append]
      rcases List.mem_cons.1 hl with rfl | h
      · omega
      · have := ih h; omega
  simp only [pairOf]
  omega
theorem length_rawBits (raw : List Int) (m : Nat) : (rawBits raw m).length ≤ m := by simp [rawBits, asBits, rawInts]; omega
theorem pow_cast (k : Nat) : ((2 : Int) ^ k) = ((2 ^ k : Nat) : Int) := by push_cast; rfl
theorem wrap_pow (k : Nat) (h : k < 64) : IntKind.u64.wrap (2 ^ k) = (2 : Int) ^ k := by
  have h1 : 2 ^ k < 18446744073709551616 := by
    have : 2 ^ k < 2 ^ 64 := Nat.pow_lt_pow_right (by omega) h
    simpa using this
  rw [IntKind.wrap_u64, pow_cast]
  generalize 2 ^ k = p at *
  omega
theorem pow_ne (k : Nat) : ¬ ((2 : Int) ^ k = 0) := by
  have := Nat.two_pow_pos k
  rw [pow_cast]; omega
theorem IsPairs.new (w : World) (k : Nat) (hk : k = w.heap.size) (ps : List Pair) (cs : Array Value) (h : cs.toList = pairCells ps) (hn : ps.length ≤ maxLen) :
    IsPairs (w.alloc (.cells cs 28)) (w.alloc (.cells cs 28)).heap.size (.slice (some ⟨k, 0, none⟩) ps.length ps.length) ps := by
  subst hk
  have hs : cs.size = ps.length * 2 := by rw [← Array.length_toList, h, length_pairCells]
  have := Rd.new w cs 28 2 ps.length hs hn
  unfold IsPairs
  rw [← h]
  simpa using this
/-- the program's value of bits -/
abbrev bv (l : List Bool) : Value := .agg #[.string (txt l), .int .i64 (l.length : Nat)]

theorem put_ok (w : World) (l : List Bool) (v n : Nat) (hl : l.length < 1099511627776) (hv : v < 18446744073709551616) (hn : n ≤ 64) :
    Calls Try.prog 18 #[.agg #[.string (txt l), .int .i64 (l.length : Nat)], .int .u64 v, .int .i64 n] w fun e w' =>
      e = .returned (.tuple #[.agg #[.string (txt (l ++ B.low v n)), .int .i64 ((l ++ B.low v n).length : Nat)], .int .i64 0]) ∧ Below w.heap.size w w' := by
  have hs := txt_size l
  refine (put_any w (txt l) (l.length : Nat) v n (by omega) hv (by omega) (by omega)).mono fun e w' h => ?_
  rw [txt_list, putL_pack _ _ _ hn] at h
  exact h

theorem get_ok (w : World) (l : List Bool) (a n : Nat) (hl : l.length < 1099511627776) (h : a + n ≤ l.length) (hn : n ≤ 64) :
    Calls Try.prog 30 #[.string (txt l), .int .i64 a, .int .i64 n] w fun e w' =>
      e = .returned (.tuple #[.int .u64 (B.num ((l.drop a).take n) : Nat), .int .i64 0]) ∧ w = w' := by
  have hs := txt_size l
  refine (get_any (txt l) a n w (by omega)).mono fun e w' h' => ?_
  rw [txt_list, getV_pack _ _ _ h hn, getE_pack _ _ _ h hn] at h'
  exact h'

theorem right_ok (w : World) (l : List Bool) (hl : l.length < 1099511627776) :
    Calls Try.prog 39 #[.agg #[.string (txt l), .int .i64 (l.length : Nat)]] w fun e w' => e = .returned (.bool true) ∧ Below w.heap.size w w' := by
  have hs := txt_size l
  refine (right_any (txt l) (l.length : Nat) w (by omega) (by omega) (by omega)).mono fun e w' h => ?_
  rw [txt_list, rightB_pack] at h
  exact h

theorem cat_ok (w : World) (v : Value) (ls : List (List Bool)) (hv : IsPairs w w.heap.size v (ls.map pairOf)) (hl : ls.flatten.length + 8 * ls.length < 1099511627776) :
    Calls Try.prog 17 #[v] w fun e w' =>
      e = .returned (.tuple #[.agg #[.string (txt ls.flatten), .int .i64 (ls.flatten.length : Nat)], .int .i64 0]) ∧ Below w.heap.size w w' := by
  have hb := pairBits_pairs ls
  refine (cat_any w v _ hv (pairsOk_pairs ls (by omega)) (by omega)).mono fun e w' h => ?_
  rw [catFrom_pairs, List.nil_append] at h
  exact h
theorem cat_is (w : World) (v : Value) (ls : List (List Bool)) (r : List Bool) (hr : ls.flatten = r) (hv : IsPairs w w.heap.size v (ls.map pairOf)) (hl : r.length + 8 * ls.length < 1099511627776) :
    Calls Try.prog 17 #[v] w fun e w' =>
      e = .returned (.tuple #[.agg #[.string (txt r), .int .i64 (r.length : Nat)], .int .i64 0]) ∧ Below w.heap.size w w' := by
  subst hr
  exact cat_ok w v ls hv hl
theorem put_is (w : World) (l : List Bool) (v n : Nat) (r : List Bool) (hr : l ++ B.low v n = r) (hl : l.length < 1099511627776) (hv : v < 18446744073709551616) (hn : n ≤ 64) :
    Calls Try.prog 18 #[.agg #[.string (txt l), .int .i64 (l.length : Nat)], .int .u64 v, .int .i64 n] w fun e w' =>
      e = .returned (.tuple #[.agg #[.string (txt r), .int .i64 (r.length : Nat)], .int .i64 0]) ∧ Below w.heap.size w w' := by
  subst hr
  exact put_ok w l v n hl hv hn
theorem put_nil (w : World) (v n : Nat) (r : List Bool) (hr : B.low v n = r) (hv : v < 18446744073709551616) (hn : n ≤ 64) :
    Calls Try.prog 18 #[.agg #[.string ⟨#[]⟩, .int .i64 0], .int .u64 v, .int .i64 n] w fun e w' =>
      e = .returned (.tuple #[.agg #[.string (txt r), .int .i64 (r.length : Nat)], .int .i64 0]) ∧ Below w.heap.size w w' := by
  subst hr
  exact put_ok w [] v n (by simp) hv hn
end Go.Proofs.Ytpccdohhiojlkaa
