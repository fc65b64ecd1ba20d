/- What Tables counts and chooses: plain; a row of slices that are typed. -/
import Derived.Test.YtodniacnjdnffaaGroups
import Derived.Test.YtodniacnjdnffaaJoinP
import Derived.Test.YtodniacnjdnffaaLenN
import Derived.Test.YtodniacnjdnffaaWLaws
import Derived.Test.YtodniacnjdnffaaOddW
import Derived.Test.YtodniacnjdnffaaOnly
namespace Go.Proofs.Ytodniacnjdnffaa
open Go.RowKit
set_option linter.unusedVariables false

/-- a group of symbols -/
def grN (m : List Nat) (i : Nat) : List Nat := (m.take (10 * i + 10)).drop (10 * i)
theorem grp_ints (m : List Nat) (i : Nat) : grp (ints m) i = ints (grN m i) := by simp [grp, grN, ints, List.map_drop, List.map_take]
theorem length_grN (m : List Nat) (i : Nat) : (grN m i).length ≤ 10 := by simp [grN]; omega
theorem grN_mem {m : List Nat} {i s : Nat} (h : s ∈ grN m i) : s ∈ m := List.mem_of_mem_take (List.mem_of_mem_drop h)
/-- the symbols of the first i groups whose number leaves so much, by 2 -/
def parTo (m : List Nat) (which i : Nat) : List Nat := (List.range i).flatMap fun j => if j % 2 = which then grN m j else []
theorem parTo_succ (m : List Nat) (which i : Nat) : parTo m which (i + 1) = parTo m which i ++ if i % 2 = which then grN m i else [] := by
  unfold parTo
  rw [List.range_succ, List.flatMap_append]
  simp
theorem length_parTo (m : List Nat) (which i : Nat) : (parTo m which i).length ≤ 10 * i := by
  induction i with
  | zero => simp [parTo]
  | succ i ih =>
    rw [parTo_succ, List.length_append]
    have := length_grN m i
    split
    · omega
    · simp; omega
theorem parTo_mem {m : List Nat} {which i s : Nat} (h : s ∈ parTo m which i) : s ∈ m := by
  unfold parTo at h
  obtain ⟨j, _, hj⟩ := List.mem_flatMap.1 h
  split at hj
  · exact grN_mem hj
  · simp at hj
/-- .. and the first t of the group i -/
def parAt (m : List Nat) (which i t : Nat) : List Nat := parTo m which i ++ if i % 2 = which then (grN m i).take t else []
theorem parAt_zero (m : List Nat) (which i : Nat) : parAt m which i 0 = parTo m which i := by simp [parAt]
theorem parAt_all (m : List Nat) (which i : Nat) : parAt m which i (grN m i).length = parTo m which (i + 1) := by rw [parTo_succ, parAt, List.take_length]
theorem parAt_no (m : List Nat) (which i t : Nat) (h : i % 2 ≠ which) : parAt m which i t = parTo m which i := by simp [parAt, h]
theorem parAt_yes (m : List Nat) (which i t s : Nat) (h : i % 2 = which) (hs : (grN m i)[t]? = some s) : parAt m which i (t + 1) = parAt m which i t ++ [s] := by
  unfold parAt
  rw [if_pos h, if_pos h, List.take_add_one, hs, List.append_assoc]
  rfl
theorem length_parAt (m : List Nat) (which i t : Nat) : (parAt m which i t).length ≤ 10 * i + 10 := by
  unfold parAt
  rw [List.length_append]
  have h1 := length_parTo m which i
  have h2 := length_grN m i
  split
  · rw [List.length_take]; omega
  · simp; omega
/-- how often each symbol is there -/
def oftF (n : Nat) (l : List Nat) : List Nat := incAll (List.replicate n 0) l
theorem length_oftF (n : Nat) (l : List Nat) : (oftF n l).length = n := by rw [oftF, length_incAll, List.length_replicate]
theorem oftF_get (n : Nat) (l : List Nat) (s : Nat) (h : s < n) : (oftF n l)[s]? = some (l.count s) := by
  unfold oftF
  rw [incAll_get l _ s 0 (by simp [h]), Nat.zero_add]
theorem oftF_snoc (n : Nat) (l : List Nat) (s : Nat) (h : s < n) : oftF n (l ++ [s]) = (oftF n l).set s (l.count s + 1) := by
  have := incAll_snoc (List.replicate n 0) (l ++ [s]) l.length s (by simp)
  rw [List.take_of_length_le (by simp)] at this
  rw [show (l ++ [s]).take l.length = l by simp] at this
  show incAll _ _ = _
  rw [this]
  show (oftF n l).set s ((oftF n l)[s]?.getD 0 + 1) = _
  rw [oftF_get n l s h]
  rfl
theorem oftF_le (n : Nat) (l : List Nat) : ∀ x ∈ oftF n l, x ≤ l.length := by
  intro x hx
  obtain ⟨i, hi, he⟩ := List.getElem_of_mem hx
  rw [length_oftF] at hi
  have := oftF_get n l i hi
  rw [List.getElem?_eq_getElem (by rw [length_oftF]; exact hi), he] at this
  injection this with this
  rw [this]
  exact List.count_le_length
/-- the two tables -/
def tabF (m : List Nat) (n which : Nat) : List Nat := lenF (oftF n (parTo m which (cntG m.length))) 20
theorem tab_ok (m : List Nat) (n which : Nat) (hm : m.length ≤ 100000) (h2 : 2 ≤ n) (h258 : n ≤ 258) : Code (tabF m n which) ∧ (tabF m n which).length = n := by
  unfold tabF
  have hl := length_oftF n (parTo m which (cntG m.length))
  exact ⟨lenF_code _ 20 (by omega) (by omega) (by omega) (by omega), by rw [length_lenF _ 20 (by omega) (by omega) (by omega), hl]⟩
def choF (m : List Nat) (n i : Nat) : Nat := if bitsN (tabF m n 1) (grN m i) < bitsN (tabF m n 0) (grN m i) then 1 else 0
def chosenF (m : List Nat) (n : Nat) : List Nat := (List.range (cntG m.length)).map (choF m n)

/-- a row of slices of one's own, whose elements are read only -/
structure SlTy (w : World) (base : Nat) (v : Value) (L : List SV) : Prop where
  own : w.ownsRow base 22 1 v L.length (L.map (·.1))
  has : ∀ p ∈ L, IsInts w w.heap.size p.1 p.2 ∧ TypedInts w p.1
theorem SlTy.nil (w : World) (base : Nat) : SlTy w base (.slice none 0 0) [] := ⟨World.ownsRow_nil _ _ _ _, fun p hp => by simp at hp⟩
theorem SlTy.is {w : World} {base : Nat} {v : Value} {L : List SV} (h : SlTy w base v L) : IsSl w w.heap.size v L := ⟨Rd.own h.own, fun p hp => (h.has p hp).1⟩
theorem SlTy.shape {w : World} {base : Nat} {v : Value} {L : List SV} (h : SlTy w base v L) : ∃ q c, v = .slice q L.length c := slice_len h.own
theorem SlTy.below {w w' : World} {base : Nat} {v : Value} {L : List SV} (h : SlTy w base v L) (hB : Below w.heap.size w w') : SlTy w' base v L := ⟨ownsRow_below h.own hB, fun p hp => ⟨ints_up (h.has p hp).1 hB, (h.has p hp).2.below hB⟩⟩
theorem ints_grown {w w' : World} {row : Option Nat} {x : Value} {xs : List Int} (h : IsInts w w.heap.size x xs) (ht : TypedInts w x) (hg : w.grownBy w' row) (hr : ∀ r, row = some r → ∃ cs, w.heap[r]? = some (.cells cs 22 (0, 0))) : IsInts w' w'.heap.size x xs ∧ TypedInts w' x := by
  have key : ∀ g o n c, x = .slice (some ⟨g, o, none⟩) n c → w'.heap[g]? = w.heap[g]? := fun g o n c e => by
    obtain ⟨cs, hc⟩ := ht g o n c e
    refine hg.block g (lt_of_heap hc) fun e2 => ?_
    obtain ⟨cs2, hc2⟩ := hr g e2.symm
    rw [hc] at hc2
    injection hc2 with hc2
    injection hc2 with _ hc2
    exact sl_int hc2.symm
  refine ⟨?_, fun g o n c e => by obtain ⟨cs, hc⟩ := ht g o n c e; exact ⟨cs, (key g o n c e).trans hc⟩⟩
  obtain ⟨h1, A, cap, hv, h2, h3, h4⟩ := h
  refine ⟨h1, A, cap, hv, h2, h3, fun hn => ?_⟩
  obtain ⟨g, o, hA, hgs, hc⟩ := h4 hn
  refine ⟨g, o, hA, Nat.lt_of_lt_of_le hgs hg.size, fun i u hu => ?_⟩
  rw [World.cell?_of_block (w := w) (key g o _ _ (by rw [hv, hA]))]
  exact hc i u hu
theorem one_slice {w : World} {B : Nat} {v : Value} {xs : List Int} (h : IsInts w B v xs) : v.oneCell' = true := by
  obtain ⟨q, c, rfl, _⟩ := h.shape
  rfl
theorem wpList_append_ty {w : World} {ops : Array Oper} {rest : List Oper} {o : Oper} {a : Act} {Q : Exit → Act → World → Prop} (hgd : o.guard = none) (s x : Operand)
    (ho : o.op = .call { callee := .builtin .append, args := #[s, x], argTypes := #[26, 26] })
    (base : Nat) (v : Value) (L : List SV) (hs : a.eval s = v) (hown : SlTy w base v L) (k : Nat) (p : SV) (hx : a.eval x = .slice (some ⟨k, 0, none⟩) 1 1) (hk : w.heap[k]? = some (.cells #[p.1] 22 (0, 0))) (hp : IsInts w w.heap.size p.1 p.2 ∧ TypedInts w p.1)
    (hlen : L.length ≤ 1000000) (hbase : base ≤ w.heap.size)
    (h : ∀ q c w', SlTy w' base (.slice q (L.length + 1) c) (L ++ [p]) → w.grownBy w' v.ownBlock → wpList Try.prog ops Q rest (a.put o.dst (.slice q (L.length + 1) c)) w') :
    wpList Try.prog ops Q (o :: rest) a w := by
  refine wpList_plain hgd fun K hK => ?_
  obtain ⟨i0, hi, hz0, hz1, hz2⟩ := info_parts sl_info
  have hr : Rd w (k + 1) 1 (.slice (some ⟨k, 0, none⟩) 1 1) 1 [p.1] := ⟨rfl, _, 1, rfl, Nat.le_refl _, by simp [maxLen], fun _ => ⟨k, 0, rfl, Nat.lt_succ_self _, fun i u hu => by
    rw [Nat.zero_add, cell_of_heap hk, ← hu]
    simp⟩⟩
  obtain ⟨v', w', hrun, h2, h3, h4⟩ := run_append_rd (P := Try.prog) w base 26 o.type 22 i0 (.slice none 0 0) 1 24 Try.underlying26 hi hz0 hz1 hz2 rfl (by decide) v L.length (L.map (·.1)) hown.own (k + 1) 1 _ [p.1] hr (fun u hu => by simp at hu; subst hu; exact one_slice hp.1) (by unfold maxLen; omega) (by omega) hbase
  have hrow : ∀ r, v.ownBlock = some r → ∃ cs, w.heap[r]? = some (.cells cs 22 (0, 0)) := fun r e => own_heap hown.own e
  have h6 : SlTy w' base v' (L ++ [p]) := ⟨by rw [List.length_append, List.map_append]; exact h2, fun t ht => by
    rcases List.mem_append.1 ht with ht | ht
    · exact ints_grown (hown.has t ht).1 (hown.has t ht).2 h3 hrow
    · simp at ht
      subst ht
      exact ints_grown hp.1 hp.2 h3 hrow⟩
  obtain ⟨q, c, rfl⟩ := h6.shape
  rw [List.length_append] at hrun h6
  unfold Oper.wp execOp
  simp only [ho, resolve, invoke, builtin, Sem.run_bind, Sem.run_pure, Result.andThen_ok, List.map_toArray, List.map_cons, List.map_nil, hs, hx, hrun]
  exact hK _ _ (h q c w' h6 h3)
theorem ownsRow_onlyS {w w' : World} {d base e size n : Nat} {v : Value} {xs : List Value} (h : w.ownsRow base e size v n xs) (ho : Only d w w') (hd : d < base) : w'.ownsRow base e size v n xs := by
  refine ⟨h.1, ?_⟩
  rcases h.2 with h0 | ⟨g, cap, cur, e1, e2, e3, e4⟩
  · exact .inl h0
  · exact .inr ⟨g, cap, cur, e1, e2, ho.other e3 (by omega), e4⟩
theorem SlOwn.only {w w' : World} {d base : Nat} {v : Value} {L : List SV} (h : SlOwn w base v L) (ho : Only d w w') (hd : d < base) : SlOwn w' base v L := ⟨ownsRow_onlyS h.own ho hd, fun p hp => ownsRow_onlyS (h.has p hp) ho hd⟩
end Go.Proofs.Ytodniacnjdnffaa
