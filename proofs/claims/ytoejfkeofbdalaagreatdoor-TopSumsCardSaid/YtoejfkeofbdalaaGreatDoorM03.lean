import Derived.Test.YtoejfkeofbdalaaGreatDoorM02
import Derived.RangeFuncBound
import Derived.RangeFuncCalls
import Derived.RangeFuncLeaves
import Derived.RangeFuncNested
import Derived.LoopNIn
import Derived.LoopIn
import Derived.OwnWalkIn
import Derived.TacticsInMore
import Derived.Shelf.RegionOpen
import Derived.RegionIn
set_option linter.unusedVariables false
set_option maxRecDepth 100000
set_option maxHeartbeats 8000000
namespace Go.Proofs.YtoejfkeofbdalaaGreatDoor
open Go.RowKit
def zvM (W:World) (bs:List (Nat × Array Value × TypeId)):Prop:=∀ p∈bs,W.heap[p.1]?=some (.cells p.2.1 p.2.2 (0,0))
def Env (w0 W:World) (l:List (Value × List Int)) (bs:List (Nat × Array Value × TypeId)):Prop:=Live w0 W l∧zvM W bs
section
variable {w0 W W':World} {l:List (Value × List Int)} {bs:List (Nat × Array Value × TypeId)}
theorem Env.nil (w:World):Env w w [] []:=⟨Live.nil w,fun p hp=>by simp at hp⟩
theorem Env.bel (h:Env w0 W l bs):Below w0.heap.size w0 W:=h.1.bel
theorem Env.size (h:Env w0 W l bs):w0.heap.size≤W.heap.size:=h.1.size
theorem Env.step (h:Env w0 W l bs) (hB:Below W.heap.size W W'):Env w0 W' l bs:=⟨h.1.step hB,fun p hp=>(hB.block p.1 (zab (h.2 p hp))).trans (h.2 p hp)⟩
theorem Env.add {v:Value} {xs:List Int} (h:Env w0 W l bs) (hv:IsInts W W.heap.size v xs):Env w0 W ((v,xs)::l) bs:=⟨h.1.add hv,h.2⟩
theorem Env.get {v:Value} {xs:List Int} (h:Env w0 W l bs) (i:Nat) (hi:l[i]?=some (v,xs)):IsInts W W.heap.size v xs:=h.1.get i hi
theorem Env.old {v:Value} {xs:List Int} (h:Env w0 W l bs) (hv:IsInts w0 w0.heap.size v xs):IsInts W W.heap.size v xs:=h.1.old hv
theorem Env.alloc (h:Env w0 W l bs) (o:Obj):Env w0 (W.alloc o) l bs:=h.step ((Below.refl _ W).alloc (Nat.le_refl _) o)
theorem Env.drew (h:Env w0 W l bs):Env w0 W.drew l bs:=h.step (Below.refl _ W).drew
theorem Env.lt (h:Env w0 W l bs) (i:Nat) {k:Nat} {cs:Array Value} {t:TypeId} (hi:bs[i]?=some (k,cs,t)):k<W.heap.size:=zab (h.2 (k,cs,t) (List.mem_of_getElem? hi))
theorem Env.blk (h:Env w0 W l bs) (i:Nat) {k:Nat} {cs:Array Value} {t:TypeId} (hi:bs[i]?=some (k,cs,t)):W.heap[k]?=some (.cells cs t (0,0)):=h.2 (k,cs,t) (List.mem_of_getElem? hi)
theorem Env.cell (h:Env w0 W l bs) (i:Nat) {k:Nat} {cs:Array Value} {t:TypeId} (hi:bs[i]?=some (k,cs,t)) (j:Nat):W.cell? ⟨k,j,none⟩=cs[j]?:=zaa (h.blk i hi) j
theorem Env.cellv (h:Env w0 W l bs) (i:Nat) {k:Nat} {cs:Array Value} {t:TypeId} (hi:bs[i]?=some (k,cs,t)) (j:Nat) (u:Value) (hj:cs[j]?=some u):W.cell? ⟨k,j,none⟩=some u:=(h.cell i hi j).trans hj
theorem Env.frozen (h:Env w0 W l bs) (i:Nat) {k:Nat} {cs:Array Value} {t:TypeId} (hi:bs[i]?=some (k,cs,t)) (j:Nat):W.frozen? ⟨k,j,none⟩=false:=zac (h.blk i hi) j
theorem Env.box (h:Env w0 W l bs) (cs:Array Value) (t:TypeId) (k:Nat) (hk:k=W.heap.size):Env w0 (W.alloc (.cells cs t)) l ((k,cs,t)::bs) :=
  ⟨h.1.alloc _,fun p hp=>by
    rcases List.mem_cons.1 hp with rfl | hp
    · exact zae _ _ _ hk
    · exact zah _ (h.2 p hp)⟩
theorem Env.drop {m:List (Value × List Int)} {cs:List (Nat × Array Value × TypeId)} (h:Env w0 W l bs) (hm:∀ p∈m,p∈l) (hc:∀ p∈cs,p∈bs):Env w0 W m cs:=⟨h.1.drop hm,fun p hp=>h.2 p (hc p hp)⟩
end
end Go.Proofs.YtoejfkeofbdalaaGreatDoor
namespace Go.Proofs.YtoejfkeofbdalaaGreatDoor
open Go.RowKit Go.Shelf
attribute [local go_sem] Oper.semAt_some
def KeepP (p:Nat→Prop) (W W':World):Prop:=∀ b,p b→W'.heap[b]?=W.heap[b]?
theorem KeepP.refl (p:Nat→Prop) (W:World):KeepP p W W:=fun _ _=>rfl
theorem KeepP.trans {p:Nat→Prop} {A B C:World} (h:KeepP p A B) (k:KeepP p B C):KeepP p A C:=fun b h1=>(k b h1).trans (h b h1)
theorem KeepP.cell {p:Nat→Prop} {W W':World} (h:KeepP p W W') (b o:Nat) (h1:p b):W'.cell? ⟨b,o,none⟩=W.cell? ⟨b,o,none⟩:=World.cell?_of_block (w:=W) (h b h1)
theorem KeepP.setCell {p:Nat→Prop} {W W':World} (h:KeepP p W W') {q:Addr} (hp:∀ b,p b→b≠q.block) (u:Value):KeepP p W (W'.setCell q u):=fun b h1 =>
  (Below.heap_setCell W' q u b (hp b h1)).trans (h b h1)
theorem KeepP.alloc {p:Nat→Prop} {W W':World} (h:KeepP p W W') (hh:∀ b,p b→b<W'.heap.size) (o:Obj):KeepP p W (W'.alloc o):=fun b h1 =>
  (Below.heap_alloc W' o b (hh b h1)).trans (h b h1)
theorem KeepP.below {p:Nat→Prop} {W W' W2:World} {n:Nat} (h:KeepP p W W') (hB:Below n W' W2) (hh:∀ b,p b→b<n):KeepP p W W2:=fun b h1 =>
  (hB.block b (hh b h1)).trans (h b h1)
theorem KeepP.grown {p:Nat→Prop} {W W' W2:World} {row:Option Nat} (h:KeepP p W W') (hg:W'.grownBy W2 row) (hh:∀ b,p b→b<W'.heap.size) (hr:∀ b,p b→some b≠row):KeepP p W W2:=fun b h1 =>
  (hg.block b (hh b h1) (hr b h1)).trans (h b h1)
theorem zue {p:Nat→Prop} {n₀:Nat} {w:World} (hp:∀ b,p b→b<n₀) (hn:n₀≤w.heap.size) (W:World) (l:Nat) (o o':Obj) (hl:w.heap.size≤l) (h:W.heap[l]?=some o) (_:o.isCells=false) (_:o.isWalk=false):KeepP p W (W.putObj l o') :=
  (KeepP.refl p W).grown (grownBy_putObj' W l o') (fun b hb=>by have:=(Array.getElem?_eq_some_iff.1 h).1;have:=hp b hb;omega) (fun b hb e=>by cases e;have:=hp l hb;omega)
def ztZ {α:Type} (J Jx:List α→World→Prop) (xs:List α) (e:Ending) (W':World):Prop :=
  (∃ v,e=.returned v)∧((∃ ys,ys=xs∧J ys W')∨(∃ pre,pre <+: xs∧Jx pre W'))
theorem IsInts.kept {p:Nat→Prop} {W W':World} {B:Nat} {v:Value} {xs:List Int} (h:IsInts W B v xs) (hk:KeepP p W W') (hp:∀ b,b<B→p b):IsInts W' B v xs:=h.keep fun j o hj=>hk.cell j o (hp j hj)
theorem zbP {fn:Func} {p q:Tmp} {ty uy:TypeId} (h:fn.results=#[.cell p ty,.cell q uy]) (tmps:Array Value) (P:Program) (w:World) (a b:Addr) (v u:Value) (hp:tmps.getD p undef=.pointer (some a)) (hq:tmps.getD q undef=.pointer (some b)) (hl:(loadVar ty a).run P w=.ok v w) (hm:(loadVar uy b).run P w=.ok u w):(results fn tmps).run P w=.ok (.tuple #[v,u]) w:=by
  have hp':tmps[p]?.getD undef=.pointer (some a):=by simpa using hp
  have hq':tmps[q]?.getD undef=.pointer (some b):=by simpa using hq
  simp[results,h,hp',hq',asAddr,hl,hm]
theorem zaV (a:Addr) (w:World) (v:Value) (hc:w.cell? a=some v):(loadVar 3 a).run Tryz.prog w=.ok v w:=by
  simp[loadVar,isAgg,hc]
theorem zaZ (a:Addr) (w:World) (v:Value) (hc:w.cell? a=some v):(loadVar 25 a).run Tryz.prog w=.ok v w:=by
  simp[loadVar,isAgg,hc]
end Go.Proofs.YtoejfkeofbdalaaGreatDoor
namespace Go.Proofs.YtoejfkeofbdalaaGreatDoor
open Go.RowKit
abbrev NP:=Nat × Nat
def ltP (a b:NP):Bool:=decide (a.1<b.1) || (decide (a.1=b.1) && decide (a.2<b.2))
theorem zb7 (a b:NP):ltP a b=true↔a.1<b.1∨a.1=b.1∧a.2<b.2:=by simp[ltP]
theorem zg2 (a b:NP):ltP a b=false↔¬ (a.1<b.1∨a.1=b.1∧a.2<b.2):=by rw[←zb7];simp
theorem zd3 {a b:NP} (h:ltP a b=true):ltP b a=false:=by
  rw[zb7] at h;rw[zg2];omega
theorem ze1 {a b c:NP} (h:ltP a b=true) (g:ltP b c=true):ltP a c=true:=by
  rw[zb7] at h g ⊢;omega
theorem zfF {a b c:NP} (h:ltP b a=false) (g:ltP c b=false):ltP c a=false:=by
  rw[zg2] at h g ⊢;omega
def gP (h:List NP) (j:Nat):NP:=h[j]?.getD (0,0)
theorem zkM (h:List NP) (i j:Nat) (x:NP) (hi:i<h.length):gP (h.set i x) j=if i=j then x else gP h j:=by
  unfold gP;rw[List.getElem?_set]
  by_cases e:i=j
  · subst e;simp[hi]
  · simp[e]
def zdM (h:List NP) (i k:Nat):List NP:=(h.set i (gP h k)).set k (gP h i)
theorem zbe (h:List NP) (i k:Nat):(zdM h i k).length=h.length:=by simp[zdM]
theorem zpM (h:List NP) (i k j:Nat) (hi:i<h.length) (hk:k<h.length):gP (zdM h i k) j=if k=j then gP h i else if i=j then gP h k else gP h j:=by
  unfold zdM;rw[zkM _ _ _ _ (by rw[List.length_set];exact hk),zkM _ _ _ _ hi]
theorem zjp (h:List NP) (i:Nat) (x:NP) (hi:i<h.length):(gP h i::h.set i x).Perm (x::h):=by
  induction h generalizing i with
  | nil=>simp at hi
  | cons y h ih =>
    cases i with
    | zero=>simp[gP];exact List.Perm.swap _ _ _
    | succ i =>
      have:=ih i (by simpa using hi)
      have e:gP (y::h) (i+1)=gP h i:=by simp[gP]
      rw[e,List.set_cons_succ];exact (List.Perm.swap _ _ _).trans ((this.cons y).trans (List.Perm.swap _ _ _))
theorem zi1 (h:List NP) (i k:Nat) (hi:i<h.length) (hk:k<h.length) (hik:i≠k):(zdM h i k).Perm h:=by
  have h1:=zjp (h.set i (gP h k)) k (gP h i) (by rw[List.length_set];exact hk)
  have h2:=zjp h i (gP h k) hi;have e:gP (h.set i (gP h k)) k=gP h k:=by rw[zkM _ _ _ _ hi,if_neg hik]
  rw[e] at h1;exact (h1.trans h2).cons_inv
def HeapP (h:List NP):Prop:=∀ j,0<j→j<h.length→ltP (gP h j) (gP h ((j-1) / 2))=false
theorem HeapP.least {h:List NP} (hh:HeapP h):∀ j,j<h.length→ltP (gP h j) (gP h 0)=false:=by
  intro j
  induction j using Nat.strongRecOn with
  | ind j ih =>
    intro hj;rcases Nat.eq_zero_or_pos j with rfl | h0
    · rw[zg2];omega
    · exact zfF (ih ((j-1) / 2) (by omega) (by omega)) (hh j h0 hj)
structure UpP (h:List NP) (i:Nat):Prop where
  lt:i<h.length
  a:∀ j,0<j→j<h.length→j≠i→ltP (gP h j) (gP h ((j-1) / 2))=false
  b:∀ j,0<j→j<h.length→(j-1) / 2=i→0<i→ltP (gP h j) (gP h ((i-1) / 2))=false
theorem UpP.start {h:List NP} (hh:HeapP h) (x:NP):UpP (h++[x]) h.length:=by
  have hg:∀ j,j<h.length→gP (h++[x]) j=gP h j:=fun j hj=>by unfold gP;rw[List.getElem?_append_left hj]
  refine⟨by simp,fun j h0 hj hne=>?_,fun j h0 hj hp _=>?_⟩
  · simp at hj
    rw[hg j (by omega),hg _ (by omega)]
    exact hh j h0 (by omega)
  · simp at hj
    omega
theorem UpP.done {h:List NP} {i:Nat} (hu:UpP h i) (hd:i=0∨ltP (gP h i) (gP h ((i-1) / 2))=false):HeapP h:=by
  intro j h0 hj
  by_cases e:j=i
  · subst e
    rcases hd with hd | hd
    · omega
    · exact hd
  · exact hu.a j h0 hj e
theorem UpP.step {h:List NP} {i:Nat} (hu:UpP h i) (h0:0<i) (hl:ltP (gP h i) (gP h ((i-1) / 2))=true):UpP (zdM h i ((i-1) / 2)) ((i-1) / 2):=by
  have hi:=hu.lt;have hk:(i-1) / 2<h.length:=by omega
  obtain⟨k,hke⟩:∃ k,(i-1) / 2=k:=⟨_,rfl⟩;rw[hke] at hl hk ⊢;have hki:k<i:=by omega
  have hG:=fun j=>zpM h i k j hi hk;refine⟨by rw[zbe];exact hk,fun j hj0 hj hne=>?_,fun j hj0 hj hp hk0=>?_⟩
  · rw[zbe] at hj
    rw[hG,hG,if_neg (fun e=>hne e.symm)]
    by_cases e1:i=j
    · subst e1
      rw[if_pos rfl,if_pos hke.symm];exact zd3 hl
    · rw[if_neg e1]
      by_cases e2:k=(j-1) / 2
      · rw[if_pos e2]
        have h1:=hu.a j hj0 hj (fun e=>e1 e.symm);rw[←e2] at h1;have:=zfF (zd3 hl) h1;exact this
      · rw[if_neg e2]
        by_cases e3:i=(j-1) / 2
        · rw[if_pos e3]
          have:=hu.b j hj0 hj e3.symm h0;rw[hke] at this;exact this
        · rw[if_neg e3]
          exact hu.a j hj0 hj (fun e=>e1 e.symm)
  · rw[zbe] at hj
    have hp2:ltP (gP h k) (gP h ((k-1) / 2))=false:=hu.a k hk0 hk (by omega)
    rw[hG j,hG ((k-1) / 2),if_neg (show ¬ k=j by omega),if_neg (show ¬ k=(k-1) / 2 by omega),if_neg (show ¬ i=(k-1) / 2 by omega)]
    by_cases e1:i=j
    · subst e1
      rw[if_pos rfl];exact hp2
    · rw[if_neg e1]
      have h1:=hu.a j hj0 hj (fun e=>e1 e.symm);rw[hp] at h1;exact zfF hp2 h1
structure DownP (h:List NP) (i:Nat):Prop where
  a:∀ j,0<j→j<h.length→(j-1) / 2≠i→ltP (gP h j) (gP h ((j-1) / 2))=false
  b:∀ j,0<j→j<h.length→(j-1) / 2=i→0<i→ltP (gP h j) (gP h ((i-1) / 2))=false
def zdx (h:List NP):List NP:=(h.set 0 (gP h (h.length-1))).take (h.length-1)
theorem zgm (h:List NP):(zdx h).length=h.length-1:=by simp[zdx]
theorem zpI (h:List NP) (j:Nat) (hj:j<h.length-1):gP (zdx h) j=if j=0 then gP h (h.length-1) else gP h j:=by
  have h1:gP (zdx h) j=gP (h.set 0 (gP h (h.length-1))) j:=by
    unfold zdx gP;rw[List.getElem?_take_of_lt hj]
  rw[h1,zkM _ _ _ _ (by omega)]
  by_cases e:j=0
  · subst e;simp
  · rw[if_neg (fun h=>e h.symm),if_neg e]
theorem DownP.start {h:List NP} (hh:HeapP h) (hn:0<h.length):DownP (zdx h) 0:=by
  refine⟨fun j h0 hj hp=>?_,fun j h0 hj hp hi=>by omega⟩
  rw[zgm] at hj;rw[zpI h j hj,zpI h _ (by omega),if_neg (by omega),if_neg hp]
  exact hh j h0 (by omega)
theorem zoG (h:List NP) (hn:0<h.length):(gP h 0::zdx h).Perm h:=by
  have h1:=zjp h 0 (gP h (h.length-1)) hn
  have h2:h.set 0 (gP h (h.length-1))=zdx h++[gP (h.set 0 (gP h (h.length-1))) (h.length-1)]:=by
    obtain⟨s,hs⟩:∃ s,h.set 0 (gP h (h.length-1))=s:=⟨_,rfl⟩;have hsl:s.length=h.length:=by rw[←hs,List.length_set]
    unfold zdx;rw[hs];have h3:=List.take_succ_eq_append_getElem (l:=s) (i:=h.length-1) (by omega)
    rw[show h.length-1+1=h.length by omega,List.take_of_length_le (by omega)] at h3
    have h4:gP s (h.length-1)=s[h.length-1]'(by omega):=by unfold gP;rw[List.getElem?_eq_getElem (by omega)];rfl
    rw[h4];exact h3
  rcases Nat.lt_or_ge 1 h.length with h5 | h5
  · have h6:gP (h.set 0 (gP h (h.length-1))) (h.length-1)=gP h (h.length-1):=by rw[zkM _ _ _ _ hn,if_neg (by omega)]
    rw[h2,h6] at h1
    have h7:(gP h (h.length-1)::(gP h 0::zdx h)).Perm (gP h (h.length-1)::h):=by
      refine List.Perm.trans ?_ h1;refine (List.Perm.swap _ _ _).trans (List.Perm.cons _ ?_);exact (List.perm_append_comm (l₁:=[gP h (h.length-1)]) (l₂:=zdx h)).trans (List.Perm.refl _)
    exact h7.cons_inv
  · obtain⟨x,rfl⟩:∃ x,h=[x]:=by
      cases h with
      | nil=>simp at hn
      | cons x h =>
        cases h with
        | nil=>exact⟨x,rfl⟩
        | cons y h=>simp at h5
    simp[zdx,gP]
theorem DownP.done {h:List NP} {i:Nat} (hd:DownP h i) (hc:∀ j,0<j→j<h.length→(j-1) / 2=i→ltP (gP h j) (gP h i)=false):HeapP h:=by
  intro j h0 hj
  by_cases e:(j-1) / 2=i
  · rw[e];exact hc j h0 hj e
  · exact hd.a j h0 hj e
theorem DownP.step {h:List NP} {i f:Nat} (hd:DownP h i) (hf0:0<f) (hf:f<h.length) (hfi:(f-1) / 2=i) (hl:ltP (gP h f) (gP h i)=true)
    (hm:∀ j,0<j→j<h.length→(j-1) / 2=i→ltP (gP h j) (gP h f)=false):DownP (zdM h i f) f:=by
  have hi:i<h.length:=by omega
  have hif:i<f:=by omega
  have hG:=fun j=>zpM h i f j hi hf;refine⟨fun j h0 hj hp=>?_,fun j h0 hj hp hk0=>?_⟩
  · rw[zbe] at hj
    rw[hG j,hG ((j-1) / 2),if_neg (show ¬ f=(j-1) / 2 from fun e=>hp e.symm)]
    by_cases e1:f=j
    · subst e1
      rw[if_pos rfl,if_pos hfi.symm];exact zd3 hl
    · rw[if_neg e1]
      by_cases e2:i=(j-1) / 2
      · rw[if_pos e2,if_neg (by omega)]
        exact hm j h0 hj e2.symm
      · rw[if_neg e2]
        by_cases e3:i=j
        · subst e3
          rw[if_pos rfl];exact hd.b f hf0 hf hfi h0
        · rw[if_neg e3]
          exact hd.a j h0 hj (fun e=>e2 e.symm)
  · rw[zbe] at hj
    rw[hG j,hG ((f-1) / 2),if_neg (show ¬ f=j by omega),if_neg (show ¬ i=j by omega),if_neg (show ¬ f=(f-1) / 2 by omega),if_pos hfi.symm]
    have:=hd.a j h0 hj (by omega)
    rw[hp] at this;exact this
def zdd (x:NP):List NP→List NP
  | []=>[x]
  | y::l=>if ltP x y then x::y::l else y::zdd x l
def zpc (l:List NP):Prop:=l.Pairwise fun a b=>ltP a b=true
theorem zbZ (x:NP) (l:List NP):(zdd x l).Perm (x::l):=by
  induction l with
  | nil=>exact List.Perm.refl _
  | cons y l ih =>
    rw[zdd]
    by_cases h:ltP x y=true
    · rw[if_pos h]
    · rw[if_neg h]
      exact (ih.cons y).trans (List.Perm.swap _ _ _)
theorem insP_mem {x z:NP} {l:List NP}:z∈zdd x l↔z=x∨z∈l:=by
  rw[(zbZ x l).mem_iff,List.mem_cons]
theorem zcs (x:NP) (l:List NP):(zdd x l).length=l.length+1:=by
  have:=(zbZ x l).length_eq;simpa using this
theorem zrJ {a b:NP} (h:a.2≠b.2) (hn:ltP a b=false):ltP b a=true:=by
  rw[zg2] at hn;rw[zb7];omega
theorem zkx {x:NP} {l:List NP} (hl:zpc l) (hx:∀ y∈l,y.2≠x.2):zpc (zdd x l):=by
  induction l with
  | nil=>exact List.pairwise_singleton _ _
  | cons y l ih =>
    rw[zdd];have h1:=List.pairwise_cons.1 hl
    by_cases h:ltP x y=true
    · rw[if_pos h]
      refine List.pairwise_cons.2 ⟨fun z hz=>?_,hl⟩;rcases List.mem_cons.1 hz with rfl | hz
      · exact h
      · exact ze1 h (h1.1 z hz)
    · rw[if_neg h]
      refine List.pairwise_cons.2 ⟨fun z hz=>?_,ih h1.2 fun z hz=>hx z (by simp[hz])⟩
      rcases insP_mem.1 hz with rfl | hz
      · exact zrJ (fun e=>hx y (by simp) e.symm) (by simpa using h)
      · exact h1.1 z hz
def zcP:List NP→List NP
  | []=>[]
  | x::l=>zdd x (zcP l)
theorem za7 (l:List NP):(zcP l).Perm l:=by
  induction l with
  | nil=>exact List.Perm.refl _
  | cons x l ih=>rw[zcP];exact (zbZ x _).trans (ih.cons x)
def NumsP (l:List NP):Prop:=(l.map (·.2)).Nodup
theorem NumsP.perm {l m:List NP} (h:NumsP l) (hp:m.Perm l):NumsP m:=(hp.map (fun x:NP=>x.2)).nodup_iff.2 h
theorem NumsP.cons {x:NP} {l:List NP}:NumsP (x::l)↔(∀ y∈l,y.2≠x.2)∧NumsP l:=by
  unfold NumsP;rw[List.map_cons,List.nodup_cons]
  constructor
  · rintro⟨h1,h2⟩
    exact⟨fun y hy e=>h1 (List.mem_map.2 ⟨y,hy,e⟩),h2⟩
  · rintro⟨h1,h2⟩
    refine⟨fun hm=>?_,h2⟩;obtain⟨y,hy,e⟩:=List.mem_map.1 hm;exact h1 y hy e
theorem zoM {l:List NP} (h:NumsP l):zpc (zcP l):=by
  induction l with
  | nil=>exact List.Pairwise.nil
  | cons x l ih =>
    obtain⟨h1,h2⟩:=NumsP.cons.1 h;rw[zcP];exact zkx (ih h2) fun y hy=>h1 y ((za7 l).mem_iff.1 hy)
theorem zgn {s h:List NP} {a:NP} (hs:zpc s) (hp:h.Perm s) (hn:NumsP s) (h0:0<h.length) (hl:∀ j,j<h.length→ltP (gP h j) (gP h 0)=false):∃ r,s=gP h 0::r:=by
  cases s with
  | nil =>
    have:=hp.length_eq;simp at this;subst this;simp at h0
  | cons b r =>
    have hb:b∈h:=hp.mem_iff.2 (by simp)
    have hg:gP h 0∈h:=by unfold gP;rw[List.getElem?_eq_getElem h0];exact List.getElem_mem _
    have hg2:gP h 0∈b::r:=hp.mem_iff.1 hg;rcases List.mem_cons.1 hg2 with e | hr
    · exact⟨r,by rw[e]⟩
    · have h1:=(List.pairwise_cons.1 hs).1 _ hr
      obtain⟨j,hj,he⟩:=List.getElem_of_mem hb;have h2:=hl j hj;have e2:gP h j=b:=by unfold gP;rw[List.getElem?_eq_getElem hj,he];rfl
      rw[e2,h1] at h2;cases h2
def upF:Nat→List NP→Nat→Nat→Nat
  | 0,_,_,_=>0
  | _+1,[],_,_=>0
  | _+1,[_],_,_=>0
  | n+1,a::b::r,m,x=>if x=a.2∨x=b.2 then m else upF n (zdd (a.1+b.1,m) r) (m+1) x
def zbs:Nat→List NP→Nat→Nat→Nat
  | 0,_,_,_=>0
  | _+1,[],_,_=>0
  | _+1,[_],_,_=>0
  | n+1,a::b::r,m,x=>if x=a.2∨x=b.2 then zbs n (zdd (a.1+b.1,m) r) (m+1) m+1 else zbs n (zdd (a.1+b.1,m) r) (m+1) x
def zaK (w:List Nat):List NP:=w.zipIdx
def zao (w:List Nat):List Nat:=(List.range w.length).map (zbs w.length (zcP (zaK w)) w.length)
def zhj:Nat→List NP→Nat→List NP
  | 0,_,_=>[]
  | _+1,[],_=>[]
  | _+1,[_],_=>[]
  | n+1,a::b::r,m=>(a.1+b.1,m)::zhj n (zdd (a.1+b.1,m) r) (m+1)
structure RowP (s:List NP) (m:Nat):Prop where
  sort:zpc s
  nums:NumsP s
  lt:∀ x∈s,x.2<m
  pos:∀ x∈s,1≤x.1
theorem RowP.step {a b:NP} {r:List NP} {m:Nat} (h:RowP (a::b::r) m):RowP (zdd (a.1+b.1,m) r) (m+1):=by
  obtain⟨h1,h2,h3,h4⟩:=h;have hr:=(List.pairwise_cons.1 (List.pairwise_cons.1 h1).2).2;have hn:=(NumsP.cons.1 (NumsP.cons.1 h2).2).2;refine⟨zkx hr fun y hy=>?_,?_,fun x hx=>?_,fun x hx=>?_⟩
  · have:=h3 y (by simp[hy]);show y.2≠m;omega
  · refine NumsP.perm (NumsP.cons.2 ⟨fun y hy=>?_,hn⟩) (zbZ _ _)
    have:=h3 y (by simp[hy]);show y.2≠m;omega
  · rcases insP_mem.1 hx with rfl | hx
    · show m<m+1;omega
    · have:=h3 x (by simp[hx]);omega
  · rcases insP_mem.1 hx with rfl | hx
    · have:=h4 a (by simp);show 1≤a.1+b.1;omega
    · exact h4 x (by simp[hx])
theorem zlQ (n:Nat):∀ (s:List NP) (m:Nat),∀ y∈zhj n s m,m≤y.2:=by
  induction n with
  | zero=>intro s m y hy;simp[zhj] at hy
  | succ n ih =>
    intro s m y hy
    match s,hy with
    | [],hy=>simp[zhj] at hy
    | [x],hy=>simp[zhj] at hy
    | a::b::r,hy =>
      rw[zhj] at hy;rcases List.mem_cons.1 hy with rfl | hy
      · exact Nat.le_refl _
      · have:=ih _ _ y hy;omega
theorem zsA (n:Nat):∀ (s:List NP) (m:Nat),RowP s m→∀ (c:NP),c.2<m→(∀ x∈s,∀ y∈s,x≠y→c.1≤x.1+y.1)→∀ y∈zhj n s m,ltP c y=true:=by
  induction n with
  | zero=>intro s m _ c _ _ y hy;simp[zhj] at hy
  | succ n ih =>
    intro s m h c hc hs y hy
    match s,h,hs,hy with
    | [],_,_,hy=>simp[zhj] at hy
    | [x],_,_,hy=>simp[zhj] at hy
    | a::b::r,h,hs,hy =>
      rw[zhj] at hy
      have hab:a≠b:=fun e=>by
        have:=(NumsP.cons.1 h.nums).1 b (by simp)
        rw[e] at this;exact this rfl
      have h0:=hs a (by simp) b (by simp) hab
      rcases List.mem_cons.1 hy with rfl | hy
      · rw[zb7];simp only;omega
      · refine ih _ _ h.step c (by omega) (fun x hx z hz hne=>?_) y hy
        have hp:=h.step.pos;rcases insP_mem.1 hx with rfl | hx2
        · simp only;omega
        · rcases insP_mem.1 hz with rfl | hz2
          · simp only;omega
          · exact hs x (by simp[hx2]) z (by simp[hz2]) hne
theorem RowP.least {a b:NP} {r:List NP} {m:Nat} (h:RowP (a::b::r) m) {x:NP} (hx:x∈r):b.1≤x.1∧a.1≤b.1∧ltP b x=true∧ltP a x=true∧ltP a b=true:=by
  obtain⟨h1,h2⟩:=List.pairwise_cons.1 h.sort;obtain⟨h3,h4⟩:=List.pairwise_cons.1 h2;have h5:=h3 x hx;have h6:=h1 b (by simp)
  have h7:=h1 x (by simp[hx])
  refine⟨?_,?_,h5,h7,h6⟩
  · rw[zb7] at h5;omega
  · rw[zb7] at h6;omega
theorem zph {a b:NP} {r:List NP} {m:Nat} (n:Nat) (h:RowP (a::b::r) m):∀ y∈zhj n (zdd (a.1+b.1,m) r) (m+1),ltP (a.1+b.1,m) y=true:=by
  refine zsA n _ _ h.step (a.1+b.1,m) (Nat.lt_succ_self m) fun x hx z hz hne=>?_;rcases insP_mem.1 hx with rfl | hx
  · simp only;omega
  · rcases insP_mem.1 hz with rfl | hz
    · simp only;omega
    · have h1:=h.least hx
      have h2:=h.least hz;simp only;omega
theorem zmO (n:Nat):∀ (s:List NP) (m:Nat),RowP s m→s.length≤n→2≤s.length→∀ y∈s,∃ p∈zhj n s m,zbs n s m y.2=zbs n s m p.2+1∧y.1<p.1:=by
  induction n with
  | zero=>intro s m _ h1 h2;omega
  | succ n ih =>
    intro s m h h1 h2 y hy
    match s,h,h1,h2,hy with
    | [],_,_,h2,_=>simp at h2
    | [x],_,_,h2,_=>simp at h2
    | a::b::r,h,h1,h2,hy =>
      have ham:=h.lt a (by simp)
      have hbm:=h.lt b (by simp)
      have hap:=h.pos a (by simp)
      have hbp:=h.pos b (by simp)
      have hm:zbs (n+1) (a::b::r) m m=zbs n (zdd (a.1+b.1,m) r) (m+1) m:=by
        rw[zbs,if_neg (by omega)]
      rcases List.mem_cons.1 hy with rfl | hy
      · refine⟨(y.1+b.1,m),by rw[zhj];simp,?_,by simp only;omega⟩
        simp only;rw[hm,zbs,if_pos (.inl rfl)]
      · rcases List.mem_cons.1 hy with rfl | hy
        · refine⟨(a.1+y.1,m),by rw[zhj];simp,?_,by simp only;omega⟩
          simp only;rw[hm,zbs,if_pos (.inr rfl)]
        · have hl:(zdd (a.1+b.1,m) r).length=r.length+1:=zcs _ _
          have hr0:0<r.length:=List.length_pos_of_mem hy;obtain⟨p,hp1,hp2,hp3⟩:=ih _ _ h.step (by rw[hl];simp at h1;omega) (by omega) y (insP_mem.2 (.inr hy))
          have hpm:=zlQ n _ _ p hp1;have hna:y.2≠a.2:=(NumsP.cons.1 h.nums).1 y (by simp[hy])
          have hnb:y.2≠b.2:=(NumsP.cons.1 (NumsP.cons.1 h.nums).2).1 y hy;refine⟨p,by rw[zhj];simp[hp1],?_,hp3⟩
          rw[zbs,zbs,if_neg (by simp[hna,hnb]),if_neg (by omega),hp2]
theorem zqU (n:Nat):∀ (s:List NP) (m:Nat),RowP s m→s.length≤n→∀ x y:NP,(x∈s∨x∈zhj n s m)→(y∈s∨y∈zhj n s m)→ltP x y=true→zbs n s m y.2≤zbs n s m x.2:=by
  induction n with
  | zero =>
    intro s m _ h1 x y hx _ _;have:s=[]:=List.eq_nil_of_length_eq_zero (by omega)
    subst this;simp[zhj] at hx
  | succ n ih =>
    intro s m h h1 x y hx hy hlt
    match s,h,h1,hx,hy with
    | [],_,_,hx,_=>simp[zhj] at hx
    | [z],_,_,hx,hy=>simp[zbs]
    | a::b::r,h,h1,hx,hy =>
      have ham:=h.lt a (by simp)
      have hbm:=h.lt b (by simp)
      have hap:=h.pos a (by simp)
      have hbp:=h.pos b (by simp)
      have hl:(zdd (a.1+b.1,m) r).length=r.length+1:=zcs _ _;have hafter:=zph n h;have hIH:=ih _ _ h.step (by rw[hl];simp at h1;omega)
      have hD:∀ z:NP,(z∈a::b::r∨z∈zhj (n+1) (a::b::r) m)→(z=a∨z=b)∧zbs (n+1) (a::b::r) m z.2=zbs n (zdd (a.1+b.1,m) r) (m+1) m+1∨(z∈zdd (a.1+b.1,m) r∨z∈zhj n (zdd (a.1+b.1,m) r) (m+1))∧zbs (n+1) (a::b::r) m z.2=zbs n (zdd (a.1+b.1,m) r) (m+1) z.2:=by
        intro z hz;rw[zhj,List.mem_cons,List.mem_cons,List.mem_cons] at hz;rcases hz with (rfl | rfl | hz) | rfl | hz
        · exact .inl ⟨.inl rfl,by rw[zbs,if_pos (.inl rfl)]⟩
        · exact .inl ⟨.inr rfl,by rw[zbs,if_pos (.inr rfl)]⟩
        · have hna:z.2≠a.2:=(NumsP.cons.1 h.nums).1 z (by simp[hz])
          have hnb:z.2≠b.2:=(NumsP.cons.1 (NumsP.cons.1 h.nums).2).1 z hz;exact .inr ⟨.inl (insP_mem.2 (.inr hz)),by rw[zbs,if_neg (by simp[hna,hnb])]⟩
        · exact .inr ⟨.inl (insP_mem.2 (.inl rfl)),by rw[zbs,if_neg (by simp only;omega)]⟩
        · have:=zlQ n _ _ z hz
          exact .inr ⟨.inr hz,by rw[zbs,if_neg (by omega)]⟩
      rcases hD x hx with ⟨hx1,hx2⟩ | ⟨hx1,hx2⟩
      · rcases hD y hy with ⟨hy1,hy2⟩ | ⟨hy1,hy2⟩
        · rw[hx2,hy2];exact Nat.le_refl _
        · rw[hx2,hy2]
          rcases hy1 with hy1 | hy1
          · by_cases hr0:r=[]
            · subst hr0
              have:y=(a.1+b.1,m):=by simpa [zdd] using hy1
              rw[this];exact Nat.le_succ _
            · have hr1:0<r.length:=List.length_pos_iff.2 hr0
              obtain⟨p,hp1,hp2,hp3⟩:=zmO n _ _ h.step (by rw[hl];simp at h1;omega) (by omega) y hy1
              have:=hIH (a.1+b.1,m) p (.inl (insP_mem.2 (.inl rfl))) (.inr hp1) (hafter p hp1);simp only at this;omega
          · have:=hIH (a.1+b.1,m) y (.inl (insP_mem.2 (.inl rfl))) (.inr hy1) (hafter y hy1)
            simp only at this;omega
      · rcases hD y hy with ⟨hy1,hy2⟩ | ⟨hy1,hy2⟩
        · exfalso
          have hbx:ltP b x=true∧ltP a x=true:=by
            have hc:ltP b (a.1+b.1,m)=true∧ltP a (a.1+b.1,m)=true:=by
              rw[zb7,zb7];simp only;omega
            rcases hx1 with hx1 | hx1
            · rcases insP_mem.1 hx1 with rfl | hx1
              · exact hc
              · have:=h.least hx1
                exact⟨this.2.2.1,this.2.2.2.1⟩
            · have:=hafter x hx1
              exact⟨ze1 hc.1 this,ze1 hc.2 this⟩
          rcases hy1 with rfl | rfl
          · have:=zd3 hbx.2;rw[hlt] at this;cases this
          · have:=zd3 hbx.1;rw[hlt] at this;cases this
        · rw[hx2,hy2]
          exact hIH x y hx1 hy1 hlt
theorem zvU (n:Nat):∀ (s:List NP) (m:Nat),RowP s m→s.length≤n→∀ y∈s,zbs n s m y.2+1≤s.length:=by
  induction n with
  | zero =>
    intro s m _ h1 y hy;have:s=[]:=List.eq_nil_of_length_eq_zero (by omega)
    subst this;simp at hy
  | succ n ih =>
    intro s m h h1 y hy
    match s,h,h1,hy with
    | [],_,_,hy=>simp at hy
    | [z],_,_,hy=>simp[zbs]
    | a::b::r,h,h1,hy =>
      have hl:(zdd (a.1+b.1,m) r).length=r.length+1:=zcs _ _;have hIH:=ih _ _ h.step (by rw[hl];simp at h1;omega)
      rw[zbs];split
      · have:=hIH (a.1+b.1,m) (insP_mem.2 (.inl rfl))
        simp only[List.length_cons] at this ⊢;omega
      · rename_i hne
        rcases List.mem_cons.1 hy with rfl | hy
        · exact absurd (.inl rfl) hne
        · rcases List.mem_cons.1 hy with rfl | hy
          · exact absurd (.inr rfl) hne
          · have:=hIH y (insP_mem.2 (.inr hy))
            simp only[List.length_cons];omega
theorem zcf {α:Type} {l m:List α} (f:α→Nat) (h:l.Perm m):(l.map f).sum=(m.map f).sum:=(h.map f).sum_nat
theorem zqy {r:List NP} {a b:NP} {m n:Nat} (h:RowP (a::b::r) m) (F:NP→Nat→Nat):(r.map fun x=>F x (zbs (n+1) (a::b::r) m x.2))=r.map fun x=>F x (zbs n (zdd (a.1+b.1,m) r) (m+1) x.2):=by
  refine List.map_congr_left fun x hx=>?_;have hna:x.2≠a.2:=(NumsP.cons.1 h.nums).1 x (by simp[hx])
  have hnb:x.2≠b.2:=(NumsP.cons.1 (NumsP.cons.1 h.nums).2).1 x hx;rw[zbs,if_neg (by simp[hna,hnb])]
theorem zpi (D n:Nat):∀ (s:List NP) (m:Nat),RowP s m→s.length≤n→s≠[]→(∀ x∈s,zbs n s m x.2≤D)→(s.map fun x=>2 ^ (D-zbs n s m x.2)).sum=2 ^ D:=by
  induction n with
  | zero =>
    intro s m _ h1 h0;exact absurd (List.eq_nil_of_length_eq_zero (by omega)) h0
  | succ n ih =>
    intro s m h h1 h0 hD
    match s,h,h1,h0,hD with
    | [],_,_,h0,_=>exact absurd rfl h0
    | [z],_,_,_,_=>simp[zbs]
    | a::b::r,h,h1,_,hD =>
      have hl:(zdd (a.1+b.1,m) r).length=r.length+1:=zcs _ _;have ha:=hD a (by simp)
      have ea:zbs (n+1) (a::b::r) m a.2=zbs n (zdd (a.1+b.1,m) r) (m+1) m+1:=by rw[zbs,if_pos (.inl rfl)]
      have eb:zbs (n+1) (a::b::r) m b.2=zbs n (zdd (a.1+b.1,m) r) (m+1) m+1:=by rw[zbs,if_pos (.inr rfl)]
      rw[ea] at ha
      have hIH:=ih _ _ h.step (by rw[hl];simp at h1;omega) (fun e=>by rw[e] at hl;simp at hl) (fun x hx=>by
        rcases insP_mem.1 hx with rfl | hx
        · simp only;omega
        · have hna:x.2≠a.2:=(NumsP.cons.1 h.nums).1 x (by simp[hx])
          have hnb:x.2≠b.2:=(NumsP.cons.1 (NumsP.cons.1 h.nums).2).1 x hx;have:=hD x (by simp[hx])
          rw[zbs,if_neg (by simp[hna,hnb])] at this
          exact this)
      rw[zcf _ (zbZ _ _),List.map_cons,List.sum_cons] at hIH;rw[List.map_cons,List.map_cons,List.sum_cons,List.sum_cons,ea,eb,zqy h (fun _ d=>2 ^ (D-d)),←hIH];simp only;obtain⟨d,hd⟩:∃ d,zbs n (zdd (a.1+b.1,m) r) (m+1) m=d:=⟨_,rfl⟩;rw[hd] at ha ⊢;rw[show D-d=(D-(d+1))+1 by omega,Nat.pow_succ]
      omega
theorem zo7 (w:List Nat) (i x:Nat) (h:w[i]?=some x):(x,i)∈zaK w:=by
  unfold zaK;rw[List.mem_zipIdx_iff_getElem?];exact h
theorem zfV {w:List Nat} {y:NP} (h:y∈zaK w):w[y.2]?=some y.1:=by
  unfold zaK at h;rw[List.mem_zipIdx_iff_getElem?] at h;exact h
theorem zbj (w:List Nat):(zaK w).length=w.length:=by simp[zaK]
theorem zg3 (w:List Nat):NumsP (zaK w):=by
  unfold NumsP zaK;rw[show (fun x:NP=>x.2)=Prod.snd from rfl,List.zipIdx_map_snd]
  exact List.nodup_range'
theorem zd4 {w:List Nat} (h:∀ x∈w,1≤x):RowP (zcP (zaK w)) w.length:=by
  refine⟨zoM (zg3 w),(zg3 w).perm (za7 _),fun x hx=>?_,fun x hx=>?_⟩
  · have:=zfV ((za7 _).mem_iff.1 hx)
    exact (List.getElem?_eq_some_iff.1 this).1
  · have:=zfV ((za7 _).mem_iff.1 hx)
    exact h _ (List.mem_of_getElem? this)
theorem zb0 (l:List NP):(zcP l).length=l.length:=(za7 l).length_eq
def dpF (w:List Nat) (i:Nat):Nat:=zbs w.length (zcP (zaK w)) w.length i
theorem zbv (w:List Nat) (i:Nat) (h:i<w.length):(zao w)[i]?=some (dpF w i):=by
  unfold zao dpF;rw[List.getElem?_map,List.getElem?_range h];rfl
theorem zaq (w:List Nat):(zao w).length=w.length:=by simp[zao]
theorem zjq {w:List Nat} {i x:Nat} (h:w[i]?=some x):(x,i)∈zcP (zaK w):=(za7 _).mem_iff.2 (zo7 w i x h)
theorem ztm {w:List Nat} (hw:∀ x∈w,1≤x) (h2:2≤w.length) {i k x y:Nat} (h:w[i]?=some x) (g:w[k]?=some y) (hxy:y≤x∨y≤2):dpF w i≤dpF w k+1:=by
  have hr:=zd4 hw;have hlen:(zcP (zaK w)).length=w.length:=by rw[zb0,zbj]
  obtain⟨p,hp1,hp2,hp3⟩:=zmO w.length _ _ hr (by rw[hlen];exact Nat.le_refl _) (by omega) _ (zjq h)
  have hx:=hw x (List.mem_of_getElem? h);have hpm:=zlQ _ _ _ p hp1;have hk:=(List.getElem?_eq_some_iff.1 g).1;have hm:=zqU w.length _ _ hr (by rw[hlen];exact Nat.le_refl _) (y,k) p (.inl (zjq g)) (.inr hp1) (by rw[zb7];simp only at hp3 ⊢;omega)
  simp only at hp2 hm;unfold dpF;omega
theorem zdG {w:List Nat} (hw:∀ x∈w,1≤x) (h0:w≠[]) (D:Nat) (hD:∀ i,i<w.length→dpF w i≤D):((zao w).map fun d=>2 ^ (D-d)).sum=2 ^ D:=by
  have hr:=zd4 hw;have hlen:(zcP (zaK w)).length=w.length:=by rw[zb0,zbj]
  have h1:=zpi D w.length _ _ hr (by rw[hlen];exact Nat.le_refl _) (fun e=>by rw[e] at hlen;exact h0 (List.eq_nil_of_length_eq_zero hlen.symm)) (fun x hx=>by
    have:=zfV ((za7 _).mem_iff.1 hx);exact hD x.2 (List.getElem?_eq_some_iff.1 this).1)
  rw[zcf _ (za7 _)] at h1
  have h2:(zaK w).map (fun x=>2 ^ (D-zbs w.length (zcP (zaK w)) w.length x.2))=(zao w).map fun d=>2 ^ (D-d):=by
    unfold zao;rw[List.map_map];have:(zaK w).map (fun x=>2 ^ (D-zbs w.length (zcP (zaK w)) w.length x.2))=((zaK w).map (fun x:NP=>x.2)).map fun i=>2 ^ (D-zbs w.length (zcP (zaK w)) w.length i):=by rw[List.map_map];rfl
    rw[this];congr 1
    unfold zaK;rw[show (fun x:NP=>x.2)=Prod.snd from rfl,List.zipIdx_map_snd,List.range_eq_range']
  rw[←h2];exact h1
theorem zuN (l:List Nat) (d:Nat) (h:∀ x∈l,x=d+1∨x=d):(l.map fun x=>2 ^ (d+1-x)).sum+l.count (d+1)=2*l.length:=by
  induction l with
  | nil=>rfl
  | cons x l ih =>
    have hi:=ih fun y hy=>h y (by simp[hy])
    rw[List.map_cons,List.sum_cons,List.count_cons,List.length_cons];rcases h x (by simp) with rfl | rfl
    · simp;omega
    · rw[show x+1-x=1 by omega]
      simp;omega
theorem zs0 (l:List Nat):(l.map fun _=>1).sum=l.length:=by
  induction l with
  | nil=>rfl
  | cons x l ih=>rw[List.map_cons,List.sum_cons,ih,List.length_cons];omega
theorem zlN {w:List Nat} (hw:∀ x∈w,1≤x) (h2:2≤w.length) (hn:∀ i k,i<w.length→k<w.length→dpF w i≤dpF w k+1) :
    ∃ d,(∀ i,i<w.length→dpF w i=d+1∨dpF w i=d)∧2 ^ d<w.length∧w.length≤2 ^ (d+1)∧(w.length=2 ^ (d+1)→∀ i,i<w.length→dpF w i=d+1):=by
  obtain⟨i0,hi0,hmax⟩:∃ i0,i0<w.length∧∀ i,i<w.length→dpF w i≤dpF w i0:=by
    have:∀ n,0<n→n≤w.length→∃ i0,i0<n∧∀ i,i<n→dpF w i≤dpF w i0:=by
      intro n
      induction n with
      | zero=>intro h;omega
      | succ n ih =>
        intro _ hn;rcases Nat.eq_zero_or_pos n with rfl | h0
        · refine⟨0,by omega,fun i hi=>?_⟩
          obtain rfl:i=0:=by omega
          exact Nat.le_refl _
        · obtain⟨j,hj,hm⟩:=ih h0 (by omega)
          by_cases hc:dpF w j≤dpF w n
          · refine⟨n,by omega,fun i hi=>?_⟩
            by_cases e:i=n
            · subst e;exact Nat.le_refl _
            · exact Nat.le_trans (hm i (by omega)) hc
          · refine⟨j,by omega,fun i hi=>?_⟩
            by_cases e:i=n
            · subst e;omega
            · exact hm i (by omega)
    exact this w.length (by omega) (Nat.le_refl _)
  have hpos:0<dpF w i0:=by
    rcases Nat.eq_zero_or_pos (dpF w i0) with h0 | h0
    · exfalso
      have hk:=zdG hw (fun e=>by rw[e] at h2;simp at h2) 0 (fun i hi=>by have:=hmax i hi;omega)
      have:((zao w).map fun d=>2 ^ (0-d)).sum=(zao w).length:=by
        have e:((zao w).map fun d=>2 ^ (0-d))=(zao w).map fun _=>1:=List.map_congr_left fun x _=>by rw[Nat.zero_sub,Nat.pow_zero]
        rw[e,zs0]
      rw[this,zaq] at hk;omega
    · exact h0
  obtain⟨d,hd⟩:∃ d,dpF w i0=d+1:=⟨dpF w i0-1,by omega⟩
  have hall:∀ i,i<w.length→dpF w i=d+1∨dpF w i=d:=fun i hi=>by
    have h3:=hmax i hi;have h4:=hn i0 i hi0 hi;omega
  have hk:=zdG hw (fun e=>by rw[e] at h2;simp at h2) (d+1) (fun i hi=>by have:=hmax i hi;omega)
  have hmem:∀ x∈zao w,x=d+1∨x=d:=fun x hx=>by
    obtain⟨i,hi,he⟩:=List.getElem_of_mem hx;rw[zaq] at hi;have h3:=zbv w i hi;rw[List.getElem?_eq_getElem (by rw[zaq];exact hi),he] at h3
    injection h3 with h3
    rw[h3];exact hall i hi
  have hs:=zuN (zao w) d hmem;rw[hk,zaq] at hs;have hc0:0<(zao w).count (d+1):=List.count_pos_iff.2 (List.mem_of_getElem? (by rw[←hd];exact zbv w i0 hi0))
  have hc1:(zao w).count (d+1)≤w.length:=by rw[←zaq];exact List.count_le_length
  rw[Nat.pow_succ] at hs;refine⟨d,hall,by omega,by rw[Nat.pow_succ];omega,fun he i hi=>?_⟩
  have hcl:(zao w).count (d+1)=(zao w).length:=by rw[zaq,he,Nat.pow_succ];rw[he,Nat.pow_succ] at hs;omega
  have h5:=List.count_eq_length.1 hcl _ (List.mem_of_getElem? (zbv w i hi));exact h5.symm
def zdz (n:Nat):List Int:=if h:n=0 then [] else (((n-1) % 2:Nat):Int)::zdz ((n-1) / 2)
termination_by n
decreasing_by omega
theorem zfv:zdz 0=[]:=by rw[zdz];rfl
theorem zgM {n:Nat} (h:0<n):zdz n=(((n-1) % 2:Nat):Int)::zdz ((n-1) / 2):=by rw[zdz,dif_neg (by omega)]
def Dig (d:List Int):Prop:=∀ x∈d,x=0∨x=1
theorem zgw (n:Nat):Dig (zdz n):=by
  induction n using Nat.strongRecOn with
  | ind n ih =>
    rcases Nat.eq_zero_or_pos n with rfl | h
    · rw[zfv];intro x hx;simp at hx
    · rw[zgM h]
      intro x hx;rcases List.mem_cons.1 hx with rfl | hx
      · omega
      · exact ih _ (by omega) x hx
theorem zir (n:Nat):∀ k,n+1<2 ^ (k+1)→(zdz n).length≤k:=by
  induction n using Nat.strongRecOn with
  | ind n ih =>
    intro k hk;rcases Nat.eq_zero_or_pos n with rfl | h
    · rw[zfv];simp
    · rw[zgM h]
      cases k with
      | zero=>omega
      | succ k =>
        have:=ih ((n-1) / 2) (by omega) k (by rw[Nat.pow_succ] at hk;omega)
        simp only[List.length_cons];omega
theorem zcT (n:Nat) (h:n<9223372036854775808):(zdz n).length≤63:=zir n 63 (by omega)
def zhP (d:List Int):Nat:=d.foldr (fun x n=>2*n+x.toNat+1) 0
theorem zkL (x:Int) (d:List Int):zhP (x::d)=2*zhP d+x.toNat+1:=rfl
theorem zfC (n:Nat):zhP (zdz n)=n:=by
  induction n using Nat.strongRecOn with
  | ind n ih =>
    rcases Nat.eq_zero_or_pos n with rfl | h
    · rw[zfv];rfl
    · rw[zgM h,zkL,ih _ (by omega)];omega
theorem zeq (d:List Int):d.length≤zhP d:=by
  induction d with
  | nil=>exact Nat.le_refl _
  | cons x d ih=>rw[zkL,List.length_cons];omega
def zj8:Nat→List Int→List Int
  | n,[]=>zdz n
  | n,x::t=>if x≤0 then zj8 (n+1) t else zdz n++(x+1)::zj8 0 t
def enc (l:List Int):List Int:=zj8 0 l
def zaQ (top:Int) (l:List Int):Nat:=(l.takeWhile fun x=>decide (x≤top)).length
theorem zi0 (top:Int):zaQ top []=0:=rfl
theorem zbo {top x:Int} {l:List Int} (h:x≤top):zaQ top (x::l)=zaQ top l+1:=by simp[zaQ,h]
theorem zbp {top x:Int} {l:List Int} (h:¬ x≤top):zaQ top (x::l)=0:=by simp[zaQ,h]
theorem zfd (top:Int) (l:List Int):zaQ top l≤l.length:=by
  induction l with
  | nil=>exact Nat.le_refl _
  | cons x l ih =>
    by_cases h:x≤top
    · rw[zbo h,List.length_cons];omega
    · rw[zbp h];omega
theorem ziL {top:Int} {l:List Int} {i:Nat} {x:Int} (h:i<zaQ top l) (hx:l[i]?=some x):x≤top:=by
  induction l generalizing i with
  | nil=>simp at hx
  | cons y l ih =>
    by_cases hy:y≤top
    · rw[zbo hy] at h
      cases i with
      | zero=>simp at hx;omega
      | succ i=>exact ih (i:=i) (by omega) (by simpa using hx)
    · rw[zbp hy] at h;omega
theorem zrt {top:Int} {l:List Int} {x:Int} (hx:l[zaQ top l]?=some x):top<x:=by
  induction l with
  | nil=>simp at hx
  | cons y l ih =>
    by_cases hy:y≤top
    · rw[zbo hy] at hx;exact ih (by simpa using hx)
    · rw[zbp hy] at hx;simp at hx;omega
theorem zqW {top:Int} {l:List Int} {k:Nat} (hk:k≤l.length) (h1:∀ i x,i<k→l[i]?=some x→x≤top) (h2:∀ x,l[k]?=some x→top<x):zaQ top l=k:=by
  rcases Nat.lt_trichotomy (zaQ top l) k with h | h | h
  · have hx:l[zaQ top l]?=some l[zaQ top l]:=List.getElem?_eq_getElem (by omega)
    have:=zrt hx;have:=h1 _ _ h hx;omega
  · exact h
  · have hl:=zfd top l
    have hx:l[k]?=some l[k]:=List.getElem?_eq_getElem (by omega)
    have:=ziL h hx;have:=h2 _ hx;omega
def zeK:List Int→List Int
  | []=>[]
  | x::t=>(x+1)::enc t
theorem zs7 (l:List Int):∀ n,zj8 n l=zdz (n+zaQ 0 l)++zeK (l.drop (zaQ 0 l)):=by
  induction l with
  | nil=>intro n;simp[zj8,zi0,zeK]
  | cons x l ih =>
    intro n
    by_cases h:x≤0
    · rw[zbo h,zj8,if_pos h,ih]
      rw[show n+1+zaQ 0 l=n+(zaQ 0 l+1) by omega,List.drop_succ_cons]
    · rw[zbp h,zj8,if_neg h];rfl
theorem zqX (l:List Int):enc l=zdz (zaQ 0 l)++zeK (l.drop (zaQ 0 l)):=by
  have:=zs7 l 0;rw[Nat.zero_add] at this;exact this
theorem zta (l:List Int):∀ n,(zj8 n l).length≤n+l.length:=by
  induction l with
  | nil=>intro n;have:=zeq (zdz n);rw[zfC] at this;simpa [zj8] using this
  | cons x l ih =>
    intro n;rw[zj8];split
    · have:=ih (n+1);simp only[List.length_cons];omega
    · have:=ih 0
      have h2:=zeq (zdz n);rw[zfC] at h2;simp only[List.length_append,List.length_cons];omega
theorem zl9 (l:List Int):(enc l).length≤l.length:=by have:=zta l 0;unfold enc;omega
def zbS (n:Nat):List Int:=List.replicate n 0
def zpu:List Int→List Int→List Int
  | d,[]=>zbS (zhP d)
  | d,x::t=>if x≤1 then zpu (d++[x]) t else zbS (zhP d)++(x-1)::zpu [] t
def dec (m:List Int):List Int:=zpu [] m
def zdD:List Int→List Int
  | []=>[]
  | x::t=>(x-1)::dec t
theorem zrS (l:List Int):∀ d,zpu d l=zbS (zhP (d++l.take (zaQ 1 l)))++zdD (l.drop (zaQ 1 l)):=by
  induction l with
  | nil=>intro d;simp[zpu,zi0,zdD]
  | cons x l ih =>
    intro d
    by_cases h:x≤1
    · rw[zbo h,zpu,if_pos h,ih]
      simp
    · rw[zbp h,zpu,if_neg h];simp[zdD,dec]
theorem zuJ (l:List Int):dec l=zbS (zhP (l.take (zaQ 1 l)))++zdD (l.drop (zaQ 1 l)):=by
  have:=zrS l [];rw[List.nil_append] at this;exact this
theorem zbd (n:Nat):(zbS n).length=n:=by simp[zbS]
theorem zqL (a b:Nat):zbS (a+b)=zbS a++zbS b:=by unfold zbS;exact (List.replicate_append_replicate).symm
end Go.Proofs.YtoejfkeofbdalaaGreatDoor
