import Derived.Test.YtoejfkeofbdalaaGreatDoorM05
import Derived.Test.YtoejfkeofbdalaaGreatDoorM06
import Derived.Laws.Rows
import Derived.Deep.MidRow
import Derived.Deep.RegionHeld3
import Derived.OrdersIn
set_option linter.unusedVariables false
set_option maxRecDepth 100000
set_option maxHeartbeats 8000000
namespace Go.Proofs.YtoejfkeofbdalaaGreatDoor
open Go.RowKit
section
variable {w0 W W':World} {l:List (Value × List Int)} {bs:List (Nat × Array Value × TypeId)}
theorem Env.lit (h:Env w0 W l bs) (xs:List Int) (cs:Array Value) (k:Nat) (hk:k=W.heap.size) (hcs:cs.toList=zaj xs) (hl:xs.length≤maxLen) :
    Env w0 (W.alloc (.cells cs 3)) ((.slice (some ⟨k,0,none⟩) xs.length xs.length,xs)::l) bs:=⟨h.1.lit xs cs k hk hcs hl,(h.alloc _).2⟩
theorem Env.fresh (h:Env w0 W l bs) (hB:Below W.heap.size W W') {k:Nat} {cs:Array Value} {t:TypeId} (hk:W'.heap[k]?=some (.cells cs t (0,0))):Env w0 W' l ((k,cs,t)::bs) :=
  ⟨(h.step hB).1,fun p hp=>by
    rcases List.mem_cons.1 hp with rfl | hp
    · exact hk
    · exact (h.step hB).2 p hp⟩
end
section
variable {W c c':World}
theorem zwd (h:Below W.heap.size W c):Below W.heap.size W c.drew:=h.drew
theorem zk5 (h:Below W.heap.size W c) (o:Obj):Below W.heap.size W (c.alloc o):=h.alloc h.size o
theorem zvS (h2:Below c.heap.size c c') (h:Below W.heap.size W c):Below W.heap.size W c':=h.trans (h2.mono h.size)
theorem zwe (h:Below W.heap.size W c) {k:Nat} (hk:W.heap.size≤k) (i:Nat) (u:Value):Below W.heap.size W (c.setCell ⟨k,i,none⟩ u):=h.setCell (p:=⟨k,i,none⟩) hk u
theorem zwb {v:Value} {xs:List Int} (h:IsInts W W.heap.size v xs) (hB:Below W.heap.size W c):IsInts c c.heap.size v xs:=(h.below hB (Nat.le_refl _)).mono hB.size
theorem zwc {k:Nat} {o:Obj} (hB:Below c.heap.size c c') (h:c.heap[k]?=some o):c'.heap[k]?=some o:=(hB.block k (zab h)).trans h
theorem zwL (h:Below W.heap.size W c):W.heap.size≤c.heap.size:=h.size
theorem zwm {row:Option Nat} (hg:c.grownBy c' row) (h:Below W.heap.size W c) (hr:∀ k,row=some k→W.heap.size≤k):Below W.heap.size W c':=h.grown hg h.size hr
theorem zwf {k:Nat} {o:Obj} {row:Option Nat} (hg:c.grownBy c' row) (h:c.heap[k]?=some o) (hne:some k≠row):c'.heap[k]?=some o:=(hg.block k (zab h) hne).trans h
theorem zwo {base k n:Nat} {v:Value} {xs:List Int} {cs:Array Value} {t:TypeId} (hg:c.grownBy c' v.ownBlock) (ho:OwnInts c base v xs) (hte:t≠3) (h:c.heap[k]?=some (.cells cs t (0,0))):c'.heap[k]?=some (.cells cs t (0,0)) :=
  zwf hg h fun e=>by
    obtain⟨d,hd⟩:=zaN ho e.symm;rw[h] at hd;injection hd with hd
    injection hd with h1 h2
    exact hte h2
theorem zww (w:World) (a o:Obj):((w.alloc a).alloc o).heap[w.heap.size+1]?=some o:=zae _ _ _ (by simp)
theorem zwg {k:Nat} {a b:Value} {t:TypeId} (h:W.heap[k]?=some (.cells #[a,b] t (0,0))) (a' b':Value):((W.setCell ⟨k,0,none⟩ a').setCell ⟨k,1,none⟩ b').heap[k]?=some (.cells #[a',b'] t (0,0)):=by
  have h1:=zaf (zaf h 0 a') 1 b';simpa using h1
end
end Go.Proofs.YtoejfkeofbdalaaGreatDoor
namespace Go.Proofs.YtoejfkeofbdalaaGreatDoor
open Go.RowKit Go.Shelf
def KeepC (bad:Nat→Prop) (W W':World):Prop:=∀ b cs t fz,¬ bad b→W.heap[b]?=some (.cells cs t fz)→W'.heap[b]?=some (.cells cs t fz)
theorem KeepC.refl (bad:Nat→Prop) (W:World):KeepC bad W W:=fun _ _ _ _ _ h=>h
theorem KeepC.trans {bad:Nat→Prop} {A B C:World} (h:KeepC bad A B) (k:KeepC bad B C):KeepC bad A C:=fun b cs t fz h1 h2=>k b cs t fz h1 (h b cs t fz h1 h2)
theorem KeepC.put {bad:Nat→Prop} {W:World} {r:Nat} {o:Obj} (o':Obj) (h:W.heap[r]?=some o) (ho:o.isCells=false):KeepC bad W (W.putObj r o'):=fun b cs t fz _ h2=>by
  by_cases e:b=r
  · subst e
    rw[h] at h2;cases h2
    cases ho
  · rw[World.putObj_heap_other e];exact h2
theorem KeepC.below {bad:Nat→Prop} {W W' W2:World} (h:KeepC bad W W') (hB:Below W'.heap.size W' W2):KeepC bad W W2:=fun b cs t fz h1 h2=>by
  have h3:=h b cs t fz h1 h2;exact (hB.block b (zab h3)).trans h3
theorem KeepC.set {bad:Nat→Prop} {W W':World} (h:KeepC bad W W') {q:Addr} (hq:bad q.block) (u:Value):KeepC bad W (W'.setCell q u):=fun b cs t fz h1 h2 =>
  (Below.heap_setCell W' q u b (fun e=>h1 (by rw[e];exact hq))).trans (h b cs t fz h1 h2)
theorem KeepC.cells {bad:Nat→Prop} {W W':World} (h:KeepC bad W W') {b:Nat} {cs:Array Value} {t:TypeId} {fz:Nat × Nat} (hb:¬ bad b) (h1:W.heap[b]?=some (.cells cs t fz)):W'.heap[b]?=some (.cells cs t fz):=h b cs t fz hb h1
theorem zd2 {W:World} {b o:Nat} {v:Value} (h:W.cell? ⟨b,o,none⟩=some v):∃ cs t fz,W.heap[b]?=some (.cells cs t fz):=by
  obtain⟨ob,h1,h2⟩:=cells_of_cell h;cases ob <;> first | (cases h2;done) | exact⟨_,_,_,h1⟩
theorem KeepC.cell {bad:Nat→Prop} {W W':World} (h:KeepC bad W W') {b o:Nat} {v:Value} (hb:¬ bad b) (h1:W.cell? ⟨b,o,none⟩=some v):W'.cell? ⟨b,o,none⟩=some v:=by
  obtain⟨cs,t,fz,h2⟩:=zd2 h1;exact (World.cell?_of_block (w:=W) ((h b cs t fz hb h2).trans h2.symm)).trans h1
def zuU {α:Type} (n:Nat) (g:Nat) (lb:Array Value) (encs:α→Array Value) (Ok:α→World→Prop) (Kp:World→World→Prop) (S Sp:List α→Prop) (N:Nat) (w0:World):Prop :=
  ∀ (l:Nat) (J Jx:List α→World→Prop) (W:World),Below w0.heap.size w0 W→(∀ s A B,J s A→Below A.heap.size A B→J s B)→(∀ s A B,Jx s A→Below A.heap.size A B→Jx s B) →
    (∀ pre x W1,J pre W1→pre.length<N→Ok x W1→YieldAt Fence.wide (n-1) Tryz.prog l (encs x) W1 fun e W'=>(e=.returned (.bool true)∧J (pre++[x]) W'∧Kp W1 W'∧W1.heap.size≤W'.heap.size)∨(e=.returned (.bool false)∧Jx (pre++[x]) W')) →
    J [] W→CallsIn Fence.wide n Tryz.prog g (#[.func (.yield l) #[] #[]]++lb) W fun e W'=>(∃ v,e=.returned v)∧((∃ xs,S xs∧J xs W')∨(∃ pre,Sp pre∧Jx pre W'))
theorem zde {W W':World} (h:Below W.heap.size W W'):W.grownBy W' none:=⟨h.os,h.tape,h.output,h.size,fun k hk _=>h.block k hk⟩
def zfG (fn:FuncId) (tmps:Array Value) (ps:Array Tmp) (assign body:Go.Code) (D:Nat) (st:LoopState) (pe:Option Go.Code):Obj:=.loop { state:=st,pending:=pe,fn,tmps,params:=ps,assign,body,defers:=D }
def RecAt (D:Nat) (o:Obj) (W:World):Prop:=W.heap[D+1]?=some o∧W.heap[D]?=some (.deferred (some []))
theorem RecAt.from {D:Nat} {o:Obj} {W W':World} (h:RecAt D o W) (ho:o.isCells=false) (hk:KeepsFrom D W W'):RecAt D o W':=⟨hk.same _ _ (by omega) h.1 ho,hk.same _ _ (Nat.le_refl _) h.2 rfl⟩
theorem RecAt.bel {D:Nat} {o:Obj} {W W':World} (h:RecAt D o W) (hB:Below W.heap.size W W'):RecAt D o W':=⟨(hB.block _ (zab h.1)).trans h.1,(hB.block _ (zab h.2)).trans h.2⟩
theorem RecAt.put {D:Nat} {o:Obj} {W:World} (h:RecAt D o W) (o':Obj):RecAt D o' (W.putObj (D+1) o'):=⟨World.putObj_heap_same (zab h.1),(World.putObj_heap_other (by omega)).trans h.2⟩
variable {n:Nat}
theorem znc {α:Type} {fn:FuncId} {tmps:Array Value} {ps:Array Tmp} {assign body:Go.Code} {D:Nat} {encs:α→Array Value} (hps:∀ x,(encs x).size=ps.size) (Ok:α→World→Prop) (bad:Nat→Prop)
    (I:List α→World→Prop) (Ix:Go.Code→List α→World→Prop) (hI:OwnFrom D I) (hIx:∀ c,OwnFrom D (Ix c)) (Ax:α→Act→World→Prop) (hAx:∀ x a',OwnFrom D (fun (_:Unit) W=>Ax x a' W)) (N:Nat)
    (hassign:∀ (pre:List α) (x:α) (W:World) (K:Act→World→Prop),I pre W→Ok x W→D+1<W.heap.size→(∀ a' W',KeepsFrom D W W'→KeepC bad W W'→I pre W'→Ax x a' W'→K a' W') →
      assign.wpIn (Fence.wide.inRound (D+1)) n Tryz.prog (Exit.then K (fun _ _ _=>False)) { tmps:=(ps.zip (encs x)).foldl (fun t (p,v)=>t.setIfInBounds p v) tmps,defers:=[] } W)
    (hbody:∀ (pre:List α) (x:α) (a':Act) (W:World),I pre W→Ax x a' W→D+1<W.heap.size→pre.length<N→body.wpIn (Fence.wide.inRound (D+1)) n Tryz.prog (ownPostG D (KeepC bad) I Ix (pre++[x]) W) a' W)
    (pre:List α) (x:α) (W:World) (hJ:I pre W∧RecAt D (zfG fn tmps ps assign body D .ready none) W) (hlen:pre.length<N) (hok:Ok x W) :
    YieldAt Fence.wide n Tryz.prog (D+1) (encs x) W fun e W'=>(e=.returned (.bool true)∧(I (pre++[x]) W'∧RecAt D (zfG fn tmps ps assign body D .ready none) W')∧KeepC bad W W'∧W.heap.size≤W'.heap.size) ∨
      (e=.returned (.bool false)∧∃ c,Ix c (pre++[x]) W'∧RecAt D (zfG fn tmps ps assign body D .done (some c)) W'):=by
  obtain⟨hi,hr⟩:=hJ;have hlt:=zab hr.1;refine⟨fn,_,assign,body,run_yield hr.1 (hps x),roundIn_of_wpIn trivial (hassign pre x W _ hi hok hlt ?_)⟩;intro a' Wa hk1 hc1 hi1 hax;have hra:=hr.from rfl hk1
  have hltA:=zab hra.1;refine⟨_,run_beginRound hra.1 rfl,?_⟩;have hrb:=hra.put (zfG fn tmps ps assign body D .busy none);refine wpIn_mono (hbody pre x a' _ (hI.putObj _ hi1 (by omega) hra.1 rfl) ((hAx x a').putObj (s:=()) _ hax (by omega) hra.1 rfl) (zab hrb.1) hlen) ?_
  have hcb:KeepC bad W (Wa.putObj (D+1) (zfG fn tmps ps assign body D .busy none)):=hc1.trans (KeepC.put _ hra.1 rfl);have hzb:W.heap.size≤(Wa.putObj (D+1) (zfG fn tmps ps assign body D .busy none)).heap.size:=by simp only[World.putObj,Array.size_setIfInBounds];exact hk1.size
  have fin:∀ (jump:Option Go.Code) (W3:World),KeepsFrom D (Wa.putObj (D+1) (zfG fn tmps ps assign body D .busy none)) W3 →
      RecAt D (zfG fn tmps ps assign body D .busy none) W3:=fun jump W3 h3=>hrb.from rfl h3
  rintro e a3 W3 hp;cases e with
  | normal =>
    obtain⟨hk3,hc3,hi3⟩:=hp;have h3:=fin none W3 hk3;exact⟨_,_,run_endRound none h3.1,.inl ⟨rfl,⟨hI.putObj _ hi3 (by omega) h3.1 rfl,h3.put _⟩,(hcb.trans hc3).trans (KeepC.put _ h3.1 rfl),Nat.le_trans hzb (Nat.le_trans hk3.size (by simp[World.putObj]))⟩⟩
  | ret =>
    obtain⟨hk3,hi3⟩:=hp;have h3:=fin (some .ret) W3 hk3;exact⟨_,_,run_endRound (some .ret) h3.1,.inr ⟨rfl,.ret,(hIx _).putObj _ hi3 (by omega) h3.1 rfl,h3.put _⟩⟩
  | exit id =>
    obtain⟨hk3,hi3⟩:=hp;have h3:=fin (some (.exit id)) W3 hk3;exact⟨_,_,run_endRound (some (.exit id)) h3.1,.inr ⟨rfl,.exit id,(hIx _).putObj _ hi3 (by omega) h3.1 rfl,h3.put _⟩⟩
  | goto t =>
    obtain⟨hk3,hi3⟩:=hp;have h3:=fin (some (.goto t)) W3 hk3;exact⟨_,_,run_endRound (some (.goto t)) h3.1,.inr ⟨rfl,.goto t,(hIx _).putObj _ hi3 (by omega) h3.1 rfl,h3.put _⟩⟩
  | panic ch=>exact hp.elim
  | outgrown=>exact hp.elim
theorem zbw {β:Type} {B:Nat} {I:β→World→Prop} (h:OwnFrom B I) {s:β} {A C:World} (hs:I s A) (hB:Below A.heap.size A C):I s C:=h s A C none hs (zde hB) (fun r e=>by cases e)
theorem zjj {α:Type} {g:Operand} {ps:Array Tmp} {assign body:Go.Code} {Q:Exit→Act→World→Prop} {a:Act} {w:World} (h1:1≤n)
    {gf:Nat} {lb:Array Value} (hg:a.eval g=.func (.func gf) #[] lb) (eg:Enters Tryz.prog gf) {encs:α→Array Value} (hps:∀ x,(encs x).size=ps.size) (Ok:α→World→Prop) (bad:Nat→Prop) {S Sp:List α→Prop} {N:Nat} {w0:World}
    (hseq:zuU (n-1) gf lb encs Ok (KeepC bad) S Sp N w0) (hb0:Below w0.heap.size w0 w)
    (I:List α→World→Prop) (Ix:Go.Code→List α→World→Prop) (hI:OwnFrom w.heap.size I) (hIx:∀ c,OwnFrom w.heap.size (Ix c)) (h0:I [] w) (Ax:α→Act→World→Prop) (hAx:∀ x a',OwnFrom w.heap.size (fun (_:Unit) W=>Ax x a' W))
    (hassign:∀ (l:Nat) (pre:List α) (x:α) (W:World) (K:Act→World→Prop),I pre W→Ok x W→w.heap.size+1<W.heap.size→(∀ a' W',KeepsFrom w.heap.size W W'→KeepC bad W W'→I pre W'→Ax x a' W'→K a' W') →
      assign.wpIn (Fence.wide.inRound l) (n-1-1) Tryz.prog (Exit.then K (fun _ _ _=>False)) { tmps:=(ps.zip (encs x)).foldl (fun t (p,v)=>t.setIfInBounds p v) a.tmps,defers:=[] } W)
    (hbody:∀ (l:Nat) (pre:List α) (x:α) (a':Act) (W:World),I pre W→Ax x a' W→w.heap.size+1<W.heap.size→pre.length<N→body.wpIn (Fence.wide.inRound l) (n-1-1) Tryz.prog (ownPostG w.heap.size (KeepC bad) I Ix (pre++[x]) W) a' W)
    (hdone:∀ (D:Nat) (xs:List α) (W:World),w.heap.size≤D→S xs→I xs W→W.heap[D]?=some (.deferred (some []))→Q .normal { a with defers:={ target:=.collected D,args:=#[] }::a.defers } W)
    (hstop:∀ (D:Nat) (c:Go.Code) (pre:List α) (W:World),w.heap.size≤D→Sp pre→Ix c pre W→W.heap[D]?=some (.deferred (some []))→c.wpIn Fence.wide n Tryz.prog Q { a with defers:={ target:=.collected D,args:=#[] }::a.defers } W) :
    (Code.rangeFunc g ps assign body).wpIn Fence.wide n Tryz.prog Q a w:=by
  refine wpIn_rangeFunc ?_;intro fn hfn;obtain⟨W1,hW1⟩:∃ W1,(w.alloc (.deferred (some []))).alloc (zfG fn a.tmps ps assign body w.heap.size .ready none)=W1:=⟨_,rfl⟩;have hB1:Below w.heap.size w W1:=by rw[←hW1];exact ((Below.refl _ w).alloc (Nat.le_refl _) _).alloc (by simp) _
  have hR1:RecAt w.heap.size (zfG fn a.tmps ps assign body w.heap.size .ready none) W1:=by
    rw[←hW1];exact⟨zae _ _ _ (by simp),zah _ (zae _ _ _ rfl)⟩
  refine⟨w.heap.size+1,[{ target:=.collected w.heap.size,args:=#[] }],W1,{ target:=.fn (.func gf) lb,args:=#[.func (.yield (w.heap.size+1)) #[] #[]] },W1,gf,
    #[.func (.yield (w.heap.size+1)) #[] #[]]++lb,W1,?_,?_,?_,?_,fun _=>h1,?_⟩
  · rw[←hW1];exact run_enterLoop_outer _ _ _ _ _
  · simp only[resolve,hg]
    simp[go_sem]
  · intro f' hf';simp[Target.leads] at hf';subst hf';trivial
  · have:=eg
    unfold Enters at this;simp[invoke,go_sem,this]
  · refine (hseq (w.heap.size+1) (fun pre W=>I pre W∧RecAt w.heap.size (zfG fn a.tmps ps assign body w.heap.size .ready none) W)
      (fun pre W=>∃ c,Ix c pre W∧RecAt w.heap.size (zfG fn a.tmps ps assign body w.heap.size .done (some c)) W) W1 (hb0.trans (hB1.mono hb0.size))
      (fun s A C h hB=>⟨zbw hI h.1 hB,h.2.bel hB⟩) (fun s A C ⟨c,h,h2⟩ hB=>⟨c,zbw (hIx c) h hB,h2.bel hB⟩)
      (fun pre x W hJ hlen hok=>znc hps Ok bad I Ix hI hIx Ax hAx N (hassign _) (hbody _) pre x W hJ hlen hok) ⟨zbw hI h0 hB1,hR1⟩).mono ?_
    rintro e W2 ⟨⟨v,rfl⟩,(⟨xs,hS,hi,hr⟩ | ⟨pre,hSp,c,hi,hr⟩)⟩
    · exact⟨none,_,run_endLoop hr.1 (by simp),hdone _ xs _ (Nat.le_refl _) hS (hI.putObj _ hi (by omega) hr.1 rfl) ((World.putObj_heap_other (by omega)).trans hr.2)⟩
    · exact⟨some c,_,run_endLoop hr.1 (by simp),hstop _ c pre _ (Nat.le_refl _) hSp ((hIx c).putObj _ hi (by omega) hr.1 rfl) ((World.putObj_heap_other (by omega)).trans hr.2)⟩
end Go.Proofs.YtoejfkeofbdalaaGreatDoor
namespace Go.Proofs.YtoejfkeofbdalaaGreatDoor
open Go.RowKit
theorem zjr {g:Nat} {t:TypeId}:∀ (vs:List Value) (w:World) (a b:List Value),w.heap[g]?=some (.cells (a++b).toArray t (0,0))→vs.length=b.length →
    (w.setCells g a.length vs).heap[g]?=some (.cells (a++vs).toArray t (0,0))∧(w.setCells g a.length vs).heap.size=w.heap.size∧(∀ k,k≠g→(w.setCells g a.length vs).heap[k]?=w.heap[k]?)∧(∀ (B:Nat) (w0:World),B≤g→Below B w0 w→Below B w0 (w.setCells g a.length vs)):=by
  intro vs
  induction vs with
  | nil =>
    intro w a b h hl;obtain rfl:b=[]:=List.eq_nil_of_length_eq_zero (by simpa using hl.symm)
    exact⟨h,rfl,fun _ _=>rfl,fun _ _ _ h=>h⟩
  | cons v vs ih =>
    intro w a b h hl
    obtain⟨x,b,rfl⟩:∃ x c,b=x::c:=by
      cases b with
      | nil=>simp at hl
      | cons x c=>exact⟨x,c,rfl⟩
    have h1:=zaf h a.length v
    have e1:((a++x::b).toArray.setIfInBounds a.length v)=((a++[v])++b).toArray:=by
      simp[List.set_append_right]
    rw[e1] at h1;obtain⟨i1,i2,i3,i4⟩:=ih (w.setCell ⟨g,a.length,none⟩ v) (a++[v]) b h1 (by simpa using hl)
    rw[List.length_append,List.length_singleton] at i1 i2 i3 i4;rw[World.setCells];refine⟨by simpa using i1,i2.trans (by simp[World.setCell]),fun k hk=>(i3 k hk).trans (Below.heap_setCell _ _ _ _ hk),fun B w0 hB h0=>i4 B w0 hB (h0.setCell (p:=⟨g,a.length,none⟩) hB v)⟩
theorem zaT {ops:Array Oper} {rest:List Oper} {op:Oper} {a:Act} {w:World} {Q:Exit→Act→World→Prop} (hgd:op.guard=none) (ty:TypeId) (x y:Operand) (ho:op.op=.store ty x y)
    (g:Nat) (cs old:Array Value) (t:TypeId) (hx:a.eval x=.pointer (some ⟨g,0,none⟩)) (hy:a.eval y=.agg cs)
    (hg:w.heap[g]?=some (.cells old t (0,0))) (hs:old.size=cs.size) (hi:(Tryz.prog.info? ty).map (·.size)=some cs.size) (h1:cs.all (·.oneCell')=true)
    (h:∀ w',w'.heap[g]?=some (.cells cs t (0,0))→w'.heap.size=w.heap.size→(∀ k,k≠g→w'.heap[k]?=w.heap[k]?)→(∀ (B:Nat) (w0:World),B≤g→Below B w0 w→Below B w0 w')→wpList Tryz.prog ops Q rest (a.put op.dst undef) w') :
    wpList Tryz.prog ops Q (op::rest) a w:=by
  have hc:∀ j,j<cs.size→(w.cell? ⟨g,0+j,none⟩).isSome=true∧w.frozen? ⟨g,0+j,none⟩=false:=fun j hj=>by
    rw[Nat.zero_add,zaa hg,zac hg,Array.getElem?_eq_getElem (by omega)]
    exact⟨rfl,rfl⟩
  refine wpList_store_mid hgd ty x y ho g 0 cs hx hy hc hi h1 ?_;obtain⟨i1,i2,i3,i4⟩:=zjr (g:=g) (t:=t) cs.toList w [] old.toList (by simpa using hg) (by simpa using hs.symm)
  exact h _ (by simpa using i1) i2 i3 i4
section
variable {P:Program} {ops:Array Oper} {Q:Exit→Act→World→Prop} {md:Region.Mode} {S:World→Prop}
theorem zay (i:Nat) {oi:Oper} {v:Value} {fuel:Nat} {listed:Array Bool} {a:Act} {w:World} (hi:ops[i]?=some oi)
    (hc:(Region.noSelect ops && Region.free md ops listed i && (Region.ready md ops listed).contains i)=true)
    (hQ:∀ c a w,Q (.panic c) (a.put oi.dst v) w→Q (.panic c) a w) (hw:Region.wanted oi (yielded ops a.tmps)=true) (hS:S w)
    (hv:∀ w,S w→(execOp a.eval oi).run P w=.ok (.value v) w)
    (h:wpAnyH P md ops Q S fuel (listed.setIfInBounds i true) (a.put oi.dst v) w):wpAnyH P md ops Q S (fuel+1) listed a w:=by
  simp only[Bool.and_eq_true] at hc;exact wpAnyH_take hi hc.1.1 hc.1.2 hc.2 hQ (Or.inl ⟨hw,hv⟩) hS h
theorem za4 (i:Nat) {o:Oper} {fuel:Nat} {listed:Array Bool} {a:Act} {w:World} (hi:ops[i]?=some o)
    (hr:Region.ready md ops listed=[i]) (hw:Region.wanted o (yielded ops a.tmps)=true)
    (h:∀ K:Act→World→Prop,Shut (∀ a w,S w→(S w→wpAnyH P md ops Q S fuel (listed.setIfInBounds i true) a w)→K a w)→Oper.wp P o a w K Q) :
    wpAnyH P md ops Q S (fuel+1) listed a w :=
  wpAnyH_ready hr (by simp) (AllReadyH.cons hi (fun K hK=>by rw[if_pos hw];exact h K hK) AllReadyH.nil)
end
end Go.Proofs.YtoejfkeofbdalaaGreatDoor
namespace Go.Proofs.YtoejfkeofbdalaaGreatDoor
open Go.RowKit Go.Shelf
abbrev SV:=Value × List Int
def IsSl (w:World) (B:Nat) (v:Value) (L:List SV):Prop:=Rd w B 1 v L.length (L.map (·.1))∧∀ p∈L,IsInts w B p.1 p.2
theorem IsSl.below {w w':World} {B B':Nat} {v:Value} {L:List SV} (h:IsSl w B v L) (hB:Below B' w w') (hle:B≤B'):IsSl w' B v L:=⟨h.1.below hB hle,fun p hp=>(h.2 p hp).below hB hle⟩
theorem IsSl.mono {w:World} {B B':Nat} {v:Value} {L:List SV} (h:IsSl w B v L) (hle:B≤B'):IsSl w B' v L:=⟨h.1.mono hle,fun p hp=>(h.2 p hp).mono hle⟩
theorem IsSl.up {w w':World} {v:Value} {L:List SV} (h:IsSl w w.heap.size v L) (hB:Below w.heap.size w w'):IsSl w' w'.heap.size v L:=(h.below hB (Nat.le_refl _)).mono hB.size
theorem IsSl.nil (w:World) (B:Nat):IsSl w B (.slice none 0 0) []:=⟨Rd.nil w B 1,fun p hp=>by simp at hp⟩
theorem IsSl.shape {w:World} {B:Nat} {v:Value} {L:List SV} (h:IsSl w B v L):∃ q c,v=.slice q L.length c∧L.length≤c∧c≤maxLen:=by
  obtain⟨_,A,c,e,h1,h2,_⟩:=h.1;exact⟨A,c,e,h1,h2⟩
theorem IsSl.at {w:World} {B n c:Nat} {q:Option Addr} {L:List SV} (h:IsSl w B (.slice q n c) L) (i:Nat) (p:SV) (hp:L[i]?=some p):∃ g o,q=some ⟨g,o,none⟩∧g<B∧w.cell? ⟨g,o+i,none⟩=some p.1∧IsInts w B p.1 p.2:=by
  have hi:=(List.getElem?_eq_some_iff.1 hp).1;obtain⟨_,g,o,x,hA,hg,hx,hc⟩:=Rd.one h.1 i hi;rw[List.getElem?_map,hp] at hx;injection hx with hx
  exact⟨g,o,hA,hg,by rw[hc,←hx],h.2 p (List.mem_of_getElem? hp)⟩
structure SlOwn (w:World) (base:Nat) (v:Value) (L:List SV):Prop where
  own:w.ownsRow base 67 1 v L.length (L.map (·.1))
  has:∀ p∈L,OwnInts w base p.1 p.2
theorem SlOwn.nil (w:World) (base:Nat):SlOwn w base (.slice none 0 0) []:=⟨World.ownsRow_nil _ _ _ _,fun p hp=>by simp at hp⟩
theorem SlOwn.is {w:World} {base:Nat} {v:Value} {L:List SV} (h:SlOwn w base v L):IsSl w w.heap.size v L:=⟨Rd.own h.own,fun p hp=>(h.has p hp).is⟩
theorem SlOwn.shape {w:World} {base:Nat} {v:Value} {L:List SV} (h:SlOwn w base v L):∃ q c,v=.slice q L.length c:=zgS h.own
theorem SlOwn.below {w w':World} {base:Nat} {v:Value} {L:List SV} (h:SlOwn w base v L) (hB:Below w.heap.size w w'):SlOwn w' base v L:=⟨zag h.own hB,fun p hp=>(h.has p hp).below hB⟩
theorem SlOwn.mono {w:World} {base b2:Nat} {v:Value} {L:List SV} (h:SlOwn w base v L) (hb:b2≤base):SlOwn w b2 v L:=⟨zcF h.own hb,fun p hp=>(h.has p hp).mono hb⟩
theorem zc7 {W W':World} {base e size n:Nat} {v:Value} {xs:List Value} {row:Option Nat} (h:W.ownsRow base e size v n xs) (hg:W.grownBy W' row) (hr:∀ r,row=some r→∃ o:Obj,W.heap[r]?=some o∧o.isCells=false):W'.ownsRow base e size v n xs:=by
  refine World.ownsRow.kept h hg ?_;cases hv:v.ownBlock with
  | none=>exact .inl rfl
  | some g =>
    refine .inr fun e'=>?_;obtain⟨o,h1,h2⟩:=hr g e'.symm;obtain⟨c,hc⟩:=zaN h hv;rw[h1] at hc;injection hc with hc
    rw[hc] at h2;cases h2
theorem SlOwn.quiet {W W':World} {base:Nat} {v:Value} {L:List SV} {row:Option Nat} (h:SlOwn W base v L) (hg:W.grownBy W' row) (hr:∀ r,row=some r→∃ o:Obj,W.heap[r]?=some o∧o.isCells=false):SlOwn W' base v L:=⟨zc7 h.own hg hr,fun p hp=>zc7 (h.has p hp) hg hr⟩
theorem zlE {W W':World} {row:Option Nat} {v:Value} {xs:List Int} (h:IsInts W W.heap.size v xs) (hg:W.grownBy W' row) (hr:∀ r,row=some r→∃ o:Obj,W.heap[r]?=some o∧o.isCells=false):IsInts W' W'.heap.size v xs:=by
  obtain⟨h1,A,cap,hv,h2,h3,h4⟩:=h;refine⟨h1,A,cap,hv,h2,h3,fun hn=>?_⟩;obtain⟨g,o,hA,hgs,hc⟩:=h4 hn;exact⟨g,o,hA,Nat.lt_of_lt_of_le hgs hg.size,fun i x hx=>cell_kept (hc i x hx) hg hr⟩
theorem zhi {w:World} {base e size n g i:Nat} {v u:Value} {xs:List Value} (h:w.ownsRow base e size v n xs) (hg:g<base):(w.setCell ⟨g,i,none⟩ u).ownsRow base e size v n xs:=by
  refine⟨h.1,?_⟩;rcases h.2 with h0 | ⟨k,cap,cur,e1,e2,e3,e4⟩
  · exact .inl h0
  · exact .inr ⟨k,cap,cur,e1,e2,(Below.heap_setCell w ⟨g,i,none⟩ u k (by show k≠g;omega)).trans e3,e4⟩
theorem SlOwn.far {w:World} {base g i:Nat} {v u:Value} {L:List SV} (h:SlOwn w base v L) (hg:g<base):SlOwn (w.setCell ⟨g,i,none⟩ u) base v L:=⟨zhi h.own hg,fun p hp=>zhi (h.has p hp) hg⟩
theorem zmD:(Tryz.prog.info? 67).map (fun i=>(i.zero,i.size,i.bytes))=some (some (.slice none 0 0),1,24):=by kernel_rfl
theorem ztV:(67:TypeId)≠3:=by decide
theorem zs9 {w:World} {base:Nat} {v:Value} {xs:List Int} (h:OwnInts w base v xs):v.oneCell'=true:=by
  obtain⟨q,c,rfl⟩:=h.shape;rfl
theorem zjD (w:World) (base:Nat) (ty:TypeId) (v:Value) (L:List SV) (ho:SlOwn w base v L) (k:Nat) (p:SV) (hk:w.heap[k]?=some (.cells #[p.1] 67 (0,0))) (hp:OwnInts w base p.1 p.2)
    (hlen:L.length≤1000000) (hbase:base≤w.heap.size) :
    ∃ q c w',(Builtin.append_ #[113,113] ty #[v,.slice (some ⟨k,0,none⟩) 1 1]).run Tryz.prog w=.ok (.slice q (L.length+1) c) w'∧SlOwn w' base (.slice q (L.length+1) c) (L++[p])∧w.grownBy w' v.ownBlock:=by
  obtain⟨i0,hi,hz0,hz1,hz2⟩:=info_parts zmD
  have hr:Rd w (k+1) 1 (.slice (some ⟨k,0,none⟩) 1 1) 1 [p.1]:=⟨rfl,_,1,rfl,Nat.le_refl _,by simp[maxLen],fun _=>⟨k,0,rfl,Nat.lt_succ_self _,fun i u hu=>by
    rw[Nat.zero_add,zaa hk,←hu];simp⟩⟩
  obtain⟨v',w',hrun,h2,h3,h4⟩:=zbN (P:=Tryz.prog) w base 113 ty 67 i0 (.slice none 0 0) 1 24 Tryz.underlying113 hi hz0 hz1 hz2 rfl (by decide) v L.length (L.map (·.1)) ho.own (k+1) 1 _ [p.1] hr (fun u hu=>by simp at hu;subst hu;exact zs9 hp) (by unfold maxLen;omega) (by omega) hbase
  have h5:w'.ownsRow base 67 1 v' (L++[p]).length ((L++[p]).map (·.1)):=by
    rw[List.length_append,List.map_append];exact h2
  have keep:∀ (x:Value) (xs:List Int),OwnInts w base x xs→OwnInts w' base x xs:=fun x xs hx=>by
    refine World.ownsRow.kept hx h3 ?_;cases hx0:x.ownBlock with
    | none=>exact .inl rfl
    | some g =>
      refine .inr fun e=>?_;obtain⟨c1,hc1⟩:=zaN hx hx0;obtain⟨c2,hc2⟩:=zaN ho.own e.symm;rw[hc1] at hc2;injection hc2 with hc2
      injection hc2 with _ hc2
      exact ztV hc2.symm
  have h6:SlOwn w' base v' (L++[p]):=⟨h5,fun t ht=>by
    rcases List.mem_append.1 ht with ht | ht
    · exact keep _ _ (ho.has t ht)
    · simp at ht
      subst ht;exact keep _ _ hp⟩
  obtain⟨q,c,rfl⟩:=h6.shape;rw[List.length_append] at hrun h6;exact⟨q,c,w',hrun,h6,h3⟩
theorem zcR {w:World} {o:Oper} {a:Act} {K:Act→World→Prop} {Q:Exit→Act→World→Prop} (s x:Operand)
    (ho:o.op=.call { callee:=.builtin .append,args:=#[s,x],argTypes:=#[113,113] })
    (base:Nat) (v:Value) (L:List SV) (hs:a.eval s=v) (hown:SlOwn w base v L) (k:Nat) (p:SV) (hx:a.eval x=.slice (some ⟨k,0,none⟩) 1 1) (hk:w.heap[k]?=some (.cells #[p.1] 67 (0,0))) (hp:OwnInts w base p.1 p.2)
    (hlen:L.length≤1000000) (hbase:base≤w.heap.size)
    (h:∀ q c w',SlOwn w' base (.slice q (L.length+1) c) (L++[p])→w.grownBy w' v.ownBlock→K (a.put o.dst (.slice q (L.length+1) c)) w'):Oper.wp Tryz.prog o a w K Q:=by
  obtain⟨q,c,w',hrun,h2,h3⟩:=zjD w base o.type v L hown k p hk hp hlen hbase;unfold Oper.wp execOp;simp only[ho,resolve,invoke,builtin,Sem.run_bind,Sem.run_pure,Result.andThen_ok,List.map_toArray,List.map_cons,List.map_nil,hs,hx,hrun];exact h q c w' h2 h3
theorem znU (a:Addr) (w:World) (v:Value) (hc:w.cell? a=some v):(loadVar 113 a).run Tryz.prog w=.ok v w:=by
  simp[loadVar,isAgg,hc]
end Go.Proofs.YtoejfkeofbdalaaGreatDoor
namespace Go.Proofs.YtoejfkeofbdalaaGreatDoor
open Go.RowKit
structure Only (k:Nat) (w w':World):Prop where
  os:w'.os=w.os
  tape:w'.tape=w.tape
  output:w'.output=w.output
  size:w.heap.size≤w'.heap.size
  block:∀ j,j<w.heap.size→j≠k→w'.heap[j]?=w.heap[j]?
theorem Only.refl (k:Nat) (w:World):Only k w w:=⟨rfl,rfl,rfl,Nat.le_refl _,fun _ _ _=>rfl⟩
theorem Only.of {k:Nat} {w w':World} (h:Below w.heap.size w w'):Only k w w':=⟨h.os,h.tape,h.output,h.size,fun j hj _=>h.block j hj⟩
theorem Only.trans {k:Nat} {a b c:World} (h:Only k a b) (g:Only k b c):Only k a c :=
  ⟨g.os.trans h.os,g.tape.trans h.tape,g.output.trans h.output,Nat.le_trans h.size g.size,fun j hj hk=>(g.block j (Nat.lt_of_lt_of_le hj h.size) hk).trans (h.block j hj hk)⟩
theorem Only.set {k:Nat} {a w:World} (h:Only k a w) (i:Nat) (u:Value):Only k a (w.setCell ⟨k,i,none⟩ u) :=
  h.trans ⟨rfl,rfl,rfl,by simp[World.setCell],fun j hj hk=>Below.heap_setCell _ _ _ _ hk⟩
theorem Only.below {k B:Nat} {w w':World} (h:Only k w w') (hk:B≤k) (hB:B≤w.heap.size):Below B w w':=⟨h.os,h.tape,h.output,h.size,fun j hj=>h.block j (by omega) (by omega)⟩
theorem Only.bel {k B:Nat} {w0 w w':World} (h:Only k w w') (h0:Below B w0 w) (hk:B≤k) (hB:B≤w0.heap.size):Below B w0 w':=h0.trans (h.below hk (Nat.le_trans hB h0.size))
theorem Only.other {k j:Nat} {o:Obj} {w w':World} (h:Only k w w') (hj:w.heap[j]?=some o) (hk:j≠k):w'.heap[j]?=some o:=(h.block j (zab hj) hk).trans hj
theorem zdW (s:ByteArray) (a n:Int) (w:World) (hs:s.size≤281474976710656) :
    Calls Tryz.prog 231 #[.string s,.int .i64 a,.int .i64 n] w fun e w'=>e=.returned (.tuple #[.int .u64 (zd9 s.data.toList a n),.int .i64 (zeO s.data.toList a n)])∧w=w':=by
  by_cases h1:n<0∨64<n∨a<0
  · have hv:zd9 s.data.toList a n=0:=by unfold zd9;rw[if_pos h1]
    have he:zeO s.data.toList a n=1:=by unfold zeO;rw[if_pos h1]
    rw[hv,he];clear hv he
    go_enter Tryz.func231,Tryz.ntmps231
    go_wp2
    all_goals (go_ret2;exact⟨rfl,rfl⟩)
  · by_cases h2:8*(s.data.toList.length:Int)-n<a
    · have hv:zd9 s.data.toList a n=0:=by unfold zd9;rw[if_neg h1,if_pos h2]
      have he:zeO s.data.toList a n=2:=by unfold zeO;rw[if_neg h1,if_pos h2]
      rw[hv,he];clear hv he;have hl:s.data.toList.length=s.size:=by simp
      rw[hl] at h2;have g1:0≤n:=by omega
      have g2:n≤64:=by omega
      have g3:0≤a:=by omega
      clear h1 hl
      go_enter Tryz.func231,Tryz.ntmps231
      go_wp2
      go_ret2;exact⟨rfl,rfl⟩
    · have hv:zd9 s.data.toList a n=(B.num (B.slice s.data.toList a.toNat n.toNat):Nat):=by unfold zd9;rw[if_neg h1,if_neg h2]
      have he:zeO s.data.toList a n=0:=by unfold zeO;rw[if_neg h1,if_neg h2]
      rw[hv,he];clear hv he;have hl:s.data.toList.length=s.size:=by simp
      rw[hl] at h2;obtain⟨n,rfl⟩:=Int.eq_ofNat_of_zero_le (show 0≤n by omega)
      obtain⟨a,rfl⟩:=Int.eq_ofNat_of_zero_le (show 0≤a by omega)
      have g2:n≤64:=by omega
      clear h1 hl;rw[Int.toNat_natCast,Int.toNat_natCast]
      go_enter Tryz.func231,Tryz.ntmps231
      go_wp2
      go_loop [6,29] (fun v i=>∃ k:Nat,k≤n∧i=.int .i64 k∧v=.int .u64 (B.num (B.slice s.data.toList a k):Nat)) (fun _ i=>n-(intOf i).toNat)
      case atStart=>exact⟨0,Nat.zero_le _,rfl,rfl⟩
      case round =>
        obtain⟨k,hk,rfl,rfl⟩:=hrel
        by_cases hlt:k<n
        · go_wp2_with (go_at_call 127;refine (zmC _ _ _ (by omega) (by omega) hs).mono ?_;rintro e w' ⟨rfl,rfl⟩)
          have e:B.num (B.slice s.data.toList a (k+1))=2*B.num (B.slice s.data.toList a k)+(B.bitAt s.data.toList (a+k)).toNat:=by rw[B.slice_succ,B.num_snoc]
          have hb:B.num (B.slice s.data.toList a k)<9223372036854775808:=by
            have:=B.num_lt (B.slice s.data.toList a k);rw[B.length_slice] at this;exact Nat.lt_of_lt_of_le this (Nat.pow_le_pow_right (by omega) (show k≤63 by omega))
          go_round
          case rel=>exact⟨k+1,by omega,by go_num,by rw[ztJ _ _ hb,e]⟩
          case measure=>simp[intOf];omega
        · go_wp2
          obtain rfl:k=n:=by omega
          go_ret2
          exact⟨rfl,rfl⟩
def NormalOnly (Q:Exit→Act→World→Prop):Exit→Act→World→Prop
  | .normal,a,w=>Q .normal a w
  | _,_,_=>False
theorem NormalOnly.normal {Q:Exit→Act→World→Prop} {a:Act} {w:World} (h:Q .normal a w):NormalOnly Q .normal a w:=h
theorem NormalOnly.lets {Q:Exit→Act→World→Prop}:¬ LetsOut (NormalOnly Q):=fun ⟨_,_,h⟩=>h
def zj4 (ops:Array Oper):Bool:=ops.all fun o=>match o.op with | .defer _=>false | _=>true
theorem zkW {ops:Array Oper} (h:zj4 ops=true) {i:Nat} {o:Oper} (hi:ops[i]?=some o):∀ c,o.op≠.defer c:=by
  intro c hc;have hm:o∈ops:=Array.mem_of_getElem? hi;have h2:=(Array.all_eq_true_iff_forall_mem.1 h) o hm;rw[hc] at h2;cases h2
theorem zl1 {n:Nat} {P:Program} {row:String} {args:Array Value} {w:World} {R:Value→World→Prop} (y:Nat) (h:Rows P row args w R) :
    RowsIn (Fence.wide.inRound y) n P row args w R:=fun c cs _=>by
  obtain⟨v,w',r,s⟩:=h c cs;exact⟨v,w',r,stepsIn_wide.2 s⟩
section
variable {P:Program} {ops:Array Oper} {Q:Exit→Act→World→Prop} {md:Region.Mode} {S:World→Prop} {n y:Nat}
theorem zrg {i:Nat} (hd:zj4 ops=true) {K K':Act→World→Prop} {a:Act} {w:World} (hK:∀ a w,K a w→K' a w)
    (h:wpOp P ops (NormalOnly Q) i K a w):wpOpIn (Fence.wide.inRound y) n P ops Q i K' a w:=by
  unfold wpOp at h;unfold wpOpIn;cases ho:ops[i]? with
  | none=>simp only[ho] at h ⊢;exact hK _ _ h
  | some o =>
    simp only[ho] at h ⊢
    by_cases hw:Region.wanted o (yielded ops a.tmps)=true
    · simp only[hw,if_true] at h ⊢
      rcases h with h | ⟨_,h⟩
      · refine⟨fun _ _=>trivial,?_⟩
        rw[Oper.semAt_plain _ _ _ (zkW hd ho)];unfold Oper.wp at h;generalize (execOp a.eval o).run P w=r at h;cases r with
        | ok x w' =>
          cases x <;> simp only[Oper.upon] at h <;> simp only[Oper.uponIn]
          case value v=>exact hK _ _ h
          case skip=>exact hK _ _ h
          case defer d=>exact hK _ _ h
          case enter f args =>
            refine⟨fun hh=>by simp[Fence.wide] at hh,CallsIn.inRound y (callsIn_wide.2 (h.mono ?_))⟩
            intro e w'' he;cases e with
            | returned v=>exact hK _ _ he
            | panicked c=>exact he.elim
            | outgrown=>exact (NormalOnly.lets he).elim
          case row row args=>exact⟨fun hh=>by simp[Fence.wide] at hh,zl1 y (h.mono fun _ _ he=>hK _ _ he)⟩
        | halt x w' =>
          cases x <;> simp only[Oper.upon] at h <;> simp only[Oper.uponIn]
          case panic v=>exact h.elim
      · exact (NormalOnly.lets h).elim
    · simp only[hw] at h ⊢
      exact⟨fun _ _=>trivial,hK _ _ h⟩
theorem ziN (hd:zj4 ops=true):∀ (fuel:Nat) (listed:Array Bool) (a:Act) (w:World),wpAny P md ops (NormalOnly Q) fuel listed a w →
    wpAnyIn (Fence.wide.inRound y) n P md ops Q fuel listed a w
  | 0,_,_,_,h=>⟨h.1,h.2⟩
  | fuel+1,_,_,_,h=>⟨fun hr=>h.1 hr,fun i hi=>zrg hd (fun a' w' h'=>ziN hd fuel _ a' w' h') (h.2 i hi)⟩
theorem zdv {id:Nat} {a:Act} {w:World} (hm:P.follows .mixedOrders=true) (hd:zj4 ops=true)
    (h:S w.drew→wpAnyH P .any ops (NormalOnly Q) S ops.size (Array.replicate ops.size false) a w.drew) (hS:S w.drew) :
    (Code.region id ops true).wpIn (Fence.wide.inRound y) n P Q a w :=
  wpIn_region_any hm (ziN hd _ _ _ _ (wpAny_of_held _ _ _ _ (h hS)))
end
def zcE (deep:List Nat) (all:List Nat):List Nat:=all.foldl (fun d j=>d.set j (d[j]?.getD 0+1)) deep
theorem zdf (all:List Nat):∀ deep,(zcE deep all).length=deep.length:=by
  induction all with
  | nil=>intro deep;rfl
  | cons x all ih=>intro deep;unfold zcE at *;rw[List.foldl_cons,ih,List.length_set]
theorem ziQ (all:List Nat):∀ (deep:List Nat) (j d:Nat),deep[j]?=some d→(zcE deep all)[j]?=some (d+all.count j):=by
  induction all with
  | nil=>intro deep j d h;simpa [zcE] using h
  | cons x all ih =>
    intro deep j d h;have hj:=(List.getElem?_eq_some_iff.1 h).1;unfold zcE;rw[List.foldl_cons]
    show (zcE (deep.set x (deep[x]?.getD 0+1)) all)[j]?=_
    by_cases e:x=j
    · subst e
      rw[ih _ x (d+1) (by rw[List.getElem?_set,if_pos rfl,if_pos hj,h];rfl),List.count_cons]
      simp;omega
    · rw[ih _ j d (by rw[List.getElem?_set,if_neg e];exact h),List.count_cons]
      simp[e]
theorem zml (deep all:List Nat) (k x:Nat) (h:all[k]?=some x):zcE deep (all.take (k+1))=(zcE deep (all.take k)).set x ((zcE deep (all.take k))[x]?.getD 0+1):=by
  unfold zcE;rw[List.take_add_one,h,List.foldl_append];rfl
def zt0 (n:Int):Bool:=decide (n<0) || decide (1048576<n)
def zu7 (l:List Int):Bool:=!l.any zt0
theorem ztx (l:List Int):zu7 l=true↔∀ x∈l,0≤x∧x≤1048576:=by
  unfold zu7 zt0;rw[Bool.not_eq_true',List.any_eq_false]
  constructor
  · intro h x hx
    have:=h x hx;simp at this;omega
  · intro h x hx
    have:=h x hx;simp;omega
theorem zmt (n:Int) (W:World):Calls Tryz.prog 138 #[.int .i64 n] W fun e w'=>e=.returned (.bool (zt0 n))∧W=w':=by
  unfold zt0;rcases h1:decide (n<0) with _ | _ <;> rcases h2:decide (1048576<n) with _ | _ <;>
  · go_enter Tryz.func138,Tryz.ntmps138
    go_wp2
    go_ret
    exact⟨rfl,rfl⟩
theorem ziq:Enters Tryz.prog 138:=enters_of Tryz.func138 (by kernel_rfl) rfl
theorem zot (w:World) (v:Value) (xs:List Int) (hv:IsInts w w.heap.size v xs) (hl:xs.length≤1000000) :
    Calls Tryz.prog 77 #[v] w fun e w'=>e=.returned (.bool (zu7 xs))∧Below w.heap.size w w':=by
  have C:=Lib.hid (zaO w v xs zt0 138 #[] ziq hv (by omega) (fun x _ W' _=>zmt x W'))
  have e:zu7 xs = !xs.any zt0:=rfl;rw[e];generalize xs.any zt0=b at *
  obtain⟨A,ca,rfl,hc1,hc2⟩:=hv.shape;clear hv e hl
  go_enter Tryz.func77,Tryz.ntmps77
  go_wp2_with fail
  refine C.out.mono ?_;rintro e w1 ⟨rfl,hB⟩
  go_wp2_with fail
  go_ret
  exact⟨rfl,hB⟩
end Go.Proofs.YtoejfkeofbdalaaGreatDoor
