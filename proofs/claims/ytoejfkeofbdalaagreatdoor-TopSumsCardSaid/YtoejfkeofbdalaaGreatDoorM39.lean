import Derived.Test.YtoejfkeofbdalaaGreatDoorM36
set_option linter.unusedVariables false
set_option maxRecDepth 100000
set_option maxHeartbeats 8000000
namespace Go.Proofs.YtoejfkeofbdalaaGreatDoor
open Go.RowKit Go.Shelf
attribute [local go_sem] Oper.semAt_some
def KeepY (T:TypeId→Bool) (W W':World):Prop:=∀ (b:Nat) (cs:Array Value) (t:TypeId) (fz:Nat × Nat),T t=true→W.heap[b]?=some (Obj.cells cs t fz)→W'.heap[b]?=some (Obj.cells cs t fz)
theorem KeepY.refl (T:TypeId→Bool) (W:World):KeepY T W W:=fun _ _ _ _ _ h=>h
theorem KeepY.trans {T:TypeId→Bool} {A B C:World} (h:KeepY T A B) (k:KeepY T B C):KeepY T A C:=fun b cs t fz h1 h2=>k b cs t fz h1 (h b cs t fz h1 h2)
theorem KeepY.put {T:TypeId→Bool} {W:World} {r:Nat} {o:Obj} (o':Obj) (h:W.heap[r]?=some o) (ho:o.isCells=false):KeepY T W (W.putObj r o'):=fun b cs t fz _ h2=>by
  by_cases e:b=r
  · subst e
    rw[h] at h2;cases h2
    cases ho
  · rw[World.putObj_heap_other e];exact h2
theorem KeepY.below {T:TypeId→Bool} {W W' W2:World} (h:KeepY T W W') (hB:Below W'.heap.size W' W2):KeepY T W W2:=fun b cs t fz h1 h2=>by
  have h3:=h b cs t fz h1 h2;exact (hB.block b (zab h3)).trans h3
theorem KeepY.of {T:TypeId→Bool} {W W':World} (hB:Below W.heap.size W W'):KeepY T W W':=(KeepY.refl T W).below hB
theorem KeepY.set {T:TypeId→Bool} {W W':World} (h:KeepY T W W') {q:Addr} {cs:Array Value} {t:TypeId} {fz:Nat × Nat} (hq:W'.heap[q.block]?=some (Obj.cells cs t fz)) (ht:T t=false) (u:Value):KeepY T W (W'.setCell q u):=fun b cs1 t1 fz1 h1 h2=>by
  have h3:=h b cs1 t1 fz1 h1 h2;refine (Below.heap_setCell W' q u b fun e=>?_).trans h3;rw[e,hq] at h3;cases h3
  rw[ht] at h1;cases h1
theorem KeepY.grown {T:TypeId→Bool} {W W' W2:World} {base e size n:Nat} {v:Value} {xs:List Value} (h:KeepY T W W') (ho:W'.ownsRow base e size v n xs) (ht:T e=false) (hg:W'.grownBy W2 v.ownBlock):KeepY T W W2:=fun b cs t fz h1 h2=>by
  have h3:=h b cs t fz h1 h2;refine (hg.block b (zab h3) fun e'=>?_).trans h3;obtain⟨c,hc⟩:=zaN ho e'.symm;rw[h3] at hc;cases hc
  rw[ht] at h1;cases h1
structure IterW (n0:Nat) (T:TypeId→Bool) (A B:World):Prop where
  os:B.os=A.os
  tape:B.tape=A.tape
  output:B.output=A.output
  size:A.heap.size≤B.heap.size
  low:∀ (b:Nat),b<n0→b<A.heap.size→B.heap[b]?=A.heap[b]?
  kept:∀ (b:Nat) (o:Obj),A.heap[b]?=some o→(∀ (cs:Array Value) (t:TypeId) (fz:Nat × Nat),o=Obj.cells cs t fz→T t=false)→B.heap[b]?=some o
theorem IterW.refl (n0:Nat) (T:TypeId→Bool) (A:World):IterW n0 T A A:=⟨rfl,rfl,rfl,Nat.le_refl _,fun _ _ _=>rfl,fun _ _ h _=>h⟩
theorem IterW.trans {n0:Nat} {T:TypeId→Bool} {A B C:World} (h:IterW n0 T A B) (k:IterW n0 T B C):IterW n0 T A C :=
  ⟨k.os.trans h.os,k.tape.trans h.tape,k.output.trans h.output,Nat.le_trans h.size k.size,fun b h1 h2=>(k.low b h1 (Nat.lt_of_lt_of_le h2 h.size)).trans (h.low b h1 h2),fun b o h1 h2=>k.kept b o (h.kept b o h1 h2) h2⟩
theorem IterW.of {n0:Nat} {T:TypeId→Bool} {A B:World} (h:Below A.heap.size A B):IterW n0 T A B:=⟨h.os,h.tape,h.output,h.size,fun b _ h2=>h.block b h2,fun b o h1 _=>(h.block b (zab h1)).trans h1⟩
theorem IterW.set {n0:Nat} {T:TypeId→Bool} {A B:World} (h:IterW n0 T A B) {q:Addr} {cs:Array Value} {t:TypeId} {fz:Nat × Nat} (hq:B.heap[q.block]?=some (Obj.cells cs t fz)) (ht:T t=true) (hn:n0≤q.block) (u:Value):IterW n0 T A (B.setCell q u) :=
  h.trans ⟨rfl,rfl,rfl,by simp[World.setCell],fun b h1 _=>Below.heap_setCell _ _ _ _ (by omega),fun b o h1 h2=>by
    refine (Below.heap_setCell B q u b fun e=>?_).trans h1;rw[e,hq] at h1;cases h1
    have:=h2 _ _ _ rfl;rw[ht] at this;cases this⟩
theorem IterW.grown {n0:Nat} {T:TypeId→Bool} {A B C:World} {base e size n:Nat} {v:Value} {xs:List Value} (h:IterW n0 T A B) (ho:B.ownsRow base e size v n xs) (ht:T e=true) (hn:n0≤base) (hg:B.grownBy C v.ownBlock):IterW n0 T A C :=
  h.trans ⟨hg.os,hg.tape,hg.output,hg.size,fun b h1 h2=>hg.block b h2 fun e'=>by have:=zaF ho e'.symm;omega,fun b o h1 h2=>by
    refine (hg.block b (zab h1) fun e'=>?_).trans h1;obtain⟨c,hc⟩:=zaN ho e'.symm;rw[h1] at hc;cases hc
    have:=h2 _ _ _ rfl;rw[ht] at this;cases this⟩
theorem IterW.below {n0 B0:Nat} {T:TypeId→Bool} {A B w:World} (h:IterW n0 T A B) (hB:Below B0 w A) (h0:B0≤n0) (h1:B0≤w.heap.size):Below B0 w B :=
  hB.trans ⟨h.os,h.tape,h.output,h.size,fun b hb=>h.low b (by omega) (by have:=hB.size;omega)⟩
theorem IterW.box {n0:Nat} {T:TypeId→Bool} {A B:World} (h:IterW n0 T A B) {b:Nat} {cs:Array Value} {t:TypeId} {fz:Nat × Nat} (hb:A.heap[b]?=some (Obj.cells cs t fz)) (ht:T t=false):B.heap[b]?=some (Obj.cells cs t fz) :=
  h.kept b _ hb fun cs1 t1 fz1 e=>by cases e;exact ht
theorem RecAt.iter {n0:Nat} {T:TypeId→Bool} {D:Nat} {o:Obj} {A B:World} (h:RecAt D o A) (ho:o.isCells=false) (hw:IterW n0 T A B):RecAt D o B :=
  ⟨hw.kept _ _ h.1 (fun cs t fz e=>by rw[e] at ho;cases ho),hw.kept _ _ h.2 (fun cs t fz e=>by cases e)⟩
theorem IterW.row {n0:Nat} {T:TypeId→Bool} {A B:World} {base e size n:Nat} {v:Value} {xs:List Value} (hw:IterW n0 T A B) (ho:A.ownsRow base e size v n xs) (ht:T e=false):B.ownsRow base e size v n xs:=by
  refine⟨ho.1,?_⟩;rcases ho.2 with h0 | ⟨g,cap,cur,e1,e2,e3,e4⟩
  · exact .inl h0
  · exact .inr ⟨g,cap,cur,e1,e2,hw.box e3 ht,e4⟩
def ztK {α:Type} (n0:Nat) (T:TypeId→Bool) (n:Nat) (g:Nat) (lb:Array Value) (encs:α→Array Value) (Ok:α→World→Prop) (S Sp:List α→Prop) (N:Nat) (w0:World):Prop :=
  ∀ (l:Nat) (J Jx:List α→World→Prop) (W:World),Below w0.heap.size w0 W→(∀ s A B,J s A→IterW n0 T A B→J s B)→(∀ s A B,Jx s A→IterW n0 T A B→Jx s B) →
    (∀ pre x W1,J pre W1→pre.length<N→Ok x W1→YieldAt Fence.wide (n-1) Tryz.prog l (encs x) W1 fun e W'=>(e=.returned (.bool true)∧J (pre++[x]) W'∧KeepY T W1 W'∧W1.heap.size≤W'.heap.size)∨(e=.returned (.bool false)∧Jx (pre++[x]) W')) →
    J [] W→CallsIn Fence.wide n Tryz.prog g (#[.func (.yield l) #[] #[]]++lb) W fun e W'=>(∃ v,e=.returned v)∧((∃ xs,S xs∧J xs W')∨(∃ pre,Sp pre∧Jx pre W'))
variable {n:Nat}
theorem zqB {α:Type} {fn:FuncId} {tmps:Array Value} {ps:Array Tmp} {assign body:Go.Code} {D:Nat} {encs:α→Array Value} (hps:∀ x,(encs x).size=ps.size) (Ok:α→World→Prop) (T:TypeId→Bool)
    (I:List α→World→Prop) (Ix:Go.Code→List α→World→Prop) (hI:OwnFrom D I) (hIx:∀ c,OwnFrom D (Ix c)) (Ax:α→Act→World→Prop) (hAx:∀ x a',OwnFrom D (fun (_:Unit) W=>Ax x a' W)) (N:Nat)
    (hassign:∀ (pre:List α) (x:α) (W:World) (K:Act→World→Prop),I pre W→Ok x W→D+1<W.heap.size→(∀ a' W',KeepsFrom D W W'→KeepY T W W'→I pre W'→Ax x a' W'→K a' W') →
      assign.wpIn (Fence.wide.inRound (D+1)) n Tryz.prog (Exit.then K (fun _ _ _=>False)) { tmps:=(ps.zip (encs x)).foldl (fun t (p,v)=>t.setIfInBounds p v) tmps,defers:=[] } W)
    (hbody:∀ (pre:List α) (x:α) (a':Act) (W:World),I pre W→Ax x a' W→D+1<W.heap.size→pre.length<N→body.wpIn (Fence.wide.inRound (D+1)) n Tryz.prog (ownPostG D (KeepY T) I Ix (pre++[x]) W) a' W)
    (pre:List α) (x:α) (W:World) (hJ:I pre W∧RecAt D (zfG fn tmps ps assign body D .ready none) W) (hlen:pre.length<N) (hok:Ok x W) :
    YieldAt Fence.wide n Tryz.prog (D+1) (encs x) W fun e W'=>(e=.returned (.bool true)∧(I (pre++[x]) W'∧RecAt D (zfG fn tmps ps assign body D .ready none) W')∧KeepY T W W'∧W.heap.size≤W'.heap.size) ∨
      (e=.returned (.bool false)∧∃ c,Ix c (pre++[x]) W'∧RecAt D (zfG fn tmps ps assign body D .done (some c)) W'):=by
  obtain⟨hi,hr⟩:=hJ;have hlt:=zab hr.1;refine⟨fn,_,assign,body,run_yield hr.1 (hps x),roundIn_of_wpIn trivial (hassign pre x W _ hi hok hlt ?_)⟩;intro a' Wa hk1 hc1 hi1 hax;have hra:=hr.from rfl hk1
  have hltA:=zab hra.1;refine⟨_,run_beginRound hra.1 rfl,?_⟩;have hrb:=hra.put (zfG fn tmps ps assign body D .busy none);refine wpIn_mono (hbody pre x a' _ (hI.putObj _ hi1 (by omega) hra.1 rfl) ((hAx x a').putObj (s:=()) _ hax (by omega) hra.1 rfl) (zab hrb.1) hlen) ?_
  have hcb:KeepY T W (Wa.putObj (D+1) (zfG fn tmps ps assign body D .busy none)):=hc1.trans (KeepY.put _ hra.1 rfl);have hzb:W.heap.size≤(Wa.putObj (D+1) (zfG fn tmps ps assign body D .busy none)).heap.size:=by simp only[World.putObj,Array.size_setIfInBounds];exact hk1.size
  have fin:∀ (jump:Option Go.Code) (W3:World),KeepsFrom D (Wa.putObj (D+1) (zfG fn tmps ps assign body D .busy none)) W3 →
      RecAt D (zfG fn tmps ps assign body D .busy none) W3:=fun jump W3 h3=>hrb.from rfl h3
  rintro e a3 W3 hp;cases e with
  | normal =>
    obtain⟨hk3,hc3,hi3⟩:=hp;have h3:=fin none W3 hk3;exact⟨_,_,run_endRound none h3.1,.inl ⟨rfl,⟨hI.putObj _ hi3 (by omega) h3.1 rfl,h3.put _⟩,(hcb.trans hc3).trans (KeepY.put _ h3.1 rfl),Nat.le_trans hzb (Nat.le_trans hk3.size (by simp[World.putObj]))⟩⟩
  | ret =>
    obtain⟨hk3,hi3⟩:=hp;have h3:=fin (some .ret) W3 hk3;exact⟨_,_,run_endRound (some .ret) h3.1,.inr ⟨rfl,.ret,(hIx _).putObj _ hi3 (by omega) h3.1 rfl,h3.put _⟩⟩
  | exit id =>
    obtain⟨hk3,hi3⟩:=hp;have h3:=fin (some (.exit id)) W3 hk3;exact⟨_,_,run_endRound (some (.exit id)) h3.1,.inr ⟨rfl,.exit id,(hIx _).putObj _ hi3 (by omega) h3.1 rfl,h3.put _⟩⟩
  | goto t =>
    obtain⟨hk3,hi3⟩:=hp;have h3:=fin (some (.goto t)) W3 hk3;exact⟨_,_,run_endRound (some (.goto t)) h3.1,.inr ⟨rfl,.goto t,(hIx _).putObj _ hi3 (by omega) h3.1 rfl,h3.put _⟩⟩
  | panic ch=>exact hp.elim
  | outgrown=>exact hp.elim
theorem zqh {α:Type} {n0:Nat} {g:Operand} {ps:Array Tmp} {assign body:Go.Code} {Q:Exit→Act→World→Prop} {a:Act} {w:World} (h1:1≤n)
    {gf:Nat} {lb:Array Value} (hg:a.eval g=.func (.func gf) #[] lb) (eg:Enters Tryz.prog gf) {encs:α→Array Value} (hps:∀ x,(encs x).size=ps.size) (Ok:α→World→Prop) (T:TypeId→Bool) {S Sp:List α→Prop} {N:Nat} {w0:World}
    (hseq:ztK n0 T (n-1) gf lb encs Ok S Sp N w0) (hb0:Below w0.heap.size w0 w)
    (I:List α→World→Prop) (Ix:Go.Code→List α→World→Prop) (hI:OwnFrom w.heap.size I) (hIx:∀ c,OwnFrom w.heap.size (Ix c)) (hIw:∀ s A B,I s A→IterW n0 T A B→I s B) (hIxw:∀ c s A B,Ix c s A→IterW n0 T A B→Ix c s B) (h0:I [] w) (Ax:α→Act→World→Prop) (hAx:∀ x a',OwnFrom w.heap.size (fun (_:Unit) W=>Ax x a' W))
    (hassign:∀ (l:Nat) (pre:List α) (x:α) (W:World) (K:Act→World→Prop),I pre W→Ok x W→w.heap.size+1<W.heap.size→(∀ a' W',KeepsFrom w.heap.size W W'→KeepY T W W'→I pre W'→Ax x a' W'→K a' W') →
      assign.wpIn (Fence.wide.inRound l) (n-1-1) Tryz.prog (Exit.then K (fun _ _ _=>False)) { tmps:=(ps.zip (encs x)).foldl (fun t (p,v)=>t.setIfInBounds p v) a.tmps,defers:=[] } W)
    (hbody:∀ (l:Nat) (pre:List α) (x:α) (a':Act) (W:World),I pre W→Ax x a' W→w.heap.size+1<W.heap.size→pre.length<N→body.wpIn (Fence.wide.inRound l) (n-1-1) Tryz.prog (ownPostG w.heap.size (KeepY T) I Ix (pre++[x]) W) a' W)
    (hdone:∀ (D:Nat) (xs:List α) (W:World),w.heap.size≤D→S xs→I xs W→W.heap[D]?=some (.deferred (some []))→Q .normal { a with defers:={ target:=.collected D,args:=#[] }::a.defers } W)
    (hstop:∀ (D:Nat) (c:Go.Code) (pre:List α) (W:World),w.heap.size≤D→Sp pre→Ix c pre W→W.heap[D]?=some (.deferred (some []))→c.wpIn Fence.wide n Tryz.prog Q { a with defers:={ target:=.collected D,args:=#[] }::a.defers } W) :
    (Code.rangeFunc g ps assign body).wpIn Fence.wide n Tryz.prog Q a w:=by
  refine wpIn_rangeFunc ?_;intro fn hfn;obtain⟨W1,hW1⟩:∃ W1,(w.alloc (.deferred (some []))).alloc (zfG fn a.tmps ps assign body w.heap.size .ready none)=W1:=⟨_,rfl⟩;have hB1:Below w.heap.size w W1:=by rw[←hW1];exact ((Below.refl _ w).alloc (Nat.le_refl _) _).alloc (by simp) _
  have hR1:RecAt w.heap.size (zfG fn a.tmps ps assign body w.heap.size .ready none) W1:=by
    rw[←hW1];exact⟨zae _ _ _ (by simp),zah _ (zae _ _ _ rfl)⟩
  refine⟨w.heap.size+1,[{ target:=.collected w.heap.size,args:=#[] }],W1,{ target:=.fn (.func gf) lb,args:=#[.func (.yield (w.heap.size+1)) #[] #[]] },W1,gf,
    #[.func (.yield (w.heap.size+1)) #[] #[]]++lb,W1,?_,?_,?_,?_,fun _=>h1,?_⟩
  · rw[←hW1];exact run_enterLoop_outer _ _ _ _ _
  · simp only[resolve,hg]
    simp[go_sem]
  · intro f' hf';simp[Target.leads] at hf';subst hf';trivial
  · have:=eg
    unfold Enters at this;simp[invoke,go_sem,this]
  · refine (hseq (w.heap.size+1) (fun pre W=>I pre W∧RecAt w.heap.size (zfG fn a.tmps ps assign body w.heap.size .ready none) W)
      (fun pre W=>∃ c,Ix c pre W∧RecAt w.heap.size (zfG fn a.tmps ps assign body w.heap.size .done (some c)) W) W1 (hb0.trans (hB1.mono hb0.size))
      (fun s A C h hB=>⟨hIw s A C h.1 hB,h.2.iter rfl hB⟩) (fun s A C ⟨c,h,h2⟩ hB=>⟨c,hIxw c s A C h hB,h2.iter rfl hB⟩)
      (fun pre x W hJ hlen hok=>zqB hps Ok T I Ix hI hIx Ax hAx N (hassign _) (hbody _) pre x W hJ hlen hok) ⟨zbw hI h0 hB1,hR1⟩).mono ?_
    rintro e W2 ⟨⟨v,rfl⟩,(⟨xs,hS,hi,hr⟩ | ⟨pre,hSp,c,hi,hr⟩)⟩
    · exact⟨none,_,run_endLoop hr.1 (by simp),hdone _ xs _ (Nat.le_refl _) hS (hI.putObj _ hi (by omega) hr.1 rfl) ((World.putObj_heap_other (by omega)).trans hr.2)⟩
    · exact⟨some c,_,run_endLoop hr.1 (by simp),hstop _ c pre _ (Nat.le_refl _) hSp ((hIx c).putObj _ hi (by omega) hr.1 rfl) ((World.putObj_heap_other (by omega)).trans hr.2)⟩
end Go.Proofs.YtoejfkeofbdalaaGreatDoor
namespace Go.Proofs.YtoejfkeofbdalaaGreatDoor
open Go.RowKit
theorem zof (w:World) (k base:Nat) (s:ByteArray) (n G M:Nat) (tv cv:Value) (L:List SV) (C S:List Nat) (T:Nat→List Nat) (px:Nat→Nat)
    (hE:zaA w k s (px 0) tv cv (.int .i64 (n:Nat))) (hs:s.size≤1099511627776) (hkb:k<base) (hb:base≤w.heap.size)
    (hC:OwnInts w base cv (ints C)) (hT:SlOwn w base tv L) (hL:L.map (·.2)=(List.range 2).map fun i=>ints (T i)) (hC2:∀ c∈C,c<2) (hCl:C.length=G) (hTc:∀ i,i<2→Code (T i))
    (hM:S.length=M) (hM0:0<M) (hMG:M≤10*G) (hGM:10*G<M+10) (hM1:M≤100000) (hn2:2≤n) (hn:n≤258)
    (hlast:∀ q,q<M→(S.getD q 0=n-1↔q+1=M)) (hSn:∀ q,q<M→S.getD q 0<n)
    (hw:∀ q,q<M→zha (T (C.getD (q / 10) 0)) s.data.toList (px q) = .ok (S.getD q 0,((px (q+1):Nat):Int))) :
    Calls Tryz.prog 287 #[.pointer (some ⟨k,0,none⟩)] w fun e w'=>∃ sv,e=.returned sv∧Only k w w'∧zaA w' k s (px M) tv cv (.int .i64 (n:Nat))∧OwnInts w' w.heap.size sv (ints S):=by
  obtain⟨cq,cc,rfl⟩:=hC.shape;obtain⟨tq,tc,rfl⟩:=hT.shape
  have hLl:L.length=2:=by
    have:=congrArg List.length hL;simpa using this
  rw[zad,hCl] at hE hC ⊢;rw[hLl] at hE hT ⊢
  have CT:Hid (∀ q,q<M→∀ W vt,IsInts W W.heap.size vt (ints (T (C.getD (q / 10) 0)))→Calls Tryz.prog 313 #[vt,.string s,.int .i64 (px q:Nat)] W fun e w'=>e=.returned (.tuple #[.int .i64 (S.getD q 0:Nat),.int .i64 (px (q+1):Nat),.int .i64 0])∧Below W.heap.size W w'):=fun q hq W vt hi=>by
    have hc2:C.getD (q / 10) 0<2:=by
      have hl:q / 10<C.length:=by omega
      rw[List.getD_eq_getElem?_getD,List.getElem?_eq_getElem hl];exact hC2 _ (List.getElem_mem hl)
    have:=zrE W vt (T (C.getD (q / 10) 0)) s (px q:Nat) hi (hTc _ hc2) (by omega)
    rw[hw q hq] at this;exact this
  have CM:=Lib.hid zgB;have HL:=Lib.hid hL;have HC:=Lib.hid hC;have HT:=Lib.hid hT;have HE:=Lib.hid hE;have HCl:=Lib.hid hCl;have HC2:=Lib.hid hC2;have HLA:=Lib.hid hlast;have HSN:=Lib.hid hSn;have HM:=Lib.hid hM;have HLl:=Lib.hid hLl;have HLT:=Lib.hid (zab hE);have k3:=(zaa hE 3).trans rfl;have x0:=zab hE;clear hL hC hT hE hCl hC2 hTc hlast hSn hw hM hLl
  go_enter Tryz.func287,Tryz.ntmps287
  go_wp2_with fail
  go_loopw [13,2] (fun iv ov wr=>∃ i:Nat,10*i<M∧iv=.int .i64 i∧∃ oq oc,ov=.slice oq (10*i) oc∧Hid (zaA wr k s (px (10*i)) (.slice tq 2 tc) (.slice cq G cc) (.int .i64 (n:Nat)))∧Hid (Only k w wr)∧Hid (OwnInts wr w.heap.size ov (ints (S.take (10*i))))) (fun iv _ _=>G+1-(intOf iv).toNat)
  case atStart=>exact⟨0,by omega,rfl,_,_,rfl,HE,Lib.hid (Only.refl _ _),Lib.hid (OwnInts.nil _ _)⟩
  case round =>
    clear HE k3 x0;obtain⟨i,hi,rfl,oq,oc,rfl,HR,HO,HW⟩:=hrel;have hiG:i<G:=by omega
    have hd:decide ((i:Int)<(G:Int))=true:=decide_eq_true (by omega)
    obtain⟨c,hc⟩:∃ c,C.getD i 0=c:=⟨_,rfl⟩;have hcl:i<C.length:=by rw[HCl.out];exact hiG
    have hci:(ints C)[i]?=some (c:Int):=by
      rw[←hc,List.getD_eq_getElem?_getD,List.getElem?_eq_getElem hcl];simp[ints,hcl]
    have hc2:c<2:=by
      rw[←hc,List.getD_eq_getElem?_getD,List.getElem?_eq_getElem hcl];exact HC2.out _ (List.getElem_mem hcl)
    obtain⟨g3,o3,hcq,hg3,hcc⟩:=(OwnInts.is (zau HC.out HO.out hkb)).at i (by rw[zad,HCl.out];exact hiG)
    rw[hci] at hcc;have HGD:=Lib.hid hc;subst hcq;clear hc hcl hci
    go_wp2_with fail
    obtain⟨wo,rfl⟩:∃ wo:World,wo=wr:=⟨_,rfl⟩
    go_loopw [18,2] (fun jv ov wr=>∃ j:Nat,j≤10∧10*i+j<M∧jv=.int .i64 j∧∃ oq oc,ov=.slice oq (10*i+j) oc∧Hid (zaA wr k s (px (10*i+j)) (.slice tq 2 tc) (.slice (some ⟨g3,o3,none⟩) G cc) (.int .i64 (n:Nat)))∧Hid (Only k w wr)∧Hid (OwnInts wr w.heap.size ov (ints (S.take (10*i+j))))) (fun jv _ _=>11-(intOf jv).toNat)
    case atStart=>exact⟨0,by omega,hi,rfl,_,_,rfl,HR,HO,HW⟩
    case round =>
      clear HR HO HW hcc;obtain⟨j,hj,hq,rfl,oq,oc,rfl,HR,HO,HW⟩:=hrel
      by_cases hlt:j<10
      · have hdj:decide ((j:Int)<10)=true:=decide_eq_true (by omega)
        obtain⟨vt,hvt⟩:∃ vt,L[c]?=some (vt,ints (T c)):=by
          have h1:=congrArg (fun l=>l[c]?) HL.out;simp only[List.getElem?_map,List.getElem?_range hc2,Option.map_some] at h1;cases h2:L[c]? with
          | none=>rw[h2] at h1;simp at h1
          | some x=>rw[h2] at h1;simp only[Option.map_some,Option.some.injEq] at h1;exact⟨x.1,by rw[←h1]⟩
        obtain⟨g4,o4,htq,hg4,hct,hit⟩:=(HT.out.only HO.out hkb).is.at c _ hvt
        dsimp only at hct hit
        obtain⟨qt,ct,hvte,-,-⟩:=hit.shape;subst hvte;obtain⟨q,hqe⟩:∃ q,10*i+j=q:=⟨_,rfl⟩;have hqd:q / 10=i:=by omega
        have CTq:=CT.out q (by omega)
        rw[hqd,HGD.out] at CTq;have CTQ:=Lib.hid CTq;obtain⟨x,hx⟩:∃ x,S.getD q 0=x:=⟨_,rfl⟩;have hxn:x<n:=by rw[←hx];exact HSN.out q (by omega)
        have hxl:x=n-1↔q+1=M:=by rw[←hx];exact HLA.out q (by omega)
        have HXL:=Lib.hid hxl
        have htk:S.take (q+1)=S.take q++[x]:=by
          rw[List.take_succ_eq_append_getElem (by rw[HM.out];omega),←hx,List.getD_eq_getElem?_getD,List.getElem?_eq_getElem (by rw[HM.out];omega)]
          rfl
        have HTK:=Lib.hid htk;obtain⟨pq,hpq⟩:∃ pq,px q=pq:=⟨_,rfl⟩;obtain⟨pr,hpr⟩:∃ pr,px (q+1)=pr:=⟨_,rfl⟩;rw[hqe] at HR HW ⊢;rw[hx,hpq,hpr] at CTQ;rw[hpq] at HR;have HPR:=Lib.hid hpr;have HQE:=Lib.hid hqe;subst htq;have kl:=zab HR.out;have k0:=(zaa HR.out 0).trans rfl;have k1:=(zaa HR.out 1).trans rfl;have k2:=(zaa HR.out 2).trans rfl;have HIT:=Lib.hid hit;clear hvt CTq hx hxl htk hpq hpr hit hqe CT;obtain⟨ll,hll⟩:∃ ll,(ints (T c)).length=ll:=⟨_,rfl⟩;rw[hll] at hct HIT
        have HkW:Hid (∀ w':World,Below wr.heap.size wr w'→Below wr.heap.size wr w'∧w'.cell? ⟨k,0,none⟩=some (.string s)∧w'.cell? ⟨k,1,none⟩=some (.int .i64 (pq:Nat))∧w'.cell? ⟨k,2,none⟩=some (.slice (some ⟨g4,o4,none⟩) 2 tc)∧w'.cell? ⟨g4,o4+c,none⟩=some (.slice qt ll ct)):=fun w' h=>by
          have h2:=(h.block k (zab HR.out)).trans HR.out;exact⟨h,(zaa h2 0).trans rfl,(zaa h2 1).trans rfl,(zaa h2 2).trans rfl,(World.cell?_of_block (w:=wr) (h.block g4 hg4)).trans hct⟩
        have hb3:Below wr.heap.size wr wr:=Below.refl _ _;clear hll;have hc2i:(c:Int)<2:=by omega
        have hc0i:(0:Int)≤(c:Int):=by omega
        go_wp2_with fail
        go_region_held3 (fun w'=>Below wr.heap.size wr w'∧w'.cell? ⟨k,0,none⟩=some (.string s)∧w'.cell? ⟨k,1,none⟩=some (.int .i64 (pq:Nat))∧w'.cell? ⟨k,2,none⟩=some (.slice (some ⟨g4,o4,none⟩) 2 tc)∧w'.cell? ⟨g4,o4+c,none⟩=some (.slice qt ll ct))
          ((refine HkW.out _ ?_;first | assumption | exact zwd (by assumption) | exact zvS (by assumption) (And.left (by assumption)) | fail))
          ((go_at_call 313
            refine (CTQ.out _ _ (zwb HIT.out (And.left (by assumption)))).mono ?_
            rintro e w5 ⟨rfl,hB5⟩;have hW5:Below wr.heap.size wr w5:=zvS hB5 (And.left (by assumption))))
        have HR5:Hid (zaA w5 k s pq (.slice (some ⟨g4,o4,none⟩) 2 tc) (.slice (some ⟨g3,o3,none⟩) G cc) (.int .i64 (n:Nat))):=(hW5.block k kl).trans HR.out;have HO5:=Lib.hid (HO.out.trans (Only.of hW5));have HW5:=Lib.hid (zau HW.out (Only.of (k:=k) hW5) HLT.out);clear hB5 hW5 hb3 HkW k0 k1 k2 kl HR HO HW HIT hct CTQ hc2i hc0i
        try clear hHeld
        go_wp2_with fail
        refine (zgE w5 k s pq pr _ _ _ HR5.out).mono ?_;rintro e w6 ⟨rfl,hr,ho⟩;have HR6:=Lib.hid hr;have HO6:=Lib.hid (HO5.out.trans ho);have HW6:=Lib.hid (zau HW5.out ho HLT.out);clear hr ho HR5 HO5 HW5;obtain⟨X,hX⟩:∃ X,S.take q=X:=⟨_,rfl⟩;have hXl:(ints X).length=q:=by rw[zad,←hX,List.length_take,HM.out];have:=HQE.out;omega
        rw[hX] at HW6
        have HW7:Hid (w6.ownsRow w.heap.size 3 1 (.slice oq q oc) q (zaj (ints X))):=by
          have h:=HW6.out;unfold OwnInts at h;rw[hXl] at h;exact h
        have HTK2:Hid (ints (S.take (q+1))=ints X++[(x:Int)]):=by
          show _=_
          rw[HTK.out,hX];simp[ints]
        have HXl:=Lib.hid hXl;have kl:=zab HR6.out;have hz6:=HO6.out.size;have hqb:q≤100000:=by have:=HQE.out;omega
        clear hX hXl HW6 HTK
        go_wp2_with
          (at_builtin
           refine zav (⟨Tryz.underlying67,zcq,rfl,by decide⟩:ElemT 67 3 (.int .i64 0) 1 8) (by rfl) _ _ (by rfl) w.heap.size _ q (zaj (ints X)) (by rfl) (HW7.out.alloc _) (w6.heap.size+1) 1 _ [.int .i64 (x:Int)] (by rfl) (Rd.mono (zap (zae _ _ _ rfl) rfl (by rfl) (by simp[maxLen])) (by simp)) (by intro c hc;simp at hc;subst hc;rfl) (by omega) (by omega) (by simp;omega) ?_
           intro q2 c2 w2 hown2 hg2 hat2;have hg3:(w6.alloc (.cells #[.int .i64 (x:Int)] 3)).grownBy w2 (Value.slice oq q oc).ownBlock:=hg2;have hgeb:∀ r,(Value.slice oq q oc).ownBlock=some r→w.heap.size≤r:=fun r e=>zaF HW7.out e;have hoA:=HO6.out.trans (Only.of (zk5 (Below.refl w6.heap.size w6) (.cells #[.int .i64 (x:Int)] 3)));have HO7:=Lib.hid (hoA.grown hg3 hgeb);have HR7:=Lib.hid ((hg3.block k (by simp;omega) (fun e=>by have:=hgeb k e.symm;have:=HLT.out;omega)).trans (zah (.cells #[.int .i64 (x:Int)] 3) HR6.out))
           have k4:=(zaa HR7.out 4).trans rfl;have k3:=(zaa HR7.out 3).trans rfl
           have HW2:Hid (OwnInts w2 w.heap.size (.slice q2 (q+1) c2) (ints (S.take (q+1)))):=by
             show w2.ownsRow _ _ _ _ _ _
             rw[HTK2.out,List.length_append,HXl.out,zcu];exact hown2
           obtain⟨n1,hn1⟩:∃ n1,n-1=n1:=⟨_,rfl⟩;obtain⟨G1,hG1⟩:∃ G1,G-1=G1:=⟨_,rfl⟩;have hwn:IntKind.i64.wrap ((n:Int)-1)=(n1:Int):=by rw[IntWalk.i64_in _ (by omega)];omega
           have hwG:IntKind.i64.wrap ((G:Int)-1)=(G1:Int):=by rw[IntWalk.i64_in _ (by omega)];omega
           have hxl:=HXL.out;rw[hn1] at hxl;have HXL2:=Lib.hid hxl;have HG1:=Lib.hid hG1;clear hown2 hg2 hg3 hat2 hgeb hoA hn1 hG1 hxl)
        · have hbx:((x:Int) == (n1:Int))=true:=by assumption
          have hqM:q+1=M:=HXL2.out.1 (by rw[beq_iff_eq] at hbx;omega)
          have HQM:=Lib.hid hqM;have hbi:((i:Int) == (G1:Int))=true:=by rw[beq_iff_eq];have:=HG1.out;have:=HQE.out;omega
          clear hqM hbx;rw[hbi];refine (CM.out _ _).mono ?_;rintro e w9 ⟨rfl,rfl⟩
          go_wp2_with fail
          go_ret
          refine⟨.slice q2 (q+1) c2,rfl,HO7.out,?_,?_⟩
          · have h1:=HR7.out
            rw[←HPR.out,HQM.out] at h1;exact h1
          · have e1:S.take (q+1)=S:=List.take_of_length_le (by rw[HM.out,HQM.out];exact Nat.le_refl _)
            have h1:=HW2.out;rw[e1] at h1;exact h1
        · have hbx:((x:Int) == (n1:Int))=false:=by assumption
          have hqM:q+1≠M:=fun h=>by
            have h2:=HXL2.out.2 h;rw[beq_eq_false_iff_ne] at hbx;omega
          have HQM:=Lib.hid hqM;clear hqM hbx
          go_roundw
          case rel =>
            have h1:=HQE.out;have h2:=HQM.out;have h3:10*i+(j+1)=q+1:=by omega
            refine⟨j+1,by omega,by omega,by go_num,q2,c2,by rw[h3],?_⟩
            rw[h3,HPR.out];exact⟨HR7,HO7,HW2⟩
          case measure=>simp[intOf];omega
      · obtain rfl:j=10:=by omega
        go_wp2_with fail
        go_roundw
        case rel=>exact⟨i+1,by omega,by go_num,_,_,rfl,HR,HO,HW⟩
        case measure=>simp[intOf];omega
end Go.Proofs.YtoejfkeofbdalaaGreatDoor
