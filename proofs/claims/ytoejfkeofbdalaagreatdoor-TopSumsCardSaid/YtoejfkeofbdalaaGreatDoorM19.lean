import Derived.Test.YtoejfkeofbdalaaGreatDoorM14
import Derived.Test.YtoejfkeofbdalaaGreatDoorM18
set_option linter.unusedVariables false
set_option maxRecDepth 100000
set_option maxHeartbeats 8000000
namespace Go.Proofs.YtoejfkeofbdalaaGreatDoor
open Go.RowKit
def ByteRow (w:World) (b:Nat) (U:List UInt8):Prop:=∃ cs,w.heap[b]?=some (.cells cs 5 (0,0))∧cs.toList=byteCells U
theorem getElem?_byteC (U:List UInt8) (x:Nat):(byteCells U)[x]?=U[x]?.map fun p=>.int .u8 (p.toNat:Int):=by simp[byteCells]
theorem ByteRow.cell {w:World} {b:Nat} {U:List UInt8} (h:ByteRow w b U) (x:Nat) (p:UInt8) (hx:U[x]?=some p):w.cell? ⟨b,x,none⟩=some (.int .u8 (p.toNat:Int)):=by
  obtain⟨cs,h1,h2⟩:=h;rw[zaa h1,←Array.getElem?_toList,h2,getElem?_byteC,hx];rfl
theorem ByteRow.frozen {w:World} {b:Nat} {U:List UInt8} (h:ByteRow w b U) (x:Nat):w.frozen? ⟨b,x,none⟩=false:=by
  obtain⟨cs,h1,h2⟩:=h;exact zac h1 x
theorem ByteRow.lt {w:World} {b:Nat} {U:List UInt8} (h:ByteRow w b U):b<w.heap.size:=by
  obtain⟨cs,h1,h2⟩:=h;exact zab h1
theorem ByteRow.same {w w':World} {b:Nat} {U:List UInt8} (h:ByteRow w b U) (hb:w'.heap[b]?=w.heap[b]?):ByteRow w' b U:=by
  obtain⟨cs,h1,h2⟩:=h;exact⟨cs,hb.trans h1,h2⟩
theorem ByteRow.below {w w':World} {b:Nat} {U:List UInt8} (h:ByteRow w b U) (hB:Below w.heap.size w w'):ByteRow w' b U:=h.same (hB.block b h.lt)
theorem ByteRow.set {w:World} {b:Nat} {U:List UInt8} (h:ByteRow w b U) (x:Nat) (p:UInt8):ByteRow (w.setCell ⟨b,x,none⟩ (.int .u8 (p.toNat:Int))) b (U.set x p):=by
  obtain⟨cs,h1,h2⟩:=h;refine⟨_,zaf h1 x _,?_⟩;have:byteCells (U.set x p)=(byteCells U).set x (.int .u8 (p.toNat:Int)):=by simp[byteCells,List.map_set]
  rw[this,←h2];simp
theorem ByteRow.own {w:World} {b base n:Nat} {U:List UInt8} (h:ByteRow w b U) (hb:base≤b) (hn:U.length=n) (hm:n≤maxLen):w.ownsRow base 5 1 (.slice (some ⟨b,0,none⟩) n n) n (byteCells U):=by
  obtain⟨cs,h1,h2⟩:=h;have hl:cs.size=n:=by rw[←Array.length_toList,h2,zaw,hn]
  refine⟨by rw[zaw];omega,.inr ⟨b,n,cs,rfl,hb,h1,Nat.le_refl _,hm,by omega,?_⟩⟩
  rw[h2,List.take_of_length_le (by rw[zaw];omega)]
theorem zeo (n:Nat) (hn:n≤17592186044416):∃ cs:Array Value,cs.toList=byteCells (List.replicate n 0)∧∀ W,(Instr.makeSlice 89 (.int .i64 (n:Int)) (.int .i64 (n:Int))).run Tryz.prog W=.ok (.slice (some ⟨W.heap.size,0,none⟩) n n) (W.alloc (.cells cs 5)):=by
  obtain⟨i0,hi,hz0,hz1,hz2⟩:=info_parts zfs;refine⟨madeCells #[.int .u8 0] (n*1),?_,fun W=>?_⟩
  · rw[toList_madeCells_one,Nat.mul_one];simp[byteCells]
  · have:=run_make (P:=Tryz.prog) W 89 5 i0 (.int .u8 0) Tryz.underlying89 hi hz0 .i64 .i64 n n (by omega) (by omega) (by rw[hz2];omega) (by omega)
    rw[hz1,Int.toNat_natCast] at this;exact this
theorem OwnBytes.below {w w':World} {base:Nat} {v:Value} {xs:List UInt8} (h:OwnBytes w base v xs) (hB:Below w.heap.size w w'):OwnBytes w' base v xs:=zag h hB
theorem OwnBytes.alloc {w:World} {base:Nat} {v:Value} {xs:List UInt8} (h:OwnBytes w base v xs) (o:Obj):OwnBytes (w.alloc o) base v xs:=World.ownsRow.alloc h o
end Go.Proofs.YtoejfkeofbdalaaGreatDoor
namespace Go.Proofs.YtoejfkeofbdalaaGreatDoor
open Go.RowKit Go.Shelf
attribute [local go_sem] Oper.semAt_some
def GI (w:World) (base B:Nat) (m:List Int) (pre:List Ch) (W:World):Prop:=∃ (L:List SV) (v:Value),L.map (·.2)=pre.map (fun x=>grp m x.1)∧W.heap[B]?=some (.cells #[v] 113 (0,0))∧SlOwn W base v L∧Below w.heap.size w W
theorem GI.own {w:World} {base B:Nat} {m:List Int} {D:Nat} (hD:w.heap.size≤D):OwnFrom D (GI w base B m):=fun s X Y row hs hg hr=>by
  obtain⟨L,v,h1,h2,h3,h4⟩:=hs;refine⟨L,v,h1,(hg.block B (zab h2) (fun e'=>?_)).trans h2,h3.quiet hg fun r e=>(hr r e).2,h4.grown hg h4.size (fun r e=>Nat.le_trans hD (hr r e).1)⟩;obtain⟨_,o,ho,hc⟩:=hr B e'.symm;rw[h2] at ho;cases ho
  cases hc
theorem znA {P:Program} {ops:Array Oper} {Q:Exit→Act→World→Prop} {md:Region.Mode} {S:World→Prop} (i j:Nat) {oi oj:Oper} {fuel:Nat} {listed:Array Bool} {a:Act} {w:World} (hi:ops[i]?=some oi) (hj:ops[j]?=some oj)
    (hr:Region.ready md ops listed=[i,j]) (hwi:Region.wanted oi (yielded ops a.tmps)=true) (hwj:Region.wanted oj (yielded ops a.tmps)=true)
    (h1:∀ K:Act→World→Prop,Shut (∀ a w,S w→(S w→wpAnyH P md ops Q S fuel (listed.setIfInBounds i true) a w)→K a w)→Oper.wp P oi a w K Q)
    (h2:∀ K:Act→World→Prop,Shut (∀ a w,S w→(S w→wpAnyH P md ops Q S fuel (listed.setIfInBounds j true) a w)→K a w)→Oper.wp P oj a w K Q) :
    wpAnyH P md ops Q S (fuel+1) listed a w :=
  wpAnyH_ready hr (by simp) (AllReadyH.cons hi (fun K hK=>by rw[if_pos hwi];exact h1 K hK) (AllReadyH.cons hj (fun K hK=>by rw[if_pos hwj];exact h2 K hK) AllReadyH.nil))
theorem zex {w W w2 w4 W0:World} {base B k n4 c2 c4:Nat} {m:List Int} {pre:List Ch} {L:List SV} {vo:Value} {q2 q4 q1:Option Addr} (hL:L.map (·.2)=pre.map (fun x=>grp m x.1)) (hbox:W.heap[B]?=some (.cells #[vo] 113 (0,0))) (hsl:SlOwn W base vo L) (hB:Below w.heap.size w W) (hbz:base≤W.heap.size)
    (hB2:Below W.drew.heap.size W.drew w2) (hg4:(w2.alloc (.cells #[.slice q2 (grp m k).length c2] 67)).grownBy w4 vo.ownBlock)
    (hs4:(w2.alloc (.cells #[.slice q2 (grp m k).length c2] 67)).ownsRow base 67 1 vo L.length (L.map (·.1)))
    (hown4:SlOwn w4 base (.slice q4 (L.length+1) c4) (L++[(.slice q2 (grp m k).length c2,grp m k)])) (hbl4:w4.heap[B]?=some (.cells #[vo] 113 (0,0))) (hn4:n4=L.length+1) (hB0:w.heap.size=B) (hbase:base=B+3) {a:Act} :
    ownPostG W0.heap.size (KeepC (fun k=>k=B∨base≤k)) (GI w base B m) (fun _ _ _=>False) (pre++[(k,.slice q1 (grp m k).length (grp m k).length)]) W Exit.normal a (w4.setCell ⟨B,0,none⟩ (.slice q4 n4 c4)):=by
  subst hn4;have hlB:=zab hbox;have hz2:W.heap.size≤w2.heap.size:=hB2.size
  have ko:KeepsOthers W (w4.setCell ⟨B,0,none⟩ (.slice q4 (L.length+1) c4)):=by
    refine ((((KeepsOthers.drew W).trans (KeepsOthers.of_grownBy (zde hB2) (fun j o e=>by cases e))).trans (KeepsOthers.alloc w2 _)).trans (KeepsOthers.of_grownBy hg4 (fun j o ej hj=>?_))).trans (KeepsOthers.setCell _ _ _)
    obtain⟨c,hc⟩:=zaN hs4 ej;rw[hc] at hj;injection hj with hj
    subst hj;rfl
  refine⟨ko.from _,fun b cs t fz hnb h=>?_,L++[(.slice q2 (grp m k).length c2,grp m k)],_,?_,?_,hown4.far (by omega),?_⟩
  · have hb1:b≠B:=fun e=>hnb (.inl e)
    have hb2:b<base:=by
      rcases Nat.lt_or_ge b base with h1 | h1
      · exact h1
      · exact absurd (.inr h1) hnb
    have hbl:=zab h;have h2:w2.heap[b]?=some (.cells cs t fz):=(hB2.block b hbl).trans h;have h3:(w2.alloc (.cells #[.slice q2 (grp m k).length c2] 67)).heap[b]?=some (.cells cs t fz):=zah _ h2;exact (Below.heap_setCell _ _ _ _ hb1).trans ((hg4.block b (zab h3) (fun e=>by have:=zaF hs4 e.symm;omega)).trans h3)
  · rw[List.map_append,List.map_append,hL]
    rfl
  · have:=zaf hbl4 0 (.slice q4 (L.length+1) c4)
    simpa using this
  · have h1:Below w.heap.size w w2:=hB.drew.trans (hB2.mono hB.size)
    have h2:=h1.alloc h1.size (.cells #[.slice q2 (grp m k).length c2] 67);have h3:=h2.grown hg4 h2.size (fun r e=>by have:=zaF hs4 e;omega)
    exact h3.setCell (p:=⟨B,0,none⟩) (by show w.heap.size≤B;omega) _
def zdK (m:List Int):List (List Int):=(List.range (zbX m.length)).map (grp m)
theorem zi3 (w:World) (v:Value) (m:List Int) (hv:IsInts w w.heap.size v m) (hm:m.length≤1000000) :
    Calls Tryz.prog 61 #[v] w fun e w'=>∃ (L:List SV) (q:Option Addr) (c:Nat),e=.returned (.slice q L.length c)∧SlOwn w' w.heap.size (.slice q L.length c) L∧L.map (·.2)=zdK m∧Below w.heap.size w w':=by
  obtain⟨A,ca,rfl,hc1,hc2⟩:=hv.shape;obtain⟨D,hD⟩:∃ D:Nat,8≤D:=⟨8,by omega⟩
  have h1D:1≤D:=by omega
  have Hv:=Lib.hid hv;obtain⟨N,hN⟩:∃ N,m.length=N:=⟨_,rfl⟩;rw[hN] at hv hc1 Hv;have HN:=Lib.hid hN;rw[hN];clear hv;refine (callsIn_wide (n:=D)).1 ?_;refine callsIn_of_wp_marks Tryz.func61 rfl trivial ?_ rfl;simp only[Tryz.ntmps61,List.size_toArray,List.length_cons,List.length_nil,Nat.reduceAdd,Nat.reduceSub,Array.replicate_succ,Array.replicate_zero,List.push_toArray,List.append_toArray,List.nil_append,List.cons_append]
  gi_wp2_with fail
  refine⟨trivial,(callsIn_wide.2 (zq6 _ A N ca)).mono ?_⟩;rintro e w' ⟨rfl,rfl⟩
  gi_wp2_with fail
  obtain⟨B,hB0⟩:∃ B,w.heap.size=B:=⟨_,rfl⟩;have hBW:Below w.heap.size w (((w.alloc (.cells #[.slice none 0 0] 113)).alloc (.cells #[.slice A N ca] 67)).alloc (.cells #[.int .i64 10] 3)):=(((Below.refl _ _).alloc (Nat.le_refl _) _).alloc (by simp) _).alloc (by simp;omega) _
  have hW1:(((w.alloc (.cells #[.slice none 0 0] 113)).alloc (.cells #[.slice A N ca] 67)).alloc (.cells #[.int .i64 10] 3)).heap[w.heap.size]?=some (.cells #[.slice none 0 0] 113 (0,0)):=zah _ (zah _ (zae _ _ _ rfl));have hW2:(((w.alloc (.cells #[.slice none 0 0] 113)).alloc (.cells #[.slice A N ca] 67)).alloc (.cells #[.int .i64 10] 3)).heap[w.heap.size+1]?=some (.cells #[.slice A N ca] 67 (0,0)):=zah _ (zae _ _ _ (by simp))
  have hW3:(((w.alloc (.cells #[.slice none 0 0] 113)).alloc (.cells #[.slice A N ca] 67)).alloc (.cells #[.int .i64 10] 3)).heap[w.heap.size+1+1]?=some (.cells #[.int .i64 10] 3 (0,0)):=zae _ _ _ (by simp)
  have hWs:(((w.alloc (.cells #[.slice none 0 0] 113)).alloc (.cells #[.slice A N ca] 67)).alloc (.cells #[.int .i64 10] 3)).heap.size=w.heap.size+3:=by simp
  rw[hB0] at hW1 hW2 hW3 hWs ⊢;generalize ((w.alloc (.cells #[.slice none 0 0] 113)).alloc (.cells #[.slice A N ca] 67)).alloc (.cells #[.int .i64 10] 3)=W0 at *
  have hvW:=Hv.out.below hBW (Nat.le_refl _);rw[hB0] at hvW;obtain⟨base,hbase⟩:∃ base,base=B+3:=⟨_,rfl⟩;have hBb:B<base:=by omega
  have hmN:m.length≤1000000:=hm;have hseq:=zp1 (D-1) (by omega) (B+1) (B+1+1) B m hmN (fun k=>k=B∨base≤k) (.slice A N ca) W0 hvW (by omega) ((zaa hW2 0).trans rfl) ((zaa hW3 0).trans rfl) (fun k hk=>by rcases hk with hk | hk <;> omega)
  refine zjj (n:=D) h1D (gf:=172) (lb:=#[.pointer (some ⟨B+1,0,none⟩),.pointer (some ⟨B+1+1,0,none⟩)]) rfl zkU (encs:=chE) (fun _=>rfl) (ztT m B) (fun k=>k=B∨base≤k)
    hseq (Below.refl _ _) (GI w base B m) (fun _ _ _=>False) (GI.own (by omega)) (fun _ _ _ _ _ h _ _=>h)
    ⟨[],.slice none 0 0,rfl,hW1,SlOwn.nil _ _,hBW⟩
    (fun x a' W=>a' = { tmps:=#[.slice A N ca,undef,.pointer (some ⟨B,0,none⟩),x.2,.slice A N ca,.func (.func 172) #[] #[.pointer (some ⟨B+1,0,none⟩),.pointer (some ⟨B+1+1,0,none⟩)],x.2,undef,undef,undef,undef,undef,undef],defers:=[] }∧ztT m B x W)
    (fun x a' s W W' row h hgr hr=>⟨h.1,h.2.1,zlE h.2.2.1 hgr (fun r e=>(hr r e).2),h.2.2.2⟩)
    ?assign ?body ?done ?stop
  case assign =>
    intro y pre x W K hi hok hlt hK;obtain⟨k,v⟩:=x;simp only[chE]
    gi_wp2_with fail
    exact hK _ _ (KeepsFrom.refl _ _) (KeepC.refl _ _) hi ⟨rfl,hok⟩
  case body =>
    rintro y pre x a' W ⟨L,vo,hL,hbox,hsl,hB⟩ ⟨rfl,hk,hI,q1,hx2⟩ hlt hlen;obtain⟨k,vx⟩:=x
    dsimp only at hk hI hx2
    subst hx2;have hlB:=zab hbox;have hS1:W.drew.cell? ⟨B,0,none⟩=some vo:=zaa hbox 0;have hI3:IsInts W.drew W.drew.heap.size (.slice q1 (grp m k).length (grp m k).length) (grp m k):=hI
    have hg0:0<(grp m k).length:=by
      rw[zcX];have:=(zfJ m.length k).2 hk;omega
    have hbz:base≤W.heap.size:=by omega
    have hLl:L.length≤1000000:=by
      have:=congrArg List.length hL;rw[List.length_map,List.length_map] at this;have h2:zbX m.length≤1000000:=by unfold zbX;omega
      omega
    clear hW1 hW2 hW3 hvW hseq hI
    gi_wp2_with fail
    refine zdv (S:=fun _=>True) (by kernel_rfl) (by kernel_rfl) (fun _=>?_) trivial
    refine zay (v:=?_) 1 (by simp only[List.getElem?_toArray,List.getElem?_cons_succ,List.getElem?_cons_zero];rfl) (by kernel_rfl) (fun _ _ _ h=>h) (by rfl) trivial ?_ ?_
    rotate_left
    · (intro w hSw;go_simp;try with_reducible rfl)
    try simp only[Act.put,List.setIfInBounds_toArray,List.set_cons_zero,List.set_cons_succ]
    refine znA 0 2 (by simp only[List.getElem?_toArray,List.getElem?_cons_zero];rfl) (by simp only[List.getElem?_toArray,List.getElem?_cons_succ,List.getElem?_cons_zero];rfl) (by kernel_rfl) (by rfl) (by rfl) (fun K hK=>?_) (fun K hK=>?_)
    · go_simp
      refine hK.out _ _ trivial (fun _=>?_);clear hK K
      try simp only[Act.put,List.setIfInBounds_toArray,List.set_cons_zero,List.set_cons_succ]
      refine za4 2 (by simp only[List.getElem?_toArray,List.getElem?_cons_succ,List.getElem?_cons_zero];rfl) (by kernel_rfl) (by rfl) (fun K hK=>?_)
      go_simp
      refine (zhE _ _ (grp m k) hI3 hg0 (by rw[zcX];omega)).mono ?_
      rintro e w2 ⟨q2,c2,rfl,ho2,hB2⟩;have hS2:w2.cell? ⟨B,0,none⟩=some vo:=(hB2.cell (p:=⟨B,0,none⟩) hlB).trans hS1;have hz2:=hB2.size;rw[show W.drew.heap.size=W.heap.size from rfl] at hz2 ho2
      have hS3:(w2.alloc (.cells #[.slice q2 (grp m k).length c2] 67)).cell? ⟨B,0,none⟩=some vo:=(((Below.refl w2.heap.size w2).alloc (Nat.le_refl _) (.cells #[.slice q2 (grp m k).length c2] 67)).cell (p:=⟨B,0,none⟩) (by show B<_;omega)).trans hS2
      refine hK.out _ _ trivial (fun _=>?_);clear hK K
      try simp only[Act.put,List.setIfInBounds_toArray,List.set_cons_zero,List.set_cons_succ]
      refine za4 3 (by simp only[List.getElem?_toArray,List.getElem?_cons_succ,List.getElem?_cons_zero];rfl) (by kernel_rfl) (by rfl) (fun K hK=>?_)
      go_simp
      refine hK.out _ _ trivial (fun _=>?_);clear hK K
      try simp only[Act.put,List.setIfInBounds_toArray,List.set_cons_zero,List.set_cons_succ]
      refine za4 4 (by simp only[List.getElem?_toArray,List.getElem?_cons_succ,List.getElem?_cons_zero];rfl) (by kernel_rfl) (by rfl) (fun K hK=>?_)
      have hk4:(w2.alloc (.cells #[.slice q2 (grp m k).length c2] 67)).heap[w2.heap.size]?=some (.cells #[.slice q2 (grp m k).length c2] 67 (0,0)):=zae _ _ _ rfl;have hs4:SlOwn (w2.alloc (.cells #[.slice q2 (grp m k).length c2] 67)) base vo L:=(hsl.below (zk5 (zvS hB2 (zwd (Below.refl _ _))) _));refine zcR _ _ (by rfl) base vo L (by rfl) hs4 w2.heap.size (.slice q2 (grp m k).length c2,grp m k) (by rfl) hk4 ((ho2.mono (by omega)).alloc _) (by omega) (by simp;omega) ?_
      intro q4 c4 w4 hown4 hg4;have hbl:(w2.alloc (.cells #[.slice q2 (grp m k).length c2] 67)).heap[B]?=some (.cells #[vo] 113 (0,0)):=zah _ ((hB2.block B hlB).trans hbox);have hbl4:w4.heap[B]?=some (.cells #[vo] 113 (0,0)):=(hg4.block B (zab hbl) (fun e=>by have:=zaF hs4.own e.symm;omega)).trans hbl
      have hS4:w4.cell? ⟨B,0,none⟩=some vo:=zaa hbl4 0;have hf4:=zac hbl4 0;have hlt4:=zab hbl4;refine hK.out _ _ trivial (fun _=>?_);clear hK K
      try simp only[Act.put,List.setIfInBounds_toArray,List.set_cons_zero,List.set_cons_succ]
      refine za4 5 (by simp only[List.getElem?_toArray,List.getElem?_cons_succ,List.getElem?_cons_zero];rfl) (by kernel_rfl) (by rfl) (fun K hK=>?_)
      go_simp
      refine hK.out _ _ trivial (fun _=>?_);clear hK K
      try simp only[Act.put,List.setIfInBounds_toArray,List.set_cons_zero,List.set_cons_succ]
      refine wpAnyH_done (by kernel_rfl) ?_ _
      refine NormalOnly.normal ?_;exact zex (a:={ tmps:=#[],defers:=[] }) hL hbox hsl hB (by omega) hB2 hg4 hs4.own hown4 hbl4 rfl hB0 hbase
    · go_simp
      refine (zhE _ _ (grp m k) hI3 hg0 (by rw[zcX];omega)).mono ?_
      rintro e w2 ⟨q2,c2,rfl,ho2,hB2⟩;have hS2:w2.cell? ⟨B,0,none⟩=some vo:=(hB2.cell (p:=⟨B,0,none⟩) hlB).trans hS1;have hz2:=hB2.size;rw[show W.drew.heap.size=W.heap.size from rfl] at hz2 ho2
      have hS3:(w2.alloc (.cells #[.slice q2 (grp m k).length c2] 67)).cell? ⟨B,0,none⟩=some vo:=(((Below.refl w2.heap.size w2).alloc (Nat.le_refl _) (.cells #[.slice q2 (grp m k).length c2] 67)).cell (p:=⟨B,0,none⟩) (by show B<_;omega)).trans hS2
      refine hK.out _ _ trivial (fun _=>?_);clear hK K
      try simp only[Act.put,List.setIfInBounds_toArray,List.set_cons_zero,List.set_cons_succ]
      refine znA 0 3 (by simp only[List.getElem?_toArray,List.getElem?_cons_zero];rfl) (by simp only[List.getElem?_toArray,List.getElem?_cons_succ,List.getElem?_cons_zero];rfl) (by kernel_rfl) (by rfl) (by rfl) (fun K hK=>?_) (fun K hK=>?_)
      · go_simp
        refine hK.out _ _ trivial (fun _=>?_);clear hK K
        try simp only[Act.put,List.setIfInBounds_toArray,List.set_cons_zero,List.set_cons_succ]
        refine za4 3 (by simp only[List.getElem?_toArray,List.getElem?_cons_succ,List.getElem?_cons_zero];rfl) (by kernel_rfl) (by rfl) (fun K hK=>?_)
        go_simp
        refine hK.out _ _ trivial (fun _=>?_);clear hK K
        try simp only[Act.put,List.setIfInBounds_toArray,List.set_cons_zero,List.set_cons_succ]
        refine za4 4 (by simp only[List.getElem?_toArray,List.getElem?_cons_succ,List.getElem?_cons_zero];rfl) (by kernel_rfl) (by rfl) (fun K hK=>?_)
        have hk4:(w2.alloc (.cells #[.slice q2 (grp m k).length c2] 67)).heap[w2.heap.size]?=some (.cells #[.slice q2 (grp m k).length c2] 67 (0,0)):=zae _ _ _ rfl;have hs4:SlOwn (w2.alloc (.cells #[.slice q2 (grp m k).length c2] 67)) base vo L:=(hsl.below (zk5 (zvS hB2 (zwd (Below.refl _ _))) _));refine zcR _ _ (by rfl) base vo L (by rfl) hs4 w2.heap.size (.slice q2 (grp m k).length c2,grp m k) (by rfl) hk4 ((ho2.mono (by omega)).alloc _) (by omega) (by simp;omega) ?_
        intro q4 c4 w4 hown4 hg4;have hbl:(w2.alloc (.cells #[.slice q2 (grp m k).length c2] 67)).heap[B]?=some (.cells #[vo] 113 (0,0)):=zah _ ((hB2.block B hlB).trans hbox);have hbl4:w4.heap[B]?=some (.cells #[vo] 113 (0,0)):=(hg4.block B (zab hbl) (fun e=>by have:=zaF hs4.own e.symm;omega)).trans hbl
        have hS4:w4.cell? ⟨B,0,none⟩=some vo:=zaa hbl4 0;have hf4:=zac hbl4 0;have hlt4:=zab hbl4;refine hK.out _ _ trivial (fun _=>?_);clear hK K
        try simp only[Act.put,List.setIfInBounds_toArray,List.set_cons_zero,List.set_cons_succ]
        refine za4 5 (by simp only[List.getElem?_toArray,List.getElem?_cons_succ,List.getElem?_cons_zero];rfl) (by kernel_rfl) (by rfl) (fun K hK=>?_)
        go_simp
        refine hK.out _ _ trivial (fun _=>?_);clear hK K
        try simp only[Act.put,List.setIfInBounds_toArray,List.set_cons_zero,List.set_cons_succ]
        refine wpAnyH_done (by kernel_rfl) ?_ _
        refine NormalOnly.normal ?_;exact zex (a:={ tmps:=#[],defers:=[] }) hL hbox hsl hB (by omega) hB2 hg4 hs4.own hown4 hbl4 rfl hB0 hbase
      · go_simp
        refine hK.out _ _ trivial (fun _=>?_);clear hK K
        try simp only[Act.put,List.setIfInBounds_toArray,List.set_cons_zero,List.set_cons_succ]
        refine za4 0 (by simp only[List.getElem?_toArray,List.getElem?_cons_zero];rfl) (by kernel_rfl) (by rfl) (fun K hK=>?_)
        go_simp
        refine hK.out _ _ trivial (fun _=>?_);clear hK K
        try simp only[Act.put,List.setIfInBounds_toArray,List.set_cons_zero,List.set_cons_succ]
        refine za4 4 (by simp only[List.getElem?_toArray,List.getElem?_cons_succ,List.getElem?_cons_zero];rfl) (by kernel_rfl) (by rfl) (fun K hK=>?_)
        have hk4:(w2.alloc (.cells #[.slice q2 (grp m k).length c2] 67)).heap[w2.heap.size]?=some (.cells #[.slice q2 (grp m k).length c2] 67 (0,0)):=zae _ _ _ rfl;have hs4:SlOwn (w2.alloc (.cells #[.slice q2 (grp m k).length c2] 67)) base vo L:=(hsl.below (zk5 (zvS hB2 (zwd (Below.refl _ _))) _));refine zcR _ _ (by rfl) base vo L (by rfl) hs4 w2.heap.size (.slice q2 (grp m k).length c2,grp m k) (by rfl) hk4 ((ho2.mono (by omega)).alloc _) (by omega) (by simp;omega) ?_
        intro q4 c4 w4 hown4 hg4;have hbl:(w2.alloc (.cells #[.slice q2 (grp m k).length c2] 67)).heap[B]?=some (.cells #[vo] 113 (0,0)):=zah _ ((hB2.block B hlB).trans hbox);have hbl4:w4.heap[B]?=some (.cells #[vo] 113 (0,0)):=(hg4.block B (zab hbl) (fun e=>by have:=zaF hs4.own e.symm;omega)).trans hbl
        have hS4:w4.cell? ⟨B,0,none⟩=some vo:=zaa hbl4 0;have hf4:=zac hbl4 0;have hlt4:=zab hbl4;refine hK.out _ _ trivial (fun _=>?_);clear hK K
        try simp only[Act.put,List.setIfInBounds_toArray,List.set_cons_zero,List.set_cons_succ]
        refine za4 5 (by simp only[List.getElem?_toArray,List.getElem?_cons_succ,List.getElem?_cons_zero];rfl) (by kernel_rfl) (by rfl) (fun K hK=>?_)
        go_simp
        refine hK.out _ _ trivial (fun _=>?_);clear hK K
        try simp only[Act.put,List.setIfInBounds_toArray,List.set_cons_zero,List.set_cons_succ]
        refine wpAnyH_done (by kernel_rfl) ?_ _
        refine NormalOnly.normal ?_;exact zex (a:={ tmps:=#[],defers:=[] }) hL hbox hsl hB (by omega) hB2 hg4 hs4.own hown4 hbl4 rfl hB0 hbase
  case done =>
    rintro Dd xs W hDd hS ⟨L,v,hL,hbox,hsl,hB⟩ hK;have hS2:xs.map (·.1)=List.range (zbX m.length):=hS
    have hL2:L.map (·.2)=zdK m:=by
      rw[hL];unfold zdK;rw[←hS2,List.map_map];rfl
    obtain⟨q,c,rfl⟩:=hsl.shape;have hc:=(zaa hbox 0).trans rfl;have hf:=zac hbox 0;have hlB:=zab hbox;have hne:Dd≠B:=by omega
    clear hW1 hW2 hW3 hvW hseq
    gi_wp2_with fail
    have hbx2:(W.setCell ⟨B,0,none⟩ (.slice q L.length c)).heap[B]?=some (.cells #[.slice q L.length c] 113 (0,0)):=by
      have:=zaf hbox 0 (.slice q L.length c);simpa using this
    have hK2:(W.setCell ⟨B,0,none⟩ (.slice q L.length c)).heap[Dd]?=some (.deferred (some [])):=by rw[Below.heap_setCell _ _ _ _ hne];exact hK
    refine⟨by simp,.inl ⟨_,_,rfl,run_takeDeferred hK2,?_⟩⟩
    have hs2:=hsl.far (g:=B) (i:=0) (u:=.slice q L.length c) hBb;have hs3:=hs2.quiet (grownBy_putObj' _ Dd (.deferred none)) (fun r e=>by injection e with e;subst e;exact⟨_,hK2,rfl⟩)
    have hcell:((W.setCell ⟨B,0,none⟩ (.slice q L.length c)).putObj Dd (.deferred none)).cell? ⟨B,0,none⟩=some (.slice q L.length c):=(zaa ((World.putObj_heap_other (fun e=>hne e.symm)).trans hbx2) 0).trans rfl;refine⟨_,zbH rfl _ _ _ _ _ rfl (znU _ _ _ hcell),L,q,c,rfl,hs3.mono (by omega),hL2,?_⟩
    exact hB.trans (((Below.refl _ W).setCell (p:=⟨B,0,none⟩) (by show w.heap.size≤B;omega) _).trans (belowK_b (w:=w) (Nat.le_refl _) _ Dd _ _ (by omega) hK2 rfl rfl))
  case stop =>
    rintro D c pre W _ _ h _;exact h.elim
end Go.Proofs.YtoejfkeofbdalaaGreatDoor
namespace Go.Proofs.YtoejfkeofbdalaaGreatDoor
open Go.RowKit
def zrR (n:Int) (s:Int):Bool:=decide (s<0) || decide (n≤s)
theorem zsY (s n:Int) (b:Nat) (W:World) (hc:W.cell? ⟨b,0,none⟩=some (.int .i64 n)):Calls Tryz.prog 171 #[.int .i64 s,.pointer (some ⟨b,0,none⟩)] W fun e w'=>e=.returned (.bool (zrR n s))∧W=w':=by
  unfold zrR;rcases h1:decide (s<0) with _ | _ <;> rcases h2:decide (n≤s) with _ | _ <;>
  · go_enter Tryz.func171,Tryz.ntmps171
    go_wp2
    go_ret
    exact⟨rfl,rfl⟩
theorem zm6:Enters Tryz.prog 171:=enters_of Tryz.func171 (by kernel_rfl) rfl
theorem zqV (w:World) (v:Value) (l:List Int) (n:Int) (hv:IsInts w w.heap.size v l) (hl:l.length≤1000000) :
    Calls Tryz.prog 118 #[v,.int .i64 n] w fun e w'=>e=.returned (.bool (l.any (zrR n)))∧Below w.heap.size w w':=by
  obtain⟨W1,hW1⟩:∃ W1,w.alloc (.cells #[.int .i64 n] 3)=W1:=⟨_,rfl⟩;have hB1:Below w.heap.size w W1:=by rw[←hW1];exact (Below.refl _ _).alloc (Nat.le_refl _) _
  have hk:W1.cell? ⟨w.heap.size,0,none⟩=some (.int .i64 n):=by rw[←hW1];exact zaa (zae _ _ _ rfl) 0
  have hz1:W1.heap.size=w.heap.size+1:=by rw[←hW1];simp
  have C:=Lib.hid (zaO W1 v l (zrR n) 171 #[.pointer (some ⟨w.heap.size,0,none⟩)] zm6 (zwb hv hB1) (by omega) (fun x _ W' hB=>zsY x n w.heap.size W' ((hB.cell (p:=⟨w.heap.size,0,none⟩) (by simp;omega)).trans hk)))
  obtain⟨A,ca,rfl,hc1,hc2⟩:=hv.shape;generalize l.any (zrR n)=b at *
  have hmf:=hmf;clear hv hl hk
  go_enter Tryz.func118,Tryz.ntmps118
  go_wp2_with fail
  refine C.out.mono ?_;rintro e w1 ⟨rfl,hB⟩
  go_wp2_with fail
  go_ret
  exact⟨rfl,hB1.trans (hB.mono (by omega))⟩
def zej (l:List Nat) (m:List Nat):Nat:=(m.map fun s=>l[s]?.getD 0).sum
theorem zpj (l m:List Nat) (k s:Nat) (h:m[k]?=some s):zej l (m.take (k+1))=zej l (m.take k)+l[s]?.getD 0:=by
  unfold zej;rw[List.take_add_one,h];simp
theorem ztt (l m:List Nat) (hf:zoR l):zej l m≤20*m.length:=by
  unfold zej
  induction m with
  | nil=>simp
  | cons s m ih =>
    rw[List.map_cons,List.sum_cons,List.length_cons]
    have:l[s]?.getD 0≤20:=by
      cases h:l[s]? with
      | none=>simp
      | some x=>exact (hf x (List.mem_of_getElem? h)).2
    omega
theorem znd (w:World) (v u:Value) (l m:List Nat) (hv:IsInts w w.heap.size v (ints l)) (hu:IsInts w w.heap.size u (ints m)) (hl:Code l) (hm:m.length≤1000000) (hs:∀ s∈m,s<l.length) :
    Calls Tryz.prog 119 #[v,u] w fun e w'=>e=.returned (.tuple #[.int .i64 (zej l m:Nat),.int .i64 0])∧Below w.heap.size w w':=by
  have CK:=Lib.hid (zdQ w v (ints l) hv (by rw[zad];have:=hl.most;omega))
  rw[hl.ok] at CK
  have hodd:(ints m).any (zrR (l.length:Nat))=false:=by
    rw[List.any_eq_false];intro x hx;simp only[ints,List.mem_map] at hx;obtain⟨s,hs',rfl⟩:=hx;have:=hs s hs';simp[zrR];omega
  have CO:Hid (∀ W,Below w.heap.size w W→Calls Tryz.prog 118 #[u,.int .i64 (l.length:Nat)] W fun e w'=>e=.returned (.bool false)∧Below W.heap.size W w'):=fun W hB=>by
    have:=zqV W u (ints m) (l.length:Nat) (zwb hu hB) (by rw[zad];exact hm)
    rw[hodd] at this;exact this
  have hfit:=hl.fits;have hmost:=hl.most;obtain⟨A,ca,rfl,hc1,hc2⟩:=hv.shape;obtain⟨A2,ca2,rfl,hd1,hd2⟩:=hu.shape;rw[zad] at hv hc1 CK hd1 hu CO ⊢;rw[zad] at *
  obtain⟨N,hN⟩:∃ N,l.length=N:=⟨_,rfl⟩;obtain⟨M,hM⟩:∃ M,m.length=M:=⟨_,rfl⟩;rw[hN] at hv hc1 CK CO hs hmost ⊢;rw[hM] at hd1 hu CO hm ⊢;have HN:=Lib.hid hN;have HM:=Lib.hid hM;have HV:=Lib.hid hv;have HU:=Lib.hid hu;have HF:=Lib.hid hfit;have HS:=Lib.hid hs;clear hv hu hN hM hfit hs hodd hl
  go_enter Tryz.func119,Tryz.ntmps119
  go_wp2_with fail
  refine CK.out.mono ?_;rintro e w1 ⟨rfl,hB1⟩
  go_wp2_with fail
  refine (CO.out _ hB1).mono ?_;rintro e w2 ⟨rfl,hB2⟩;have HB:=Lib.hid (hB1.trans (hB2.mono hB1.size));clear hB1 hB2 CK CO
  go_wp2_with fail
  go_loopw [4,20] (fun nv iv wr=>w2=wr∧∃ k z:Nat,k≤M∧iv=.int .i64 k∧nv=.int .i64 z∧Hid (zej l (m.take k)=z)) (fun _ iv _=>M+1-(intOf iv).toNat)
  case atStart=>exact⟨rfl,0,0,Nat.zero_le _,rfl,rfl,rfl⟩
  case round =>
    obtain⟨rfl,k,z,hk,rfl,rfl,HZ⟩:=hrel
    by_cases hlt:k<M
    · obtain⟨s,hs⟩:∃ s,m[k]?=some s:=⟨_,List.getElem?_eq_getElem (by rw[HM.out];exact hlt)⟩
      have hsN:=HS.out s (List.mem_of_getElem? hs);obtain⟨x,hx⟩:∃ x,l[s]?=some x:=⟨_,List.getElem?_eq_getElem (by rw[HN.out];exact hsN)⟩
      have hx20:=(HF.out x (List.mem_of_getElem? hx)).2;obtain⟨g,o,rfl,hg,hc⟩:=(HV.out.below HB.out (Nat.le_refl _)).at s (by rw[zad,HN.out];exact hsN)
      obtain⟨g2,o2,rfl,hg2,hc2⟩:=(HU.out.below HB.out (Nat.le_refl _)).at k (by rw[zad,HM.out];exact hlt)
      rw[show (ints l)[s]?.getD 0=(x:Int) by simp[ints,hx]] at hc
      rw[show (ints m)[k]?.getD 0=(s:Int) by simp[ints,hs]] at hc2
      have hz20:=ztt l (m.take k) HF.out;rw[HZ.out,List.length_take] at hz20
      have HT:Hid (zej l (m.take (k+1))=z+x):=by
        show _=_
        rw[zpj l m k s hs,HZ.out,hx];rfl
      clear hs hx
      go_wp2_with fail
      go_roundw
      case rel=>exact⟨trivial,k+1,z+x,by omega,by go_num,by go_num,HT⟩
      case measure=>simp[intOf];omega
    · obtain rfl:k=M:=by omega
      have hz:Hid (zej l m=z):=by
        have:=HZ.out;rw[List.take_of_length_le (by rw[HM.out];exact Nat.le_refl _)] at this
        exact this
      go_wp2_with fail
      go_ret2
      exact⟨by rw[hz.out];rfl,HB.out⟩
def zlh (a b:Nat):Nat:=((a*2 % 4294967296) ||| (a / 2147483648)) ^^^ b
theorem znt (a b:Nat) (ha:a<4294967296) (hb:b<4294967296):zlh a b<4294967296 :=
  Nat.xor_lt_two_pow (n:=32) (Nat.or_lt_two_pow (n:=32) (by omega) (by omega)) hb
def zhU (l:List Nat):Nat:=l.foldl zlh 0
theorem zq4 (l:List Nat) (x:Nat):zhU (l++[x])=zlh (zhU l) x:=by simp[zhU]
theorem zsm (a b:Nat) (ha:a<4294967296) (hb:b<4294967296) (w:World) :
    Calls Tryz.prog 63 #[.int .u32 (a:Nat),.int .u32 (b:Nat)] w fun e w'=>e=.returned (.int .u32 (zlh a b:Nat))∧w=w':=by
  have h1:bits BinOp.or IntKind.u32 ((a:Int)*2 % 4294967296) ((a:Int) / 2147483648)=(((a*2 % 4294967296) ||| (a / 2147483648):Nat):Int):=by
    rw[←u32_or_nat _ _ (by omega) (by omega)]
    congr 1
  have h2:(a*2 % 4294967296) ||| (a / 2147483648)<4294967296:=Nat.or_lt_two_pow (n:=32) (by omega) (by omega)
  have h3:=u32_xor_nat ((a*2 % 4294967296) ||| (a / 2147483648)) b h2 hb;have h4:((a*2 % 4294967296) ||| (a / 2147483648)) ^^^ b=zlh a b:=rfl;rw[h4] at h3;have H3:=Lib.hid h3;have H1:=Lib.hid h1;clear h1 h3 h4
  go_enter Tryz.func63,Tryz.ntmps63
  go_wp2_with fail
  go_ret
  exact⟨by rw[H1.out,H3.out];rfl,rfl⟩
theorem zjZ (w:World) (v:Value) (l:List Nat) (hv:Rd w w.heap.size 1 v l.length (zm5 l)) (hl:∀ x∈l,x<4294967296) (hm:l.length≤1000000) :
    Calls Tryz.prog 18 #[v] w fun e w'=>e=.returned (.int .u32 (zhU l:Nat))∧zhU l<4294967296∧w=w':=by
  obtain⟨q,c,rfl,hc1,hc2⟩:=hv.isSlice;obtain⟨N,hN⟩:∃ N,l.length=N:=⟨_,rfl⟩;rw[hN] at hv hm ⊢;have HN:=Lib.hid hN;have HV:=Lib.hid hv;have HL:=Lib.hid hl;clear hv hN hl hc1 hc2
  go_enter Tryz.func18,Tryz.ntmps18
  go_wp2_with fail
  go_loopw [2,7] (fun av iv wr=>∃ k a:Nat,k≤N∧a<4294967296∧iv=.int .i64 k∧av=.int .u32 (a:Nat)∧Hid (a=zhU (l.take k))∧Hid (wr=w)) (fun _ iv _=>N+1-(intOf iv).toNat)
  case atStart=>exact⟨0,0,by omega,by omega,rfl,rfl,rfl,rfl⟩
  case round =>
    obtain⟨k,a,hk,ha,rfl,rfl,HA,HW⟩:=hrel;have hw:wr=w:=HW;subst hw
    by_cases hlt:k<N
    · obtain⟨x,hx⟩:∃ x,l[k]?=some x:=⟨_,List.getElem?_eq_getElem (by rw[HN.out];exact hlt)⟩
      obtain⟨g,o,hq,hg,hcells⟩:=HV.out.cellAt (by omega)
      subst hq;have hcx:=hcells k _ (zs1 l k x hx);have hxl:=HL.out x (List.mem_of_getElem? hx)
      have HS:Hid (zhU (l.take (k+1))=zlh a x):=by
        show _=_
        rw[List.take_add_one,hx,HA.out];exact zq4 _ _
      have hfl:=znt a x ha hxl;have C:=Lib.hid (zsm a x ha hxl wr);generalize zlh a x=f at *
      clear hx hcells
      go_wp2_with fail
      refine C.out.mono ?_;rintro e w1 ⟨rfl,rfl⟩
      go_wp2_with fail
      go_roundw
      case rel=>exact⟨k+1,f,by omega,hfl,by go_num,rfl,HS.out.symm,by first | rfl | exact True.intro⟩
      case measure=>simp[intOf];omega
    · obtain rfl:k=N:=by omega
      have hfin:a=zhU l:=by rw[HA.out,List.take_of_length_le (by rw[HN.out];exact Nat.le_refl _)]
      have HF:=Lib.hid hfin;clear hfin
      go_wp2_with fail
      go_ret
      exact⟨by rw[HF.out];rfl,by rw[←HF.out];exact ha,rfl⟩
end Go.Proofs.YtoejfkeofbdalaaGreatDoor
