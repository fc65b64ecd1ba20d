import Derived.Test.YtoejfkeofbdalaaGreatDoorM03
import Derived.Test.YtoejfkeofbdalaaGreatDoorM04
set_option linter.unusedVariables false
set_option maxRecDepth 100000
set_option maxHeartbeats 8000000
namespace Go.Proofs.YtoejfkeofbdalaaGreatDoor
open Go.RowKit
def zr4 (x:NP):List Value:=[.int .i64 (x.1:Int),.int .i64 (x.2:Int)]
def zat (h:List NP):List Value:=h.flatMap zr4
theorem zgr (h:List NP):(zat h).length=h.length*2:=by
  induction h with
  | nil=>rfl
  | cons x h ih =>
    have e:zat (x::h)=zr4 x++zat h:=by simp[zat]
    rw[e,List.length_append,ih,List.length_cons];simp[zr4];omega
theorem za8 (x:NP) (h:List NP):zat (x::h) = .int .i64 (x.1:Int)::.int .i64 (x.2:Int)::zat h:=rfl
theorem zgu (a b:List NP):zat (a++b)=zat a++zat b:=by simp[zat]
theorem zkN (h:List NP):∀ j,j<h.length→(zat h)[j*2]?=some (.int .i64 ((gP h j).1:Int))∧(zat h)[j*2+1]?=some (.int .i64 ((gP h j).2:Int)):=by
  induction h with
  | nil=>intro j hj;simp at hj
  | cons x h ih =>
    intro j hj;rw[za8];cases j with
    | zero=>simp[gP]
    | succ j =>
      have:=ih j (by simpa using hj)
      have e:gP (x::h) (j+1)=gP h j:=by simp[gP]
      rw[e,show (j+1)*2=j*2+1+1 by omega]
      simp only[List.getElem?_cons_succ];exact this
theorem zj0 (h:List NP) (x:NP):∀ j,j<h.length→((zat h).set (j*2) (.int .i64 (x.1:Int))).set (j*2+1) (.int .i64 (x.2:Int))=zat (h.set j x):=by
  induction h with
  | nil=>intro j hj;simp at hj
  | cons y h ih =>
    intro j hj;rw[za8];cases j with
    | zero=>simp[za8]
    | succ j =>
      have:=ih j (by simpa using hj)
      rw[show (j+1)*2=j*2+1+1 by omega,List.set_cons_succ,List.set_cons_succ,List.set_cons_succ,List.set_cons_succ,this,List.set_cons_succ,za8]
theorem zif (h:List NP) (m:Nat):(zat h).take (m*2)=zat (h.take m):=by
  induction h generalizing m with
  | nil=>simp[zat]
  | cons x h ih =>
    cases m with
    | zero=>simp[zat]
    | succ m =>
      rw[za8,show (m+1)*2=m*2+1+1 by omega,List.take_succ_cons,List.take_succ_cons,ih,List.take_succ_cons,za8]
theorem zjz (h:List NP):∀ u∈zat h,u.oneCell'=true:=by
  intro u hu;simp only[zat,List.mem_flatMap] at hu;obtain⟨x,_,hx⟩:=hu;simp[zr4] at hx;rcases hx with rfl | rfl <;> rfl
def TreeOwn (w:World) (base:Nat) (v:Value) (h:List NP):Prop:=w.ownsRow base 245 2 v h.length (zat h)
theorem TreeOwn.nil (w:World) (base:Nat):TreeOwn w base (.slice none 0 0) []:=World.ownsRow_nil _ _ _ _
theorem TreeOwn.below {w w':World} {base:Nat} {v:Value} {h:List NP} (ho:TreeOwn w base v h) (hB:Below w.heap.size w w'):TreeOwn w' base v h:=zag ho hB
theorem TreeOwn.alloc {w:World} {base:Nat} {v:Value} {h:List NP} (ho:TreeOwn w base v h) (o:Obj):TreeOwn (w.alloc o) base v h:=World.ownsRow.alloc ho o
theorem TreeOwn.shape {w:World} {base:Nat} {v:Value} {h:List NP} (ho:TreeOwn w base v h):∃ q c,v=.slice q h.length c:=by
  rcases ho.2 with ⟨rfl,h0⟩ | ⟨g,cap,cur,rfl,_⟩
  · rw[h0];exact⟨_,_,rfl⟩
  · exact⟨_,_,rfl⟩
theorem TreeOwn.place {w:World} {base:Nat} {v:Value} {h:List NP} (ho:TreeOwn w base v h) (hn:0<h.length) :
    ∃ g cap,v=.slice (some ⟨g,0,none⟩) h.length cap∧h.length≤cap∧cap≤maxLen∧base≤g∧g<w.heap.size∧(∃ cur,w.heap[g]?=some (.cells cur 245 (0,0)))∧(∀ j,j<h.length→w.cell? ⟨g,j*2,none⟩=some (.int .i64 ((gP h j).1:Int))∧w.cell? ⟨g,j*2+1,none⟩=some (.int .i64 ((gP h j).2:Int)))∧(∀ j,w.frozen? ⟨g,j,none⟩=false) ∧
      (∀ (j:Nat) (x:NP),j<h.length→TreeOwn ((w.setCell ⟨g,j*2,none⟩ (.int .i64 (x.1:Int))).setCell ⟨g,j*2+1,none⟩ (.int .i64 (x.2:Int))) base v (h.set j x)) ∧
      (∀ m,m≤h.length→TreeOwn w base (.slice (some ⟨g,0,none⟩) m cap) (h.take m)):=by
  have ho':=ho;rcases ho.2 with ⟨rfl,h0⟩ | ⟨g,cap,cur,rfl,hb,hg,hnc,hcm,hcs,htake⟩
  · omega
  · refine⟨g,cap,rfl,hnc,hcm,hb,zab hg,⟨cur,hg⟩,fun j hj=>?_,fun j=>World.ownsRow.frozenAt ho j,fun j x hj=>?_,fun m hm=>?_⟩
    · obtain⟨h1,h2⟩:=zkN h j hj
      exact⟨(World.ownsRow.cellAt ho (j*2) (by omega)).trans h1,(World.ownsRow.cellAt ho (j*2+1) (by omega)).trans h2⟩
    · have h1:=(World.ownsRow.stored ho (j*2) (.int .i64 (x.1:Int))).1
      have h2:=(World.ownsRow.stored h1 (j*2+1) (.int .i64 (x.2:Int))).1;rw[zj0 h x j hj] at h2;unfold TreeOwn;rw[List.length_set];exact h2
    · unfold TreeOwn
      have hl:(h.take m).length=m:=by rw[List.length_take];omega
      rw[hl];refine⟨by rw[zgr,hl],.inr ⟨g,cap,cur,rfl,hb,hg,by omega,hcm,hcs,?_⟩⟩
      rw[←zif,←htake,List.take_take,Nat.min_eq_left (by omega)]
theorem zeH {w:World} {base:Nat} {v:Value} {h:List NP} (ho:TreeOwn w base v h) {k:Nat} (hk:v.ownBlock=some k):base≤k:=by
  rcases ho.2 with ⟨rfl,_⟩ | ⟨g,cap,cur,rfl,hb,_⟩
  · simp[Value.ownBlock] at hk
  · obtain rfl:g=k:=by simpa [Value.ownBlock] using hk
    exact hb
theorem zrq:(Tryz.prog.info? 245).map (fun i=>(i.zero,i.size,i.bytes))=some (some (.agg #[.int .i64 0,.int .i64 0]),2,16):=by kernel_rfl
theorem zt4 {w:World} {k:Nat} {x:NP} (h:w.heap[k]?=some (.cells #[.int .i64 (x.1:Int),.int .i64 (x.2:Int)] 245 (0,0))):Rd w (k+1) 2 (.slice (some ⟨k,0,none⟩) 1 1) 1 (zat [x]):=by
  refine⟨rfl,_,1,rfl,Nat.le_refl _,by simp[maxLen],fun _=>⟨k,0,rfl,Nat.lt_succ_self _,fun i u hu=>?_⟩⟩
  have e:zat [x]=[.int .i64 (x.1:Int),.int .i64 (x.2:Int)]:=rfl;rw[e] at hu;rw[Nat.zero_add,zaa h,←hu];simp
theorem zgq {w:World} {ops:Array Oper} {o:Oper} {a:Act} {K:Act→World→Prop} {Q:Exit→Act→World→Prop} {E:Prop} (hgd:o.guard=none) (s x:Operand)
    (ho:o.op=.call { callee:=.builtin .append,args:=#[s,x],argTypes:=#[247,247] })
    (base:Nat) (v:Value) (h:List NP) (hs:a.eval s=v) (hown:TreeOwn w base v h)
    (k:Nat) (y:NP) (hx:a.eval x=.slice (some ⟨k,0,none⟩) 1 1) (hr:w.heap[k]?=some (.cells #[.int .i64 (y.1:Int),.int .i64 (y.2:Int)] 245 (0,0)))
    (hlen:h.length≤1000000) (hbase:base≤w.heap.size)
    (hk:∀ g c w',TreeOwn w' base (.slice (some ⟨g,0,none⟩) (h.length+1) c) (h++[y])→w.grownBy w' v.ownBlock→(some g=v.ownBlock∨g=w.heap.size)→K (a.put o.dst (.slice (some ⟨g,0,none⟩) (h.length+1) c)) w') :
    if Region.wanted o (yielded ops a.tmps)=true then Oper.wp Tryz.prog o a w K Q else E:=by
  have hw:Region.wanted o (yielded ops a.tmps)=true:=by simp[Region.wanted,hgd]
  rw[if_pos hw];obtain⟨i0,hi,hz0,hz1,hz2⟩:=info_parts zrq;obtain⟨v',w',hrun,h2,h3,h4⟩:=zbN (P:=Tryz.prog) w base 247 o.type 245 i0 (.agg #[.int .i64 0,.int .i64 0]) 2 16 Tryz.underlying247 hi hz0 hz1 hz2 rfl (by decide) v h.length (zat h) hown (k+1) 1 _ (zat [y]) (zt4 hr) (zjz _) (by unfold maxLen;omega) (by omega) hbase
  unfold Oper.wp execOp;simp only[ho,resolve,invoke,builtin,Sem.run_bind,Sem.run_pure,Result.andThen_ok,List.map_toArray,List.map_cons,List.map_nil,hs,hx,hrun]
  have h5:TreeOwn w' base v' (h++[y]):=by
    unfold TreeOwn;rw[List.length_append,zgu];exact h2
  obtain⟨g,c,rfl,_⟩:=h5.place (by simp)
  rw[List.length_append] at *
  refine hK _ _ (hk g c w' h5 h3 ?_);rcases h4 with h4 | h4
  · exact .inl h4
  · refine .inr ?_
    simpa [Value.ownBlock] using h4
where
  hK {K:Act→World→Prop} (a:Act) (w:World) (h:K a w):K a w:=h
structure Kept (qb:Nat) (w w':World):Prop where
  bel:Below qb w w'
  size:w.heap.size≤w'.heap.size
  other:∀ k cs t,t≠245→k≠qb→w.heap[k]?=some (.cells cs t (0,0))→w'.heap[k]?=some (.cells cs t (0,0))
theorem Kept.refl (qb:Nat) (w:World):Kept qb w w:=⟨Below.refl _ _,Nat.le_refl _,fun _ _ _ _ _ h=>h⟩
theorem Kept.trans {qb:Nat} {a b c:World} (h:Kept qb a b) (g:Kept qb b c):Kept qb a c:=⟨h.bel.trans g.bel,Nat.le_trans h.size g.size,fun k cs t h1 h2 h3=>g.other k cs t h1 h2 (h.other k cs t h1 h2 h3)⟩
theorem Kept.below {qb:Nat} {w w':World} (hq:qb≤w.heap.size) (hB:Below w.heap.size w w'):Kept qb w w':=⟨hB.mono hq,hB.size,fun k cs t _ _ h=>(hB.block k (zab h)).trans h⟩
theorem Kept.set {qb g:Nat} {w:World} (hg:qb<g) (hh:∃ cur,w.heap[g]?=some (.cells cur 245 (0,0))) (i:Nat) (u:Value):Kept qb w (w.setCell ⟨g,i,none⟩ u) :=
  ⟨(Below.refl _ _).setCell (p:=⟨g,i,none⟩) (by simp;omega) u,by simp[World.setCell],fun k cs t h1 h2 h3=>by
    have hne:k≠g:=fun e=>by
      subst e;obtain⟨cur,hc⟩:=hh;rw[h3] at hc;injection hc with hc
      injection hc with _ hc
      exact h1 hc
    rw[Below.heap_setCell _ _ _ _ hne];exact h3⟩
theorem Kept.setq {qb:Nat} {w:World} (i:Nat) (u:Value):Kept qb w (w.setCell ⟨qb,i,none⟩ u) :=
  ⟨(Below.refl _ _).setCell (p:=⟨qb,i,none⟩) (Nat.le_refl _) u,by simp[World.setCell],fun k cs t h1 h2 h3=>by
    rw[Below.heap_setCell _ _ _ _ h2];exact h3⟩
theorem Kept.grown {qb base:Nat} {w w':World} {v:Value} {h:List NP} (ho:TreeOwn w base v h) (hb:qb<base) (hq:qb≤w.heap.size) (hg:w.grownBy w' v.ownBlock):Kept qb w w' :=
  ⟨(Below.refl _ _).grown hg hq (fun k hk=>by have:=zeH ho hk;omega),hg.size,fun k cs t h1 h2 h3=>by
    refine (hg.block k (zab h3) fun e=>?_).trans h3;obtain⟨cur,hc⟩:=zaN ho e.symm;rw[h3] at hc;injection hc with hc
    injection hc with _ hc
    exact h1 hc⟩
structure Que (w:World) (qb:Nat) (h:List NP):Prop where
  ex:∃ v,w.heap[qb]?=some (.cells #[v,.func (.func 139) #[] #[]] 249 (0,0))∧TreeOwn w (qb+1) v h
theorem zf5 (n:Int) (w:World) (hn:-9223372036854775808≤n) (hn':n≤9223372036854775807) :
    Calls Tryz.prog 33 #[.int .i64 n] w fun e w'=>∃ v,e=.returned v∧OwnInts w' w.heap.size v (zdz n.toNat)∧Below w.heap.size w w':=by
  go_enter Tryz.func33,Tryz.ntmps33
  go_wp2
  go_loopw [0,2] (fun nv ov wr=>∃ (z:Int) (done:List Int),z≤n∧nv=.int .i64 z∧OwnInts wr w.heap.size ov done∧Hid (done++zdz z.toNat=zdz n.toNat)∧Below w.heap.size w wr) (fun nv _ _=>(intOf nv).toNat)
  case atStart=>exact⟨n,[],Int.le_refl _,rfl,OwnInts.nil _ _,List.nil_append _,Below.refl _ _⟩
  case round =>
    obtain⟨z,done,hz,rfl,hown,heq,hB⟩:=hrel;have hzB:=hB.size
    have hdl:done.length≤64:=by
      have h1:=zcT n.toNat (by omega)
      rw[←heq.out,List.length_append] at h1;omega
    have Hown:=Lib.hid hown;clear hown
    by_cases hpos:0<z
    · obtain⟨m,rfl⟩:=Int.eq_ofNat_of_zero_le (show 0≤z by omega)
      have hm0:0≤(m:Int)-1:=by omega
      have heq2:Hid ((done++[((m:Int)-1) % 2])++zdz (((m:Int)-1) / 2).toNat=zdz n.toNat):=by
        show _=_
        rw[←heq.out,Int.toNat_natCast,zgM (n:=m) (by omega),show (((m:Int)-1) / 2).toNat=(m-1) / 2 by omega,show (((m-1) % 2:Nat):Int)=((m:Int)-1) % 2 by omega]
        simp
      clear heq
      go_wp2_with
        (at_builtin
         refine zar rfl _ _ rfl w.heap.size _ done rfl (Hown.out.alloc _) (wr.heap.size+1) _ [((m:Int)-1) % 2] rfl (IsInts.new wr _ _ _ _ rfl rfl rfl (by simp[maxLen])) (by simp;omega) (by simp;omega) ?_
         intro q' c' w1 hown1 hg1 hat1;have Hown1:=Lib.hid hown1;have hB1:Below w.heap.size w w1:=(hB.alloc (by omega) _).grown hg1 (by simp;omega) (fun k hk=>by have:=zaF Hown.out hk;omega)
         clear hg1 hat1 hown1)
      go_roundw
      case rel=>exact⟨((m:Int)-1) / 2,done++[((m:Int)-1) % 2],by omega,rfl,Hown1.out,heq2,hB1⟩
      case measure=>simp[intOf];omega
    · go_wp2
      go_ret
      refine⟨_,rfl,?_,hB⟩;have:=heq.out;rw[show z.toNat=0 by omega,zfv,List.append_nil] at this
      rw[←this];exact Hown.out
theorem zjk:Enters Tryz.prog 227:=enters_of Tryz.func227 (by kernel_rfl) rfl
theorem zmd:Enters Tryz.prog 168:=enters_of Tryz.func168 (by kernel_rfl) rfl
theorem zmU:Enters Tryz.prog 358:=enters_of Tryz.func358 (by kernel_rfl) rfl
theorem zlY:Enters Tryz.prog 228:=enters_of Tryz.func228 (by kernel_rfl) rfl
theorem zoz (x:Int) (w:World):Calls Tryz.prog 227 #[.int .i64 x] w fun e w'=>e=.returned (.bool (decide (x<0)))∧w=w':=by
  go_enter Tryz.func227,Tryz.ntmps227
  go_wp2
  go_ret
  exact⟨rfl,rfl⟩
theorem zsI (x:Int) (w:World):Calls Tryz.prog 168 #[.int .i64 x] w fun e w'=>e=.returned (.bool (decide (1099511627776<x)))∧w=w':=by
  go_enter Tryz.func168,Tryz.ntmps168
  go_wp2
  go_ret
  exact⟨rfl,rfl⟩
theorem ztn (x:Int) (w:World):Calls Tryz.prog 358 #[.int .i64 x] w fun e w'=>e=.returned (.bool (!decide (x=0) && !decide (x=1)))∧w=w':=by
  by_cases h0:x=0
  · subst h0
    go_enter Tryz.func358,Tryz.ntmps358
    go_wp2
    go_ret
    exact⟨rfl,rfl⟩
  · have h1:(x != 0)=true:=by simpa using h0
    have h2:(x != 1) = !decide (x=1):=by rw[Bool.eq_iff_iff];simp
    rw[decide_eq_false h0];have H2:=Lib.hid h2;clear h2
    go_enter Tryz.func358,Tryz.ntmps358
    go_wp2
    go_ret
    exact⟨zfy H2.out,rfl⟩
theorem ztd (x top:Int) (b:Nat) (w:World) (hb:w.cell? ⟨b,0,none⟩=some (.int .i64 top)):Calls Tryz.prog 228 #[.int .i64 x,.pointer (some ⟨b,0,none⟩)] w fun e w'=>e=.returned (.bool (decide (top<x)))∧w=w':=by
  go_enter Tryz.func228,Tryz.ntmps228
  go_wp2
  go_ret
  exact⟨rfl,rfl⟩
def zpk (l:List Int):Bool:=l.any fun x=>decide (x<0)
theorem zkw (w:World) (v:Value) (xs:List Int) (hv:IsInts w w.heap.size v xs) (hlen:xs.length≤281474976710656) :
    Calls Tryz.prog 167 #[v] w fun e w'=>e=.returned (.bool (zpk xs))∧Below w.heap.size w w':=by
  have C:=Lib.hid (zaO w v xs (fun x=>decide (x<0)) 227 #[] zjk hv hlen (fun x _ W _=>zoz x W));clear hv
  go_enter Tryz.func167,Tryz.ntmps167
  go_wp2_with fail
  refine C.out.mono ?_;rintro e w1 ⟨rfl,hB⟩
  go_wp2_with fail
  go_ret
  exact⟨rfl,hB⟩
theorem zsg (top:Int) (l:List Int):(if znF (fun x=>decide (top<x)) l<0 then (l.length:Int) else znF (fun x=>decide (top<x)) l)=(zaQ top l:Nat):=by
  have e:(l.takeWhile fun x=>!decide (top<x))=l.takeWhile fun x=>decide (x≤top):=by
    congr 1;funext x;rw[Bool.eq_iff_iff];simp
  unfold znF
  by_cases h:(l.any fun x=>decide (top<x))=true
  · rw[if_pos h,if_neg (by omega),e];rfl
  · rw[if_neg h,if_pos (by omega)]
    rw[zqW (Nat.le_refl _) (fun i x _ hi=>?_) (fun x hx=>by simp at hx)]
    have h2:(l.any fun x=>decide (top<x))=false:=by simpa using h
    rw[List.any_eq_false] at h2;have:=h2 x (List.mem_of_getElem? hi);simpa using this
theorem znb (w:World) (v:Value) (xs:List Int) (top:Int) (hv:IsInts w w.heap.size v xs) (hlen:xs.length≤281474976710656) :
    Calls Tryz.prog 170 #[v,.int .i64 top] w fun e w'=>e=.returned (.int .i64 (zaQ top xs:Nat))∧Below w.heap.size w w':=by
  have hmf:=hmf;obtain⟨A,ca,rfl,hc1,hc2⟩:=hv.shape;have hbx:(w.alloc (.cells #[.int .i64 top] 3)).heap[w.heap.size]?=some (.cells #[.int .i64 top] 3 (0,0)):=heap_alloc_new w _
  have C:=Lib.hid (zeY (w.alloc (.cells #[.int .i64 top] 3)) _ xs (fun x=>decide (top<x)) 228 #[.pointer (some ⟨w.heap.size,0,none⟩)] zlY ((hv.below ((Below.refl w.heap.size w).alloc (Nat.le_refl _) _) (Nat.le_refl _)).mono (by simp)) hlen
    (fun x _ W hB=>ztd x top w.heap.size W (zaa ((hB.block w.heap.size (by simp)).trans hbx) 0)))
  have hr:=zsg top xs;generalize znF (fun x=>decide (top<x)) xs=z at *
  have Hr:=Lib.hid hr;clear hv hr hbx
  go_enter Tryz.func170,Tryz.ntmps170
  go_wp2_with fail
  refine C.out.mono ?_;rintro e w1 ⟨rfl,hB⟩;have hBw:Below w.heap.size w w1:=((Below.refl _ _).alloc (Nat.le_refl _) _).trans (hB.mono (by simp))
  by_cases hz:z<0
  · go_wp2_with fail
    go_ret
    exact⟨zbU (by rw[←Hr.out,if_pos hz]),hBw⟩
  · go_wp2_with fail
    go_ret
    exact⟨zbU (by rw[←Hr.out,if_neg (by omega)]),hBw⟩
def LB (w:World) (b:Nat) (xs:List Int):Prop:=∃ v,w.heap[b]?=some (.cells #[v] 282 (0,0))∧OwnInts w (b+1) v xs
theorem LB.lt {w:World} {b:Nat} {xs:List Int} (h:LB w b xs):b<w.heap.size:=by
  obtain⟨v,hb,_⟩:=h;exact zab hb
theorem LB.below {w w':World} {b:Nat} {xs:List Int} (h:LB w b xs) (hB:Below w.heap.size w w'):LB w' b xs:=by
  obtain⟨v,hb,ho⟩:=h;exact⟨v,(hB.block b (zab hb)).trans hb,ho.below hB⟩
theorem zcJ (w:World) (b:Nat) (xs ys:List Int) (u:Value) (h:LB w b xs) (hu:IsInts w w.heap.size u ys) (hlen:xs.length+ys.length≤17592186044416) :
    Calls Tryz.prog 169 #[.pointer (some ⟨b,0,none⟩),u] w fun e w'=>e=.returned (.tuple #[])∧LB w' b (xs++ys)∧Below b w w':=by
  have hbs:=h.lt;obtain⟨v,hb,ho⟩:=h;have c0:w.cell? ⟨b,0,none⟩=some v:=zaa hb 0;have Hb:=Lib.hid hb;have Ho:=Lib.hid ho;have Hu:=Lib.hid hu;clear hb ho hu
  go_enter Tryz.func169,Tryz.ntmps169
  go_wp2_with
    (at_builtin
     refine zar rfl _ _ rfl (b+1) v xs rfl Ho.out w.heap.size u ys rfl Hu.out hlen (by omega) ?_
     intro q' c' w1 hown1 hg1 hat1;have hv:∀ k,v.ownBlock=some k→b+1≤k:=fun k hk=>zaF Ho.out hk;have hb1:w1.heap[b]?=some (.cells #[v] 282 (0,0)):=(hg1.block b hbs (fun e=>by have:=hv b e.symm;omega)).trans Hb.out
     have f1:w1.frozen? ⟨b,0,none⟩=false:=zac hb1 0;have c1:w1.cell? ⟨b,0,none⟩=some v:=zaa hb1 0;have hB1:Below b w w1:=(Below.refl _ _).grown hg1 (by omega) (fun k hk=>by have:=hv k hk;omega)
     have Hb1:=Lib.hid hb1;have Hown1:=Lib.hid hown1;clear hb1 hown1 hg1 hat1 hv)
  go_end0
  refine⟨rfl,⟨.slice q' (xs.length+ys.length) c',?_,?_⟩,hB1.setCell (p:=⟨b,0,none⟩) (Nat.le_refl _) _⟩
  · have:=zaf Hb1.out 0 (.slice q' (xs.length+ys.length) c')
    simpa using this
  · exact ownsRow_setCell_below Hown1.out (by simp) _
end Go.Proofs.YtoejfkeofbdalaaGreatDoor
namespace Go.Proofs.YtoejfkeofbdalaaGreatDoor
theorem zhp (d:List Int) (hd:Dig d):∀ ds r,zpu ds (d++r)=zpu (ds++d) r:=by
  induction d with
  | nil=>intro ds r;simp
  | cons x d ih =>
    intro ds r;have hx:=hd x List.mem_cons_self;rw[List.cons_append,zpu,if_pos (by omega),ih (fun y hy=>hd y (List.mem_cons_of_mem _ hy))]
    simp
theorem ztA (l:List Int) (hl:∀ x∈l,0≤x):∀ n,dec (zj8 n l)=zbS n++l:=by
  induction l with
  | nil =>
    intro n;have:=zhp (zdz n) (zgw n) [] [];rw[List.append_nil,List.nil_append] at this;rw[zj8,dec,this,zpu,zfC];simp
  | cons x l ih =>
    intro n;have ih:=ih fun y hy=>hl y (List.mem_cons_of_mem _ hy);have hx:=hl x List.mem_cons_self;rw[zj8];split
    · rename_i h
      obtain rfl:x=0:=by omega
      rw[ih,zqL];simp[zbS]
    · rename_i h
      rw[dec,zhp _ (zgw n),List.nil_append,zpu,if_neg (by omega),zfC,show x+1-1=x by omega]
      show zbS n++x::dec (zj8 0 l)=_
      rw[ih];simp[zbS]
theorem zuz (l:List Int) (hl:∀ x∈l,0≤x):dec (enc l)=l:=by
  have:=ztA l hl 0;simpa [enc,zbS] using this
end Go.Proofs.YtoejfkeofbdalaaGreatDoor
namespace Go.Proofs.YtoejfkeofbdalaaGreatDoor
open Go.RowKit
def zcc (w:List Nat):List Nat:=w.map fun x=>x / 2+1
theorem zcD (w:List Nat):(zcc w).length=w.length:=by simp[zcc]
theorem zko (w:List Nat):∀ x∈zcc w,1≤x:=fun x hx=>by
  simp only[zcc,List.mem_map] at hx;obtain⟨y,_,rfl⟩:=hx;omega
theorem zke (w:List Nat) (i:Nat):(zcc w)[i]?=w[i]?.map fun x=>x / 2+1:=by simp[zcc]
def zcy (w:List Nat) (most:Nat):Bool:=(zao w).any fun d=>decide (most<d)
def zbK:Nat→List Nat→Nat→List Nat
  | 0,w,_=>zao w
  | n+1,w,most=>if zcy w most then zbK n (zcc w) most else zao w
theorem zgV (w:List Nat) (most:Nat):zcy w most=true↔∃ i,i<w.length∧most<dpF w i:=by
  unfold zcy;rw[List.any_eq_true]
  constructor
  · rintro⟨d,hd,h⟩
    obtain⟨i,hi,he⟩:=List.getElem_of_mem hd;rw[zaq] at hi;have h3:=zbv w i hi;rw[List.getElem?_eq_getElem (by rw[zaq];exact hi),he] at h3
    injection h3 with h3
    exact⟨i,hi,by rw[←h3];simpa using h⟩
  · rintro⟨i,hi,h⟩
    exact⟨dpF w i,List.mem_of_getElem? (zbv w i hi),by simpa using h⟩
theorem zmB {w:List Nat} (hw:∀ x∈w,1≤x) (h2:2≤w.length) (h258:w.length≤258) (hs:∀ x∈w,x≤2):∀ i,i<w.length→dpF w i≤9:=by
  obtain⟨d,h3,h4,_⟩:=zlN hw h2 (fun i k hi hk=>ztm hw h2 (List.getElem?_eq_getElem hi) (List.getElem?_eq_getElem hk) (.inr (hs _ (List.getElem_mem hk))))
  have hd:d<9:=by
    rcases Nat.lt_or_ge d 9 with h | h
    · exact h
    · have h5:(2:Nat) ^ 9≤2 ^ d:=Nat.pow_le_pow_right (by omega) h
      have h6:(2:Nat) ^ 9=512:=by decide
      omega
  intro i hi;have:=h3 i hi;omega
theorem zpW (w:List Nat) (hw:∀ x∈w,1≤x):(zcc w).sum≤w.sum∧((∃ x∈w,3≤x)→(zcc w).sum<w.sum):=by
  induction w with
  | nil=>exact⟨Nat.le_refl _,fun ⟨x,hx,_⟩=>by simp at hx⟩
  | cons y w ih =>
    obtain⟨h1,h2⟩:=ih fun x hx=>hw x (by simp[hx])
    have hy:=hw y (by simp)
    have e:(zcc (y::w)).sum=(y / 2+1)+(zcc w).sum:=by simp[zcc]
    rw[e,List.sum_cons];refine⟨by omega,fun ⟨x,hx,h3⟩=>?_⟩
    rcases List.mem_cons.1 hx with rfl | hx
    · omega
    · have:=h2 ⟨x,hx,h3⟩
      omega
theorem zqA {w:List Nat} (hw:∀ x∈w,1≤x) (h:0<w.length):0<w.sum:=by
  cases w with
  | nil=>simp at h
  | cons x w=>have:=hw x (by simp);rw[List.sum_cons];omega
theorem zfX {w:List Nat} (hw:∀ x∈w,1≤x) (h2:2≤w.length) (h258:w.length≤258) {most:Nat} (hm:9≤most) (ht:zcy w most=true) {n:Nat} (hn:w.sum≤n):∃ k,n=k+1∧(zcc w).sum≤k∧zbK n w most=zbK k (zcc w) most:=by
  have h0:=zqA hw (by omega)
  obtain⟨k,rfl⟩:∃ k,n=k+1:=⟨n-1,by omega⟩
  have h3:∃ x∈w,3≤x:=by
    obtain⟨i,hi,hd⟩:=(zgV w most).1 ht;refine Classical.byContradiction fun hno=>?_
    have:=zmB hw h2 h258 (fun x hx=>by
      rcases Nat.lt_or_ge x 3 with h | h
      · omega
      · exact absurd ⟨x,hx,h⟩ hno) i hi
    omega
  have:=(zpW w hw).2 h3;exact⟨k,rfl,by omega,by rw[zbK,if_pos ht]⟩
theorem zfk {w:List Nat} {most:Nat} (ht:zcy w most=false) (n:Nat):zbK n w most=zao w:=by
  cases n with
  | zero=>rfl
  | succ n=>rw[zbK,if_neg (by rw[ht];simp)]
theorem zjO (n:Nat):∀ (w:List Nat) (most:Nat),(∀ x∈w,1≤x)→2≤w.length→w.length≤258→9≤most→w.sum≤n →
    ∃ u,zbK n w most=zao u∧u.length=w.length∧(∀ x∈u,1≤x)∧(∀ i,i<w.length→dpF u i≤most)∧(∀ i k:Nat,w[i]?=w[k]?→u[i]?=u[k]?)∧(zcy w most=false→u=w):=by
  induction n with
  | zero =>
    intro w most hw h2 _ _ hn;have:=zqA hw (by omega)
    omega
  | succ n ih =>
    intro w most hw h2 h258 hm hn;cases ht:zcy w most with
    | false =>
      refine⟨w,zfk ht _,rfl,hw,fun i hi=>?_,fun i k h=>h,fun _=>rfl⟩;rcases Nat.lt_or_ge most (dpF w i) with h | h
      · have:=(zgV w most).2 ⟨i,hi,h⟩
        rw[ht] at this;cases this
      · exact h
    | true =>
      obtain⟨k,hk1,hk2,hk3⟩:=zfX hw h2 h258 hm ht hn;obtain rfl:n=k:=by omega
      obtain⟨u,h3,h4,h5,h6,h7,_⟩:=ih (zcc w) most (zko w) (by rw[zcD];exact h2) (by rw[zcD];exact h258) hm hk2
      rw[zcD] at h4 h6;exact⟨u,hk3.trans h3,h4,h5,h6,fun i j h=>h7 i j (by rw[zke,zke,h]),fun h=>by cases h⟩
end Go.Proofs.YtoejfkeofbdalaaGreatDoor
