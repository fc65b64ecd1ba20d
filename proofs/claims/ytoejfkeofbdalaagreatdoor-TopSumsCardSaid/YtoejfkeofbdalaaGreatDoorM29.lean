import Derived.Test.YtoejfkeofbdalaaGreatDoorM17
set_option linter.unusedVariables false
set_option maxRecDepth 100000
set_option maxHeartbeats 8000000
namespace Go.Proofs.YtoejfkeofbdalaaGreatDoor
open Go.RowKit Go.Shelf
attribute [local go_sem] Oper.semAt_some
def zhf (l:List Nat) (p:Nat→Bool) (j:Nat):Value :=
  if j % 2=0 then .int .i64 ((if p (j / 2) then l[j / 2]?.getD 0 else 0:Nat):Int) else .int .u64 ((if p (j / 2) then zcO l (j / 2) else 0:Nat):Int)
def zeQ (l:List Nat) (p:Nat→Bool):Array Value:=(Array.range (l.length*2)).map (zhf l p)
theorem zlb (l:List Nat) (p:Nat→Bool):(zeQ l p).size=l.length*2:=by simp[zeQ]
theorem zch (l:List Nat) (p:Nat→Bool) (j:Nat) (h:j<l.length*2):(zeQ l p)[j]?=some (zhf l p j):=by simp[zeQ,h]
theorem zdJ (l:List Nat) (p:Nat→Bool) (j:Nat) (h:¬ j<l.length*2):(zeQ l p)[j]?=none:=Array.getElem?_eq_none (by rw[zlb];omega)
theorem ziK {l:List Nat} {p q:Nat→Bool} (h:∀ s,s<l.length→p s=q s):zeQ l p=zeQ l q:=by
  apply Array.ext_getElem?
  intro j
  by_cases hj:j<l.length*2
  · rw[zch _ _ _ hj,zch _ _ _ hj]
    unfold zhf;rw[h (j / 2) (by omega)]
  · rw[zdJ _ _ _ hj,zdJ _ _ _ hj]
theorem zq9 (l:List Nat):zeQ l (fun _=>false)=madeCells #[.int .i64 0,.int .u64 0] (l.length*2):=by
  apply Array.ext_getElem?
  intro j
  by_cases hj:j<l.length*2
  · rw[zch _ _ _ hj]
    unfold zhf;rcases Nat.mod_two_eq_zero_or_one j with h | h
    · simp[madeCells,hj,h]
    · simp[madeCells,hj,h]
  · rw[zdJ _ _ _ hj,Array.getElem?_eq_none (by rw[size_madeCells];omega)]
theorem zr1 (l:List Nat) (p:Nat→Bool) (s:Nat) (hs:s<l.length) :
    ((zeQ l p).setIfInBounds (s*2) (.int .i64 ((l[s]?.getD 0:Nat):Int))).setIfInBounds (s*2+1) (.int .u64 (zcO l s:Int))=zeQ l (fun t=>p t || t == s):=by
  apply Array.ext_getElem?
  intro j;rw[Array.getElem?_setIfInBounds,Array.getElem?_setIfInBounds,Array.size_setIfInBounds,zlb]
  by_cases hj:j<l.length*2
  · rw[zch _ _ _ hj,zch _ _ _ hj]
    by_cases h1:s*2+1=j
    · subst h1
      rw[if_pos rfl,if_pos hj];unfold zhf;rw[if_neg (by omega),show (s*2+1) / 2=s by omega]
      simp
    · rw[if_neg h1]
      by_cases h2:s*2=j
      · subst h2
        rw[if_pos rfl,if_pos hj];unfold zhf;rw[if_pos (by omega),show s*2 / 2=s by omega]
        simp
      · rw[if_neg h2]
        unfold zhf;have:(j / 2 == s)=false:=by rw[beq_eq_false_iff_ne];omega
        simp[this]
  · rw[zdJ _ _ _ hj,zdJ _ _ _ hj,if_neg (by omega),if_neg (by omega)]
def ztQ (l:List Nat) (ns:List Nat) (s:Nat):Bool:=decide (l[s]?.getD 0∈ns)
def zdu (l:List Nat) (ns:List Nat) (n i s:Nat):Bool:=ztQ l ns s || decide (s∈(zbr l n).take i)
theorem zmI (l ns:List Nat) (n:Nat):zdu l ns n 0=ztQ l ns:=by funext s;simp[zdu]
theorem zm7 (l ns:List Nat) (n i t:Nat) (h:(zbr l n)[i]?=some t):zdu l ns n (i+1)=fun s=>zdu l ns n i s || s == t:=by
  funext s
  unfold zdu;rw[List.take_add_one,h,Bool.or_assoc];congr 1
  rw[Bool.eq_iff_iff];simp
theorem zod (l ns:List Nat) (n:Nat):zeQ l (zdu l ns n (l.count n))=zeQ l (ztQ l (ns++[n])):=ziK fun s hs=>by
  unfold zdu ztQ;rw[List.take_of_length_le (by rw[zaY];exact Nat.le_refl _),Bool.eq_iff_iff]
  simp only[Bool.or_eq_true,decide_eq_true_eq,zkn,List.mem_append,List.mem_singleton];rw[List.getElem?_eq_getElem hs];simp
theorem zmx (l:List Nat) (hf:zoR l):zeQ l (ztQ l (zaG l 20))=zeQ l (fun _=>true):=ziK fun s hs=>by
  unfold ztQ;rw[decide_eq_true_eq,zcm,List.getElem?_eq_getElem hs];have hm:=List.getElem_mem hs;have:=hf _ hm;exact⟨this.1,this.2,List.count_pos_iff.2 hm⟩
theorem zrh:(Tryz.prog.info? 216).map (fun i=>(i.zero,i.size,i.bytes))=some (some (.agg #[.int .i64 0,.int .u64 0]),2,16):=by kernel_rfl
theorem zig (l:List Nat) (N:Nat) (hN:l.length=N) (hn:N≤1000000):∀ W,(Instr.makeSlice 212 (.int .i64 (N:Int)) (.int .i64 (N:Int))).run Tryz.prog W=.ok (.slice (some ⟨W.heap.size,0,none⟩) N N) (W.alloc (.cells (zeQ l fun _=>false) 216)):=fun W=>by
  obtain⟨i0,hi,hz0,hz1,hz2⟩:=info_parts zrh;have:=run_make (P:=Tryz.prog) W 212 216 i0 (.agg #[.int .i64 0,.int .u64 0]) Tryz.underlying212 hi hz0 .i64 .i64 N N (by omega) (by omega) (by rw[hz2];omega) (by omega)
  rw[hz1,Int.toNat_natCast,←hN] at this;rw[zq9,←hN];exact this
def zpC (w:World) (v:Value) (l:List Nat):Prop:=∃ g c,v=.slice (some ⟨g,0,none⟩) l.length c∧w.heap[g]?=some (.cells (zeQ l fun _=>true) 216 (0,0))
theorem zsL (w:World) (v:Value) (l:List Nat) (hv:IsInts w w.heap.size v (ints l)) (hl:Code l) :
    Calls Tryz.prog 123 #[v] w fun e w'=>∃ u,e=.returned (.tuple #[u,.int .i64 0])∧zpC w' u l∧Below w.heap.size w w':=by
  obtain⟨A,ca,rfl,hc1,hc2⟩:=hv.shape;have hli:=zad l;obtain⟨N,hN⟩:∃ N,l.length=N:=⟨_,rfl⟩;rw[hli,hN] at hc1 hv ⊢;have hN258:N≤258:=by rw[←hN];exact hl.most
  have CC:Hid (Calls Tryz.prog 31 #[.slice A N ca] w fun e w'=>e=.returned (.int .i64 0)∧Below w.heap.size w w'):=by
    have:=zdQ w _ _ hv (by rw[hli];omega)
    rw[hl.ok] at this;exact this
  have hmk:=zig l N hN (by omega)
  have Hv:=Lib.hid hv;have HN:=Lib.hid hN;have Hlc:=Lib.hid hl;obtain⟨D,hD⟩:∃ D:Nat,8≤D:=⟨8,by omega⟩
  have h1D:1≤D:=by omega
  clear hv hN hl hli;refine (callsIn_wide (n:=D)).1 ?_;refine callsIn_of_wp_marks Tryz.func123 rfl trivial ?_ rfl;simp only[Tryz.ntmps123,List.size_toArray,List.length_cons,List.length_nil,Nat.reduceAdd,Nat.reduceSub,Array.replicate_succ,Array.replicate_zero,List.push_toArray,List.append_toArray,List.nil_append,List.cons_append]
  gi_wp2_with fail
  refine⟨trivial,(callsIn_wide.2 CC.out).mono ?_⟩;rintro e w1 ⟨rfl,hB1⟩;have HB1:=Lib.hid hB1;clear hB1 CC
  gi_wp2_with fail
  refine⟨trivial,(callsIn_wide.2 (zi8 _ A N ca)).mono ?_⟩;rintro e w' ⟨rfl,rfl⟩
  gi_wp2_with fail
  obtain⟨g,hg⟩:∃ g,w1.heap.size=g:=⟨_,rfl⟩;have hwg:w.heap.size≤g:=by rw[←hg];exact HB1.out.size
  have hBW:Below w.heap.size w (((w1.alloc (.cells (zeQ l fun _=>false) 216)).alloc (.cells #[.slice (some ⟨w1.heap.size,0,none⟩) N N] 212)).alloc (.cells #[.slice A N ca] 67)) :=
    ((HB1.out.alloc HB1.out.size _).alloc (by simp;omega) _).alloc (by simp;omega) _
  have hW1:(((w1.alloc (.cells (zeQ l fun _=>false) 216)).alloc (.cells #[.slice (some ⟨w1.heap.size,0,none⟩) N N] 212)).alloc (.cells #[.slice A N ca] 67)).heap[w1.heap.size]?=some (.cells (zeQ l fun _=>false) 216 (0,0)):=zah _ (zah _ (zae _ _ _ rfl));have hW2:(((w1.alloc (.cells (zeQ l fun _=>false) 216)).alloc (.cells #[.slice (some ⟨w1.heap.size,0,none⟩) N N] 212)).alloc (.cells #[.slice A N ca] 67)).heap[w1.heap.size+1]?=some (.cells #[.slice (some ⟨w1.heap.size,0,none⟩) N N] 212 (0,0)):=zah _ (zae _ _ _ (by simp))
  have hW3:(((w1.alloc (.cells (zeQ l fun _=>false) 216)).alloc (.cells #[.slice (some ⟨w1.heap.size,0,none⟩) N N] 212)).alloc (.cells #[.slice A N ca] 67)).heap[w1.heap.size+1+1]?=some (.cells #[.slice A N ca] 67 (0,0)):=zae _ _ _ (by simp)
  have hWs:(((w1.alloc (.cells (zeQ l fun _=>false) 216)).alloc (.cells #[.slice (some ⟨w1.heap.size,0,none⟩) N N] 212)).alloc (.cells #[.slice A N ca] 67)).heap.size=w1.heap.size+3:=by simp
  rw[hg] at hBW hW1 hW2 hW3 hWs ⊢;generalize ((w1.alloc (.cells (zeQ l fun _=>false) 216)).alloc (.cells #[.slice (some ⟨g,0,none⟩) N N] 212)).alloc (.cells #[.slice A N ca] 67)=W0 at *
  have hvW:=Hv.out.below hBW (Nat.le_refl _);clear hg HB1 hmk
  refine zjj (n:=D) h1D (gf:=229) (lb:=#[.pointer (some ⟨g+1+1,0,none⟩)]) rfl zeW (encs:=zuW) (fun _=>rfl) (zjN l W0.heap.size) (fun k=>k=g)
    (zi7 (D-1) (by omega) (g+1+1) w.heap.size l Hlc.out (fun k=>k=g) (.slice A N ca) W0 hvW hBW.size ((zaa hW3 0).trans rfl) (fun k hk=>by subst hk;exact⟨hwg,by omega,by omega⟩)) (Below.refl _ _)
    (fun pre W=>(W.heap[g]?=some (.cells (zeQ l (ztQ l (pre.map (·.1)))) 216 (0,0))∧Boxed W (g+1) 212 (.slice (some ⟨g,0,none⟩) N N))∧Below w.heap.size w W)
    (fun _ _ _=>False)
    (OwnFrom.and (OwnFrom.and (Own.from (zhY g _ (fun pre:List Lev=>zeQ l (ztQ l (pre.map (·.1))))) _) (Own.from (boxed_own _ _ (fun _=>.slice (some ⟨g,0,none⟩) N N)) _)) (ownFrom_below (Nat.le_refl _) (by omega)))
    (fun _ _ _ _ _ h _ _=>h)
    ⟨⟨by rw[hW1];congr 2,hW2⟩,hBW⟩
    (fun x a' W=>∃ lb,lb≠g∧a' = { tmps:=#[.slice A N ca,undef,.slice none 0 0,.int .i64 0,.int .i64 0,.pointer (some ⟨g+1,0,none⟩),.pointer (some ⟨lb,0,none⟩),undef,undef,.slice A N ca,.int .i64 0,.int .i64 0,.bool false,undef,.slice A N ca,.int .i64 (N:Nat),.slice (some ⟨g,0,none⟩) N N,.slice A N ca,.func (.func 229) #[] #[.pointer (some ⟨g+1+1,0,none⟩)],.agg #[.int .i64 (x.1:Nat),.int .u64 (x.2.1:Nat),x.2.2],undef,undef,undef,undef,undef,undef,undef,undef,undef,undef,undef,undef,undef,undef,undef,undef,undef,undef,undef,undef,undef],defers:=[] } ∧
      W.heap[lb]?=some (.cells #[.int .i64 (x.1:Nat),.int .u64 (x.2.1:Nat),x.2.2] 288 (0,0))∧zjN l W0.heap.size x W)
    (fun x a' s W W' row h hgr hr=>by
      obtain⟨lb,h1,h2,h3,h4,h5,h6,h7⟩:=h;exact⟨lb,h1,h2,zhY lb _ (fun _:Unit=>_) () W W' row h3 hgr (fun r e=>(hr r e).2),h4,h5,zc9 h6 hgr (fun r e=>(hr r e).2),h7⟩)
    ?assign ?body ?done ?stop
  case assign =>
    intro y pre x W K hi hok hlt hK;obtain⟨⟨ho,hb⟩,hB⟩:=hi;obtain⟨n,q,v⟩:=x;have hlo:=zab ho;have h1:W.heap.size≠g:=by omega
    clear hlt hW1 hW2 hW3 hWs hvW hBW;obtain⟨hk1,hk2,hk3,hk4⟩:n∈zaG l 20∧q=2*zaH l (n-1)∧IsInts W W.heap.size v (ints (zbr l n))∧∀ g o m c,v=.slice (some ⟨g,o,none⟩) m c→W0.heap.size≤g:=hok;obtain⟨sq,sc,rfl,hsc,_⟩:=hk3.shape;have Hok:Hid (zjN l W0.heap.size (n,q,.slice sq (ints (zbr l n)).length sc) W):=⟨hk1,hk2,hk3,hk4⟩;have HK:=Lib.hid hK;clear hK hk1 hk2 hk3 hk4;simp only[zuW]
    gi_wp2_with fail
    have hBa:Below W.heap.size W (W.alloc (.cells #[.int .i64 (n:Nat),.int .u64 (q:Nat),.slice sq (ints (zbr l n)).length sc] 288)):=(Below.refl _ W).alloc (Nat.le_refl _) _
    exact HK.out _ _ ((KeepsOthers.alloc W _).from _) ((KeepC.refl _ _).below hBa) ⟨⟨zah _ ho,hb.alloc _⟩,hB.trans (hBa.mono hB.size)⟩
      ⟨W.heap.size,h1,rfl,zae _ _ _ rfl,Hok.out.1,Hok.out.2.1,zc9 Hok.out.2.2.1 (zde hBa) (fun r e=>by cases e),Hok.out.2.2.2⟩
  case body =>
    rintro y pre x a' W ⟨⟨hout,hbox⟩,hB⟩ ⟨lb,hne,rfl,hlv,hok⟩ hlt hlen;obtain⟨n,q,v⟩:=x;obtain⟨hk1,hk2,hk3,hk4⟩:n∈zaG l 20∧q=2*zaH l (n-1)∧IsInts W W.heap.size v (ints (zbr l n))∧∀ g o m c,v=.slice (some ⟨g,o,none⟩) m c→W0.heap.size≤g:=hok;have hn20:=(zcm l 20 n).1 hk1
    have hqb:q≤1048576:=by
      have h1:=zgA l Hlc.out.fits Hlc.out.room (n-1) (by omega)
      have h2:2 ^ (n-1)≤2 ^ 19:=Nat.pow_le_pow_right (by omega) (by omega)
      have h3:(2:Nat) ^ 19=524288:=by decide
      omega
    obtain⟨sq,sc,rfl,hsc,_⟩:=hk3.shape;have hlw:=zaY l n;have hwle:=zdP l n;rw[zad] at hk3 hlv hsc ⊢;rw[HN.out] at hwle;obtain⟨C,hC⟩:∃ C,(zbr l n).length=C:=⟨_,rfl⟩;rw[hC] at hk3 hlv hlw hsc hwle ⊢;have HC:=Lib.hid hC;have Hk3:=Lib.hid hk3;have Hk4:=Lib.hid hk4;have Hws:=Lib.hid hWs;have Hq:=Lib.hid hk2;have Hlv:=Lib.hid hlv;have Hbox:=Lib.hid hbox;have Hlw:=Lib.hid hlw;have hd:1≤D-1-1:=by omega
    have k0:=(zaa hlv 0).trans rfl;have k1:=(zaa hlv 1).trans rfl;have k2:=(zaa hlv 2).trans rfl;have hout2:W.heap[g]?=some (.cells (zeQ l (zdu l (pre.map (·.1)) n 0)) 216 (0,0)):=by rw[zmI];exact hout
    have Hout2:=Lib.hid hout2;clear hlv hbox hk1 hk2 hk3 hk4 hC hlw hout hout2 hW1 hW2 hW3 hvW hBW hlen hWs
    gi_wp2_with fail
    gi_loopw [23] (fun iv wr=>∃ i:Nat,i≤C∧iv=.int .i64 i∧wr.heap[g]?=some (.cells (zeQ l (zdu l (pre.map (·.1)) n i)) 216 (0,0))∧KeepC (fun k=>k=g) W wr∧KeepsOthers W wr∧Below w.heap.size w wr) (fun iv _=>C+1-(intOf iv).toNat)
    case atStart=>exact⟨0,Nat.zero_le _,rfl,Hout2.out,KeepC.refl _ _,KeepsOthers.refl _,hB⟩
    case round =>
      obtain⟨i,hi,rfl,ho,hkc,hko,hB2⟩:=hrel;have Ho:=Lib.hid ho;have Hkc:=Lib.hid hkc;have Hko:=Lib.hid hko;have HB2:=Lib.hid hB2;have hlv2:=hkc.cells hne Hlv.out;have hbx2:=hkc.cells (show ¬ g+1=g by omega) Hbox.out
      clear k0 k1 k2 hkc hko hB hB2 ho Hout2
      by_cases hit:i<C
      · obtain⟨g2,o2,rfl,hg2,hx⟩:=Hk3.out.at i (by rw[zad,HC.out];exact hit)
        have hex:∃ s,(zbr l n)[i]?=some s:=⟨_,List.getElem?_eq_getElem (by rw[HC.out];exact hit)⟩
        obtain⟨s,hs⟩:=hex;have hxe:(ints (zbr l n))[i]?.getD 0=(s:Int):=by simp[ints,hs]
        rw[hxe] at hx;obtain⟨hw1,hw2⟩:=zsB l n i s hs;have hsl:s<l.length:=(List.getElem?_eq_some_iff.1 hw2).1;have hsN:s<N:=by rw[←HN.out];exact hsl
        have hg2n:g2≠g:=by
          have:=Hk4.out g2 o2 _ _ rfl;have h0s:=Hws.out;omega
        have hx2:=Hkc.out.cell (b:=g2) hg2n hx;have k0:=(zaa hlv2 0).trans rfl;have k1:=(zaa hlv2 1).trans rfl;have kb:=(zaa hbx2 0).trans rfl;have hst:=zr1 l (zdu l (pre.map (·.1)) n i) s hsl;rw[←zm7 l (pre.map (·.1)) n i s hs] at hst;have hset:=zaf (zaf Ho.out (s*2) (.int .i64 ((l[s]?.getD 0:Nat):Int))) (s*2+1) (.int .u64 (zcO l s:Int));rw[hst,hw1,←Hq.out,show l[s]?.getD 0=n by rw[hw2];rfl] at hset
        have Hset:=Lib.hid hset;have c0:=(zaa Ho.out (s*2)).trans (zch _ _ _ (by omega))
        have c1:=(zaa Ho.out (s*2+1)).trans (zch _ _ _ (by omega))
        have f0:=zac Ho.out (s*2);have f1:=zac Ho.out (s*2+1);have hgl:=zab Ho.out;generalize zhf l (zdu l (pre.map (·.1)) n i) (s*2)=cv0 at *
        generalize zhf l (zdu l (pre.map (·.1)) n i) (s*2+1)=cv1 at *
        clear hlv2 hbx2 hx hxe hs hw1 hw2 hsl hset hst
        gi_wp2_with fail
        go_roundw
        case rel=>exact⟨i+1,by omega,by go_num,Hset.out,(Hkc.out.set rfl _).set rfl _,(Hko.out.trans (KeepsOthers.setCell _ _ _)).trans (KeepsOthers.setCell _ _ _),(HB2.out.setCell (p:=⟨g,_,none⟩) hwg _).setCell (p:=⟨g,_,none⟩) hwg _⟩
        case measure=>simp[intOf];omega
      · obtain rfl:i=C:=by omega
        have ho2:=Ho.out;rw[Hlw.out,zod] at ho2;have Ho2:=Lib.hid ho2;clear ho2
        gi_wp2_with fail
        exact⟨Hko.out.from _,Hkc.out,⟨by rw[List.map_append];exact Ho2.out,hbx2⟩,HB2.out⟩
  case done =>
    rintro Dd xs W hDd hS ⟨⟨hout,hbox⟩,hB⟩ hK;have hS2:xs.map (·.1)=zaG l 20:=hS;rw[hS2,zmx l Hlc.out.fits] at hout;have hc:=(zaa hbox 0).trans rfl;have Hout:=Lib.hid hout;have hgd:Dd≠g:=by omega
    clear hout hW1 hW2 hW3 hvW hBW
    gi_wp2_with fail
    refine⟨by simp,.inl ⟨_,_,rfl,run_takeDeferred hK,?_⟩⟩
    exact⟨_,results_tmp2 rfl _ _ _,_,rfl,⟨g,N,by rw[HN.out];rfl,(World.putObj_heap_other (fun e=>hgd e.symm)).trans Hout.out⟩,hB.trans (belowK_b (w:=w) (Nat.le_refl _) W Dd _ _ (by omega) hK rfl rfl)⟩
  case stop =>
    rintro D c pre W _ _ h _;exact h.elim
end Go.Proofs.YtoejfkeofbdalaaGreatDoor
namespace Go.Proofs.YtoejfkeofbdalaaGreatDoor
open Go.RowKit
theorem Env.place {w0 W:World} {k:Nat} {cs:Array Value} {t:TypeId} {bs:List (Nat × Array Value × TypeId)} (h:Env w0 W [] ((k,cs,t)::bs)) (hk:w0.heap.size≤k) (hbs:∀ p∈bs,p.1≠k) (i:Nat) (u:Value) :
    Env w0 (W.setCell ⟨k,i,none⟩ u) [] ((k,cs.setIfInBounds i u,t)::bs):=by
  refine⟨⟨h.bel.setCell (p:=⟨k,i,none⟩) hk u,fun p hp=>by simp at hp⟩,fun p hp=>?_⟩
  rcases List.mem_cons.1 hp with rfl | hp
  · exact zaf (h.blk 0 rfl) i u
  · exact (Below.heap_setCell _ _ _ _ (hbs p hp)).trans (h.2 p (List.mem_cons_of_mem _ hp))
def zmL (ls:List (List Bool)) (j:Nat):Value :=
  if j % 2=0 then .string (txt (ls[j / 2]?.getD [])) else .int .i64 (((ls[j / 2]?.getD []).length:Nat):Int)
def zlW (ls:List (List Bool)) (M:Nat):Array Value:=(Array.range (M*2)).map (zmL ls)
theorem zhT (ls:List (List Bool)) (M:Nat):(zlW ls M).size=M*2:=by simp[zlW]
theorem zeh (ls:List (List Bool)) (M:Nat) (j:Nat) (h:j<M*2):(zlW ls M)[j]?=some (zmL ls j):=by simp[zlW,h]
theorem zfh (ls:List (List Bool)) (M:Nat) (j:Nat) (h:¬ j<M*2):(zlW ls M)[j]?=none:=Array.getElem?_eq_none (by rw[zhT];omega)
theorem zqr (M:Nat):zlW [] M=madeCells #[.string ⟨#[]⟩,.int .i64 0] (M*2):=by
  apply Array.ext_getElem?
  intro j
  by_cases hj:j<M*2
  · rw[zeh _ _ _ hj]
    unfold zmL;rcases Nat.mod_two_eq_zero_or_one j with h | h
    · simp[madeCells,hj,h];rfl
    · simp[madeCells,hj,h]
  · rw[zfh _ _ _ hj,Array.getElem?_eq_none (by rw[size_madeCells];omega)]
theorem ztf (ls:List (List Bool)) (b:List Bool) (M i:Nat) (hi:i<M) (hl:ls.length=i) :
    ((zlW ls M).setIfInBounds (i*2) (.string (txt b))).setIfInBounds (i*2+1) (.int .i64 ((b.length:Nat):Int))=zlW (ls++[b]) M:=by
  apply Array.ext_getElem?
  intro j;rw[Array.getElem?_setIfInBounds,Array.getElem?_setIfInBounds,Array.size_setIfInBounds,zhT]
  by_cases hj:j<M*2
  · rw[zeh _ _ _ hj,zeh _ _ _ hj]
    by_cases h1:i*2+1=j
    · subst h1
      rw[if_pos rfl,if_pos hj];unfold zmL;rw[if_neg (by omega),show (i*2+1) / 2=i by omega]
      simp[←hl]
    · rw[if_neg h1]
      by_cases h2:i*2=j
      · subst h2
        rw[if_pos rfl,if_pos hj];unfold zmL;rw[if_pos (by omega),show i*2 / 2=i by omega]
        simp[←hl]
      · rw[if_neg h2]
        unfold zmL
        have:(ls++[b])[j / 2]?=ls[j / 2]?:=by
          rcases Nat.lt_or_ge (j / 2) ls.length with h3 | h3
          · rw[List.getElem?_append_left h3]
          · rw[List.getElem?_eq_none h3,List.getElem?_eq_none (by simp;omega)]
        rw[this]
  · rw[zfh _ _ _ hj,zfh _ _ _ hj,if_neg (by omega),if_neg (by omega)]
theorem zsx (ls:List (List Bool)):(zlW ls ls.length).toList=zam (ls.map zaC):=by
  apply List.ext_getElem?
  intro j;rw[Array.getElem?_toList]
  by_cases hj:j<ls.length*2
  · rw[zeh _ _ _ hj]
    have hl:j / 2<ls.length:=by omega
    have hp:(ls.map zaC)[j / 2]?=some (zaC ls[j / 2]):=by simp[hl]
    obtain⟨h1,h2⟩:=zga (ls.map zaC) (j / 2) _ hp;unfold zmL;rw[List.getElem?_eq_getElem hl];rcases Nat.mod_two_eq_zero_or_one j with h | h
    · rw[if_pos h]
      rw[show j / 2*2=j by omega] at h1
      rw[h1];rfl
    · rw[if_neg (by omega)]
      rw[show j / 2*2+1=j by omega] at h2
      rw[h2];rfl
  · rw[zfh _ _ _ hj,List.getElem?_eq_none (by rw[zdr,List.length_map];omega)]
theorem zjh {c:World} {k n:Nat} {ls:List (List Bool)} {t:TypeId} (h:c.heap[k]?=some (.cells (zlW ls n) t (0,0))) (hn:ls.length=n) (hl:n≤maxLen):zeB c c.heap.size (.slice (some ⟨k,0,none⟩) n n) (ls.map zaC):=by
  subst hn;unfold zeB;rw[List.length_map];have hs:=zhT ls ls.length;refine⟨by rw[zdr,List.length_map],_,_,rfl,Nat.le_refl _,hl,fun _=>⟨k,0,rfl,zab h,fun j hj=>?_⟩⟩
  rw[zaa h,Nat.zero_add,←zsx,Array.getElem?_toList];exact id
theorem zaP {fn:Func} {p q:Tmp} {ty:TypeId} (h:fn.results=#[.cell p ty,.tmp q]) (tmps:Array Value) (P:Program) (w:World) (a:Addr) (v:Value) (hp:tmps.getD p undef=.pointer (some a)) (hl:(loadVar ty a).run P w=.ok v w) :
    (results fn tmps).run P w=.ok (.tuple #[v,tmps.getD q undef]) w:=by
  have hp':tmps[p]?.getD undef=.pointer (some a):=by simpa using hp
  simp[results,h,hp',asAddr,hl]
theorem zcN (k:Nat) (w:World) (a b:Value) (h:w.heap[k]?=some (.cells #[a,b] 50 (0,0))):(loadVar 50 ⟨k,0,none⟩).run Tryz.prog w=.ok (.agg #[a,b]) w:=by
  have c0:=(zaa h 0).trans rfl;have c1:=(zaa h 1).trans rfl
  go_simp
theorem zk7:(Tryz.prog.info? 50).map (fun i=>(i.zero,i.size,i.bytes))=some (some (.agg #[.string ⟨#[]⟩,.int .i64 0]),2,24):=by kernel_rfl
theorem zjB (M:Nat) (hn:M≤1000000):∀ W,(Instr.makeSlice 106 (.int .i64 (M:Int)) (.int .i64 (M:Int))).run Tryz.prog W=.ok (.slice (some ⟨W.heap.size,0,none⟩) M M) (W.alloc (.cells (zlW [] M) 50)):=fun W=>by
  obtain⟨i0,hi,hz0,hz1,hz2⟩:=info_parts zk7;have:=run_make (P:=Tryz.prog) W 106 50 i0 (.agg #[.string ⟨#[]⟩,.int .i64 0]) Tryz.underlying106 hi hz0 .i64 .i64 M M (by omega) (by omega) (by rw[hz2];omega) (by omega)
  rw[hz1,Int.toNat_natCast] at this;rw[zqr];exact this
def zdn (l:List Nat) (m:List Int):List Bool × Int:=if ∀ x∈m,0≤x∧x<l.length then (zit l (m.map Int.toNat),0) else ([],5)
def zb8 (l:List Nat) (m:List Int) (i:Nat):List (List Bool):=(m.take i).map fun x=>zel l x.toNat
theorem zkG (l:List Nat) (m:List Int) (i s:Nat) (h:m[i]?=some (s:Int)):zb8 l m (i+1)=zb8 l m i++[zel l s]:=by
  unfold zb8;rw[List.take_add_one,h];simp
theorem zh7 (l:List Nat) (m:List Int) (i:Nat) (h:i≤m.length):(zb8 l m i).length=i:=by simp[zb8];omega
theorem zl2 (l:List Nat) (m:List Int):(zb8 l m m.length).flatten=zit l (m.map Int.toNat):=by
  unfold zb8 zit;rw[List.take_length,List.flatMap_def,List.map_map];rfl
theorem zsZ (w:World) (v1 v2:Value) (l:List Nat) (m:List Int) (hv:IsInts w w.heap.size v1 (ints l)) (hl:Code l) (hv2:IsInts w w.heap.size v2 m) (hm:m.length≤1000000) (hr:I64s m) :
    Calls Tryz.prog 62 #[v1,v2] w fun e w'=>e=.returned (.tuple #[.agg #[.string (txt (zdn l m).1),.int .i64 ((zdn l m).1.length:Nat)],.int .i64 (zdn l m).2])∧Below w.heap.size w w':=by
  obtain⟨A,ca,rfl,hc1,hc2⟩:=hv.shape;obtain⟨A2,ca2,rfl,hc3,hc4⟩:=hv2.shape;have hli:=zad l;obtain⟨N,hN⟩:∃ N,l.length=N:=⟨_,rfl⟩;obtain⟨M,hM⟩:∃ M,m.length=M:=⟨_,rfl⟩;have CW:Hid (∀ W,Below w.heap.size w W→Calls Tryz.prog 123 #[.slice A (ints l).length ca] W fun e w'=>∃ u,e=.returned (.tuple #[u,.int .i64 0])∧zpC w' u l∧Below W.heap.size W w'):=fun W hB=>zsL W _ l (zwb hv hB) hl;rw[hM] at hm hc3 hv2 ⊢;rw[hli,hN] at CW hc1 ⊢;have hN258:N≤258:=by rw[←hN];exact hl.most
  have hmk:=zjB M hm;have Hmk:=Lib.hid hmk;have Hv2:=Lib.hid hv2;have HN:=Lib.hid hN;have HM:=Lib.hid hM;have Hlc:=Lib.hid hl;have Hr:=Lib.hid hr;clear hv hv2 hN hl hli hmk hr hM
  go_enter Tryz.func62,Tryz.ntmps62
  go_wp2_with fail
  refine (CW.out _ ((Below.refl _ w).alloc (Nat.le_refl _) _)).mono ?_;rintro e w1 ⟨_,rfl,⟨g,cg,rfl,hg⟩,hB1⟩;have E1:=Lib.hid (((Env.nil w).box #[.string ⟨#[]⟩,.int .i64 0] 50 w.heap.size rfl).fresh hB1 hg);rw[HN.out];clear hB1 CW hg;have hmk:=Hmk.out
  go_wp2_with fail
  obtain⟨mb,hmb⟩:∃ mb,w1.heap.size=mb:=⟨_,rfl⟩;have E2:=Lib.hid (E1.out.box (zlW [] M) 50 mb hmb.symm);have g1:=E1.out.lt 0 rfl;have g2:=E1.out.lt 1 rfl;have g3:=E1.out.size;rw[hmb] at g1 g2 g3 ⊢;have n1:¬ g=mb:=by omega
  have n2:¬ mb=g:=by omega
  clear hmk Hmk E1 hmb
  go_loopw [25] (fun iv wr=>∃ i:Nat,i≤M∧iv=.int .i64 i∧(∀ x∈m.take i,0≤x∧x<l.length)∧Env w wr [] [(mb,zlW (zb8 l m i) M,50),(g,zeQ l fun _=>true,216),(w.heap.size,#[.string ⟨#[]⟩,.int .i64 0],50)]) (fun iv _=>M+1-(intOf iv).toNat)
  case atStart=>exact⟨0,Nat.zero_le _,rfl,fun x hx=>by simp at hx,E2.out⟩
  case round =>
    obtain⟨i,hi,rfl,hgood,hE⟩:=hrel;have HE:=Lib.hid hE;have Hgood:=Lib.hid hgood;have hlw:=zh7 l m i (by rw[HM.out];exact hi)
    have b0:=HE.out.cellv 2 rfl 0 _ rfl;have b1:=HE.out.cellv 2 rfl 1 _ rfl;have fb0:=HE.out.frozen 2 rfl 0;have fb1:=HE.out.frozen 2 rfl 1;have hbl:=HE.out.lt 2 rfl;clear hE hgood E2
    by_cases hit:i<M
    · have hv2:=HE.out.old Hv2.out
      obtain⟨g4,o4,rfl,hg4,hx⟩:=hv2.at i (by rw[HM.out];exact hit)
      obtain⟨x,hxm⟩:∃ x,m[i]?=some x:=⟨_,List.getElem?_eq_getElem (by rw[HM.out];exact hit)⟩
      rw[hxm,Option.getD_some] at hx;have hrx:=Hr.out x (List.mem_of_getElem? hxm);clear hv2
      by_cases hbad:0≤x∧x<N
      · obtain⟨s,rfl⟩:∃ s:Nat,x=s:=⟨x.toNat,by omega⟩
        have hsN:s<N:=by omega
        obtain⟨n,hn⟩:∃ n,l[s]?=some n:=⟨_,List.getElem?_eq_getElem (by rw[HN.out];exact hsN)⟩
        have hn20:=Hlc.out.fits n (List.mem_of_getElem? hn);have hvlt:=znj Hlc.out hn;have hp20:2 ^ n≤2 ^ 20:=Nat.pow_le_pow_right (by omega) hn20.2
        have h20:(2:Nat) ^ 20=1048576:=by decide
        have CP:Hid (∀ W,Calls Tryz.prog 19 #[.agg #[.string ⟨#[]⟩,.int .i64 0],.int .u64 (zcO l s:Nat),.int .i64 (n:Nat)] W fun e w'=>e=.returned (.tuple #[.agg #[.string (txt (zel l s)),.int .i64 ((zel l s).length:Nat)],.int .i64 0])∧Below W.heap.size W w'):=fun W =>
          zg5 W (zcO l s) n (zel l s) (by unfold zel;rw[hn];rfl) (by omega) (by omega)
        have Kc:Hid (∀ {W:World},Env w W [] [(mb,zlW (zb8 l m i) M,50),(g,zeQ l fun _=>true,216),(w.heap.size,#[.string ⟨#[]⟩,.int .i64 0],50)]→W.cell? ⟨g,s*2,none⟩=some (.int .i64 (n:Nat))):=fun h=>by
          refine h.cellv 1 rfl (s*2) _ ?_;rw[zch _ _ _ (by rw[HN.out];omega)]
          unfold zhf;rw[if_pos (by omega),show s*2 / 2=s by omega,hn]
          rfl
        have Kd:Hid (∀ {W:World},Env w W [] [(mb,zlW (zb8 l m i) M,50),(g,zeQ l fun _=>true,216),(w.heap.size,#[.string ⟨#[]⟩,.int .i64 0],50)]→W.cell? ⟨g,s*2+1,none⟩=some (.int .u64 (zcO l s:Nat))):=fun h=>by
          refine h.cellv 1 rfl (s*2+1) _ ?_;rw[zch _ _ _ (by rw[HN.out];omega)]
          unfold zhf;rw[if_neg (by omega),show (s*2+1) / 2=s by omega]
          rfl
        have hset:=ztf (zb8 l m i) (zel l s) M i hit hlw;rw[←zkG l m i s hxm] at hset;have Hset:=Lib.hid hset
        have Hnx:Hid (∀ x∈m.take (i+1),0≤x∧x<l.length):=fun x hx=>by
          rw[List.take_add_one,hxm,List.mem_append] at hx;rcases hx with hx | hx
          · exact Hgood.out x hx
          · simp at hx
            rw[HN.out];omega
        have k0:=Kc.out HE.out;have k1:=Kd.out HE.out;clear hxm hrx hbad hn hvlt hp20 h20 hset hlw Hgood;obtain⟨v,hv⟩:∃ v,zcO l s=v:=⟨_,rfl⟩;rw[hv] at k1 CP Kd;generalize hwB:zel l s=wB at *
        clear hv hwB
        go_wp2_with fail
        refine wp_region_noPanic ?_;refine wp_region_held_drew (S:=(fun w'=>w'.cell? ⟨g,s*2,none⟩=some (.int .i64 (n:Nat))∧w'.cell? ⟨g,s*2+1,none⟩=some (.int .u64 (v:Nat)))) (by kernel_rfl) ?_ (fun hHeld=>?_)
        · (refine⟨?_,?_⟩ <;> (go_simp;try assumption))
        refine zay (v:=?_) 0 (by simp only[List.getElem?_toArray,List.getElem?_cons_zero];rfl) (by kernel_rfl) (fun _ _ _ h=>h) (by rfl) (by assumption) ?_ ?_
        rotate_left
        · (intro w hSw;(try dsimp only at hSw);go_simp;try with_reducible rfl)
        try simp only[Act.put,List.setIfInBounds_toArray,List.set_cons_zero,List.set_cons_succ]
        refine zay (v:=?_) 1 (by simp only[List.getElem?_toArray,List.getElem?_cons_succ,List.getElem?_cons_zero];rfl) (by kernel_rfl) (fun _ _ _ h=>h) (by rfl) (by assumption) ?_ ?_
        rotate_left
        · (intro w hSw;(try dsimp only at hSw);go_simp;try with_reducible rfl)
        try simp only[Act.put,List.setIfInBounds_toArray,List.set_cons_zero,List.set_cons_succ]
        refine zay (v:=?_) 2 (by simp only[List.getElem?_toArray,List.getElem?_cons_succ,List.getElem?_cons_zero];rfl) (by kernel_rfl) (fun _ _ _ h=>h) (by rfl) (by assumption) ?_ ?_
        rotate_left
        · (intro w hSw;(try dsimp only at hSw);go_simp;try with_reducible rfl)
        try simp only[Act.put,List.setIfInBounds_toArray,List.set_cons_zero,List.set_cons_succ]
        refine zay (v:=?_) 3 (by simp only[List.getElem?_toArray,List.getElem?_cons_succ,List.getElem?_cons_zero];rfl) (by kernel_rfl) (fun _ _ _ h=>h) (by rfl) (by assumption) ?_ ?_
        rotate_left
        · (intro w hSw;(try dsimp only at hSw);go_simp;try with_reducible rfl)
        try simp only[Act.put,List.setIfInBounds_toArray,List.set_cons_zero,List.set_cons_succ]
        refine zay (v:=?_) 4 (by simp only[List.getElem?_toArray,List.getElem?_cons_succ,List.getElem?_cons_zero];rfl) (by kernel_rfl) (fun _ _ _ h=>h) (by rfl) (by assumption) ?_ ?_
        rotate_left
        · (intro w hSw;(try dsimp only at hSw);go_simp;try with_reducible rfl)
        try simp only[Act.put,List.setIfInBounds_toArray,List.set_cons_zero,List.set_cons_succ]
        refine zay (v:=?_) 5 (by simp only[List.getElem?_toArray,List.getElem?_cons_succ,List.getElem?_cons_zero];rfl) (by kernel_rfl) (fun _ _ _ h=>h) (by rfl) (by assumption) ?_ ?_
        rotate_left
        · (intro w hSw;(try dsimp only at hSw);go_simp;try with_reducible rfl)
        try simp only[Act.put,List.setIfInBounds_toArray,List.set_cons_zero,List.set_cons_succ]
        refine zay (v:=?_) 6 (by simp only[List.getElem?_toArray,List.getElem?_cons_succ,List.getElem?_cons_zero];rfl) (by kernel_rfl) (fun _ _ _ h=>h) (by rfl) (by assumption) ?_ ?_
        rotate_left
        · (intro w hSw;(try dsimp only at hSw);go_simp;try with_reducible rfl)
        try simp only[Act.put,List.setIfInBounds_toArray,List.set_cons_zero,List.set_cons_succ]
        refine zay (v:=?_) 7 (by simp only[List.getElem?_toArray,List.getElem?_cons_succ,List.getElem?_cons_zero];rfl) (by kernel_rfl) (fun _ _ _ h=>h) (by rfl) (by assumption) ?_ ?_
        rotate_left
        · (intro w hSw;(try dsimp only at hSw);go_simp;try with_reducible rfl)
        try simp only[Act.put,List.setIfInBounds_toArray,List.set_cons_zero,List.set_cons_succ]
        refine zay (v:=?_) 8 (by simp only[List.getElem?_toArray,List.getElem?_cons_succ,List.getElem?_cons_zero];rfl) (by kernel_rfl) (fun _ _ _ h=>h) (by rfl) (by assumption) ?_ ?_
        rotate_left
        · (intro w hSw;(try dsimp only at hSw);go_simp;try with_reducible rfl)
        try simp only[Act.put,List.setIfInBounds_toArray,List.set_cons_zero,List.set_cons_succ]
        refine zay (v:=?_) 9 (by simp only[List.getElem?_toArray,List.getElem?_cons_succ,List.getElem?_cons_zero];rfl) (by kernel_rfl) (fun _ _ _ h=>h) (by rfl) (by assumption) ?_ ?_
        rotate_left
        · (intro w hSw;(try dsimp only at hSw);go_simp;try with_reducible rfl)
        try simp only[Act.put,List.setIfInBounds_toArray,List.set_cons_zero,List.set_cons_succ]
        refine zay (v:=?_) 10 (by simp only[List.getElem?_toArray,List.getElem?_cons_succ,List.getElem?_cons_zero];rfl) (by kernel_rfl) (fun _ _ _ h=>h) (by rfl) (by assumption) ?_ ?_
        rotate_left
        · (intro w hSw;(try dsimp only at hSw);go_simp;try with_reducible rfl)
        try simp only[Act.put,List.setIfInBounds_toArray,List.set_cons_zero,List.set_cons_succ]
        refine zay (v:=?_) 11 (by simp only[List.getElem?_toArray,List.getElem?_cons_succ,List.getElem?_cons_zero];rfl) (by kernel_rfl) (fun _ _ _ h=>h) (by rfl) (by assumption) ?_ ?_
        rotate_left
        · (intro w hSw;(try dsimp only at hSw);go_simp;try with_reducible rfl)
        try simp only[Act.put,List.setIfInBounds_toArray,List.set_cons_zero,List.set_cons_succ]
        refine zay (v:=?_) 12 (by simp only[List.getElem?_toArray,List.getElem?_cons_succ,List.getElem?_cons_zero];rfl) (by kernel_rfl) (fun _ _ _ h=>h) (by rfl) (by assumption) ?_ ?_
        rotate_left
        · (intro w hSw;(try dsimp only at hSw);go_simp;try with_reducible rfl)
        try simp only[Act.put,List.setIfInBounds_toArray,List.set_cons_zero,List.set_cons_succ]
        refine za4 13 (by simp only[List.getElem?_toArray,List.getElem?_cons_succ,List.getElem?_cons_zero];rfl) (by kernel_rfl) (by rfl) (fun K hK=>?_)
        go_simp
        go_at_call 19
        refine (CP.out _).mono ?_;rintro e w8 ⟨rfl,hB8⟩;have E8:=Lib.hid (HE.out.drew.step hB8);clear hB8;have k0:=Kc.out E8.out;have k1:=Kd.out E8.out;have c0:=E8.out.cellv 0 rfl (i*2) _ (zeh _ _ _ (by omega))
        have c1:=E8.out.cellv 0 rfl (i*2+1) _ (zeh _ _ _ (by omega))
        have f0:=E8.out.frozen 0 rfl (i*2);have f1:=E8.out.frozen 0 rfl (i*2+1);have hml:=E8.out.lt 0 rfl;refine hK.out _ _ ?_ (fun hHeld=>?_)
        · (refine⟨?_,?_⟩ <;> (go_simp;try assumption))
        clear hK K
        try simp only[Act.put,List.setIfInBounds_toArray,List.set_cons_zero,List.set_cons_succ]
        refine zay (v:=?_) 14 (by simp only[List.getElem?_toArray,List.getElem?_cons_succ,List.getElem?_cons_zero];rfl) (by kernel_rfl) (fun _ _ _ h=>h) (by rfl) (by assumption) ?_ ?_
        rotate_left
        · (intro w hSw;(try dsimp only at hSw);go_simp;try with_reducible rfl)
        try simp only[Act.put,List.setIfInBounds_toArray,List.set_cons_zero,List.set_cons_succ]
        refine zay (v:=?_) 15 (by simp only[List.getElem?_toArray,List.getElem?_cons_succ,List.getElem?_cons_zero];rfl) (by kernel_rfl) (fun _ _ _ h=>h) (by rfl) (by assumption) ?_ ?_
        rotate_left
        · (intro w hSw;(try dsimp only at hSw);go_simp;try with_reducible rfl)
        try simp only[Act.put,List.setIfInBounds_toArray,List.set_cons_zero,List.set_cons_succ]
        refine zay (v:=?_) 16 (by simp only[List.getElem?_toArray,List.getElem?_cons_succ,List.getElem?_cons_zero];rfl) (by kernel_rfl) (fun _ _ _ h=>h) (by rfl) (by assumption) ?_ ?_
        rotate_left
        · (intro w hSw;(try dsimp only at hSw);go_simp;try with_reducible rfl)
        try simp only[Act.put,List.setIfInBounds_toArray,List.set_cons_zero,List.set_cons_succ]
        refine zay (v:=?_) 17 (by simp only[List.getElem?_toArray,List.getElem?_cons_succ,List.getElem?_cons_zero];rfl) (by kernel_rfl) (fun _ _ _ h=>h) (by rfl) (by assumption) ?_ ?_
        rotate_left
        · (intro w hSw;(try dsimp only at hSw);go_simp;try with_reducible rfl)
        try simp only[Act.put,List.setIfInBounds_toArray,List.set_cons_zero,List.set_cons_succ]
        refine za4 18 (by simp only[List.getElem?_toArray,List.getElem?_cons_succ,List.getElem?_cons_zero];rfl) (by kernel_rfl) (by rfl) (fun K hK=>?_)
        go_simp
        skip
        refine hK.out _ _ ?_ (fun hHeld=>?_)
        · (refine⟨?_,?_⟩ <;> (go_simp;try assumption))
        clear hK K
        try simp only[Act.put,List.setIfInBounds_toArray,List.set_cons_zero,List.set_cons_succ]
        refine wpAnyH_done (by kernel_rfl) ?_ _
        refine NoPanic.normal ?_
        go_wp2_with fail
        go_roundw
        case rel=>exact⟨i+1,by omega,by go_num,Hnx.out,by
          have h2:=(E8.out.place (by omega) (fun p hp=>by simp at hp;rcases hp with rfl | rfl <;> simp <;> omega) (i*2) (.string (txt wB))).place (by omega) (fun p hp=>by simp at hp;rcases hp with rfl | rfl <;> simp <;> omega) (i*2+1) (.int .i64 ((wB.length:Nat):Int))
          rw[Hset.out] at h2;exact h2⟩
        case measure=>simp[intOf];omega
      · have hno:Hid (zdn l m=([],5)):=by
          show _=_
          unfold zdn;rw[if_neg];intro h;have:=h x (List.mem_of_getElem? hxm);rw[HN.out] at this;exact hbad this
        clear hxm hlw Hgood
        by_cases hx0:x<0
        · clear hbad
          go_wp2_with fail
          refine bodyPost_ret (zaP rfl _ _ _ ⟨w.heap.size,0,none⟩ _ rfl (zcN _ _ _ _ (zwg (HE.out.blk 2 rfl) _ _))) rfl ?_;exact⟨by rw[hno.out];rfl,(HE.out.bel.setCell (p:=⟨w.heap.size,0,none⟩) (Nat.le_refl _) _).setCell (p:=⟨w.heap.size,1,none⟩) (Nat.le_refl _) _⟩
        · have hxN:(N:Int)≤x:=by omega
          clear hbad
          go_wp2_with fail
          refine bodyPost_ret (zaP rfl _ _ _ ⟨w.heap.size,0,none⟩ _ rfl (zcN _ _ _ _ (zwg (HE.out.blk 2 rfl) _ _))) rfl ?_;exact⟨by rw[hno.out];rfl,(HE.out.bel.setCell (p:=⟨w.heap.size,0,none⟩) (Nat.le_refl _) _).setCell (p:=⟨w.heap.size,1,none⟩) (Nat.le_refl _) _⟩
    · obtain rfl:i=M:=by omega
      have hyes:Hid (zdn l m=(zit l (m.map Int.toNat),0)):=by
        show _=_
        unfold zdn;rw[if_pos];have:=Hgood.out;rw[←HM.out,List.take_length] at this;exact this
      have hlp:=zes Hlc.out.fits (m.map Int.toNat);rw[List.length_map,HM.out] at hlp;have hpr:=zjh (HE.out.blk 0 rfl) hlw (Nat.le_trans hm (by decide))
      have CC:Hid (Calls Tryz.prog 20 #[.slice (some ⟨mb,0,none⟩) i i] wr fun e w' =>
        e=.returned (.tuple #[.agg #[.string (txt (zit l (m.map Int.toNat))),.int .i64 ((zit l (m.map Int.toNat)).length:Nat)],.int .i64 0])∧Below wr.heap.size wr w') :=
        zkE wr _ (zb8 l m i) _ (by rw[←HM.out];exact zl2 l m) hpr (by rw[hlw];omega)
      clear hpr hlw Hgood hlp;generalize zit l (m.map Int.toNat)=r at *
      go_wp2_with fail
      refine CC.out.mono ?_;rintro e w8 ⟨rfl,hB8⟩;have E8:=Lib.hid (HE.out.step hB8);have c0:=E8.out.cellv 2 rfl 0 _ rfl;have c1:=E8.out.cellv 2 rfl 1 _ rfl;have d0:=E8.out.frozen 2 rfl 0;have d1:=E8.out.frozen 2 rfl 1;have dl:=E8.out.lt 2 rfl;clear hB8 CC
      go_wp2_with fail
      refine bodyPost_ret (zaP rfl _ _ _ ⟨w.heap.size,0,none⟩ _ rfl (zcN _ _ _ _ (zwg (E8.out.blk 2 rfl) _ _))) rfl ?_;exact⟨by rw[hyes.out];rfl,(E8.out.bel.setCell (p:=⟨w.heap.size,0,none⟩) (Nat.le_refl _) _).setCell (p:=⟨w.heap.size,1,none⟩) (Nat.le_refl _) _⟩
end Go.Proofs.YtoejfkeofbdalaaGreatDoor
