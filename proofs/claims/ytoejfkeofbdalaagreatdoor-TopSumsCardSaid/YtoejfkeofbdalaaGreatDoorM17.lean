import Derived.Test.YtoejfkeofbdalaaGreatDoorM14
import Derived.Test.YtoejfkeofbdalaaGreatDoorM16
import Derived.Lib.OthersKept
import Derived.Defers
import Derived.RegionTactic
import Derived.Laws.Pointers
set_option linter.unusedVariables false
set_option maxRecDepth 100000
set_option maxHeartbeats 8000000
namespace Go.Proofs.YtoejfkeofbdalaaGreatDoor
open Go.RowKit Go.Shelf
attribute [local go_sem] Oper.semAt_some
abbrev Lev:=Nat × Nat × Value
def zuW (x:Lev):Array Value:=#[.agg #[.int .i64 (x.1:Nat),.int .u64 (x.2.1:Nat),x.2.2]]
def zjN (l:List Nat) (lo:Nat) (x:Lev) (W:World):Prop:=x.1∈zaG l 20∧x.2.1=2*zaH l (x.1-1)∧IsInts W W.heap.size x.2.2 (ints (zbr l x.1))∧∀ g o n c,x.2.2=.slice (some ⟨g,o,none⟩) n c→lo≤g
theorem zvf {w:World} {base:Nat} {v:Value} {xs:List Int} (h:OwnInts w base v xs):∀ g o n c,v=.slice (some ⟨g,o,none⟩) n c→base≤g:=by
  rintro g o n c rfl;rcases h.2 with ⟨h1,_⟩ | ⟨k,cap,cur,h1,h2,_⟩
  · cases h1
  · injection h1 with h1
    injection h1 with h1
    injection h1 with h1
    omega
def LevAt (l:List Nat) (pre:List Lev) (k:Nat):Prop:=pre.map (·.1)=zaG l k
theorem LevAt.zero (l:List Nat):LevAt l [] 0:=rfl
theorem LevAt.no {l:List Nat} {pre:List Lev} {k:Nat} (h:LevAt l pre k) (hc:l.count (k+1)=0):LevAt l pre (k+1):=by
  unfold LevAt at *
  rw[h,zb2,if_neg (by omega),List.append_nil]
theorem LevAt.yes {l:List Nat} {pre:List Lev} {k:Nat} (h:LevAt l pre k) (hc:0<l.count (k+1)) (q:Nat × Value):LevAt l (pre++[(k+1,q)]) (k+1):=by
  unfold LevAt at *
  rw[List.map_append,h,zb2,if_pos hc];rfl
theorem LevAt.len {l:List Nat} {pre:List Lev} {k:Nat} (h:LevAt l pre k) (hc:0<l.count (k+1)) (hk:k<20):pre.length<(zaG l 20).length:=by
  have h1:=zcS l (show k+1≤20 from hk)
  rw[zb2,if_pos hc] at h1;have h2:=h1.length_le;unfold LevAt at h;have h3:=congrArg List.length h;rw[List.length_map] at h3;rw[List.length_append] at h2;simp at h2;omega
theorem LevAt.pre {l:List Nat} {pre:List Lev} {k:Nat} (h:LevAt l pre k) (hk:k≤20):pre.map (·.1) <+: zaG l 20:=by
  unfold LevAt at h;rw[h];exact zcS l hk
theorem zi8 (w:World) (A:Option Addr) (n c:Nat) :
    Calls Tryz.prog 173 #[.slice A n c] w fun e w'=>e=.returned (.func (.func 229) #[] #[.pointer (some ⟨w.heap.size,0,none⟩)])∧w.alloc (.cells #[.slice A n c] 67)=w':=by
  have hmf:=hmf
  go_enter Tryz.func173,Tryz.ntmps173
  go_wp2
  go_ret
  exact⟨rfl,rfl⟩
theorem znQ {l:List Nat} {n i:Nat} (h:¬ l[i]?.getD 0=n) (hi:i<l.length):zbl l n (i+1)=zbl l n i:=by
  rw[zdY,if_neg (fun e=>h (by rw[e];rfl)),List.append_nil]
theorem zn8 {l:List Nat} {n i:Nat} (h:l[i]?.getD 0=n) (hi:i<l.length):zbl l n (i+1)=zbl l n i++[i]:=by
  rw[zdY,if_pos (by rw[List.getElem?_eq_getElem hi] at h ⊢;simpa using h)]
theorem zfS (l:List Nat) (n i:Nat):(zbl l n i).length≤i:=by
  unfold zbl;have:=List.length_filter_le (fun s=>l[s]? == some n) (List.range i);simpa using this
theorem zuh {w:World} {base g i:Nat} {v u:Value} {xs:List Int} (h:OwnInts w base v xs) (hg:g<base:=by omega):OwnInts (w.setCell ⟨g,i,none⟩ u) base v xs:=by
  refine⟨h.1,?_⟩;rcases h.2 with h0 | ⟨k,cap,cur,e1,e2,e3,e4⟩
  · exact .inl h0
  · exact .inr ⟨k,cap,cur,e1,e2,(Below.heap_setCell w ⟨g,i,none⟩ u k (by show k≠g;omega)).trans e3,e4⟩
theorem ztl (l:List Nat) (i:Nat):ints (l++[i])=ints l++[(i:Int)]:=by simp[ints]
theorem zeP {n:Nat} {w:World} {ops:Array Oper} {rest:List Oper} {o:Oper} {a:Act} {Q:Exit→Act→World→Prop} (hgd:o.guard=none) (s x:Operand)
    (ho:o.op=.call { callee:=.builtin .append,args:=#[s,x],argTypes:=#[67,67] })
    (base:Nat) (v:Value) (xs:List Int) (hs:a.eval s=v) (hown:OwnInts w base v xs) (k:Nat) (y:Int) (hx:a.eval x=.slice (some ⟨k,0,none⟩) 1 1) (hr:w.heap[k]?=some (.cells #[.int .i64 y] 3 (0,0)))
    (hlen:xs.length≤1099511627776) (hbase:base≤w.heap.size)
    (h:∀ q c w',OwnInts w' base (.slice q (xs.length+1) c) (xs++[y])→w.grownBy w' v.ownBlock→wpListIn Fence.wide n Tryz.prog ops Q rest (a.put o.dst (.slice q (xs.length+1) c)) w') :
    wpListIn Fence.wide n Tryz.prog ops Q (o::rest) a w:=by
  obtain⟨i0,hi,hz0,hz1,hz2⟩:=info_parts zcq;refine wpListIn_append_own _ hgd s x 67 ho base 3 i0 (.int .i64 0) 1 8 Tryz.underlying67 hi hz0 hz1 hz2 rfl (by decide) v xs.length (zaj xs) hs hown ⟨k,0,none⟩ 1 1 [.int .i64 y] hx rfl (fun j u hu=>?_) (by simp[Value.oneCell']) (by unfold maxLen;omega) (by omega) hbase ?_
  · match j,hu with
    | 0,hu =>
      simp at hu;subst hu;rw[zgQ,Nat.zero_add,zaa hr];rfl
  · intro v' w' h2 h3 _
    have h5:OwnInts w' base v' (xs++[y]):=by
      unfold OwnInts;rw[List.length_append,zcu];exact h2
    obtain⟨q,c,rfl⟩:=h5.shape;rw[List.length_append] at *
    exact h q c w' h5 h3
theorem zqd (n:Nat) (hn:3≤n) (y b B lo:Nat) (l:List Nat) (hl:Code l) (bad:Nat→Prop) (J Jx:List Lev→World→Prop) (v:Value) (W:World) (hvW:IsInts W B v (ints l)) (hbW:W.cell? ⟨b,0,none⟩=some v)
    (hbad:∀ k,bad k→B≤k∧k≠b∧k<W.heap.size)
    (hJ:∀ s A C,J s A→Below A.heap.size A C→J s C) (hJx:∀ s A C,Jx s A→Below A.heap.size A C→Jx s C)
    (hY:∀ pre x W1,J pre W1→pre.length<(zaG l 20).length→zjN l lo x W1→YieldAt Fence.wide (n-1) Tryz.prog y (zuW x) W1 fun e W'=>(e=.returned (.bool true)∧J (pre++[x]) W'∧KeepC bad W1 W'∧W1.heap.size≤W'.heap.size)∨(e=.returned (.bool false)∧Jx (pre++[x]) W'))
    (hlo:lo≤W.heap.size) (h0:J [] W) :
    CallsIn Fence.wide n Tryz.prog 229 #[.func (.yield y) #[] #[],.pointer (some ⟨b,0,none⟩)] W fun e W'=>(∃ v,e=.returned v)∧((∃ xs,xs.map (·.1)=zaG l 20∧J xs W')∨(∃ pre,pre.map (·.1) <+: zaG l 20∧Jx pre W')):=by
  obtain⟨A,ca,rfl,hc1,hc2⟩:=hvW.shape;have hli:=zad l;obtain⟨N,hN⟩:∃ N,l.length=N:=⟨_,rfl⟩;rw[hli,hN] at hvW hbW hc1;have hN258:N≤258:=by rw[←hN];exact hl.most
  have HN:=Lib.hid hN;have Hv:=Lib.hid hvW;have Hb:=Lib.hid hbW;have Hbad:=Lib.hid hbad;have HJ:=Lib.hid hJ;have HY:=Lib.hid hY;have Hlc:=Lib.hid hl;clear hvW hbW hbad hJ hY hN hli hl;refine callsIn_of_wp Tryz.func229 rfl trivial ?_ rfl;simp only[Tryz.ntmps229,List.size_toArray,List.length_cons,List.length_nil,Nat.reduceAdd,Nat.reduceSub,Array.replicate_succ,Array.replicate_zero,List.push_toArray,List.append_toArray,List.nil_append,List.cons_append];have h1n:1≤n:=by omega
  gi_wp2_with fail
  gi_loopw [3,4] (fun pv nv wr=>∃ k:Nat,∃ pre,k≤20∧nv=.int .i64 ((k+1:Nat):Int)∧pv=.int .u64 (zaH l k:Nat)∧LevAt l pre k∧J pre wr∧KeepC bad W wr∧W.heap.size≤wr.heap.size) (fun _ nv _=>22-(intOf nv).toNat)
  case atStart=>exact⟨0,[],Nat.zero_le _,rfl,rfl,LevAt.zero l,h0,KeepC.refl _ _,Nat.le_refl _⟩
  case round =>
    obtain⟨k,pre,hk,rfl,rfl,hat,hJ,hK,hsz⟩:=hrel;clear h0
    by_cases hlt:k<20
    · have hcb:=hK.cell (b:=b) (fun h=>(Hbad.out b h).2.1 rfl) Hb.out
      have hnk:Hid (zaH l (k+1)=2*zaH l k+l.count (k+1)):=rfl
      have hpb:zaH l k≤1048576:=by
        have h1:=zgA l Hlc.out.fits Hlc.out.room k hk;exact Nat.le_trans h1 (Nat.le_trans (Nat.pow_le_pow_right (by omega) hk) (by decide))
      obtain⟨m,hm⟩:∃ m,k+1=m:=⟨_,rfl⟩;have hm20:m≤20:=by omega
      have hm1:1≤m:=by omega
      have hm20b:decide ((m:Int)≤20)=true:=by rw[decide_eq_true_eq];omega
      have hmk:m-1=k:=by omega
      rw[hm];obtain⟨p,hp⟩:∃ p,zaH l k=p:=⟨_,rfl⟩;rw[hp] at hpb hnk ⊢;obtain⟨q,hq⟩:∃ q,2*p=q:=⟨_,rfl⟩;have hwq:IntKind.u64.wrap ((p:Int)*2)=(q:Int):=by rw[IntKind.wrap_u64];omega
      have hqb:q≤2097152:=by omega
      have Hq:=Lib.hid hq;have Hp:=Lib.hid hp;have Hm:=Lib.hid hm;have Hmk:=Lib.hid hmk
      have hcb2:∀ o:Obj,(wr.alloc o).cell? ⟨b,0,none⟩=some (.slice A N ca):=fun o=>by
        obtain⟨cs,ty,fz,h1⟩:=zd2 hcb;exact (World.cell?_of_block (w:=wr) (Below.heap_alloc wr o b (zab h1))).trans hcb
      clear hp hq hm hmk hlt hcb
      gi_wp2_with fail
      have hlv:(wr.alloc (.cells #[.int .i64 (m:Int),.int .u64 (q:Int),.slice none 0 0] 288)).heap[wr.heap.size]?=some (.cells #[.int .i64 (m:Int),.int .u64 (q:Int),.slice none 0 0] 288 (0,0)):=zae _ _ _ rfl;have Hlv:=Lib.hid hlv;have hB0:=Lib.hid ((Below.refl wr.heap.size wr).alloc (Nat.le_refl _) (.cells #[.int .i64 (m:Int),.int .u64 (q:Int),.slice none 0 0] 288));clear hlv;obtain⟨wo,rfl⟩:∃ wo:World,wo=wr:=⟨_,rfl⟩
      gi_loopw [19] (fun iv wr=>∃ i:Nat,∃ sv,i≤N∧iv=.int .i64 i∧wr.heap[wo.heap.size]?=some (.cells #[.int .i64 (m:Int),.int .u64 (q:Int),sv] 288 (0,0))∧OwnInts wr (wo.heap.size+1) sv (ints (zbl l m i))∧Below wo.heap.size wo wr) (fun iv _=>N+1-(intOf iv).toNat)
      case atStart=>exact⟨0,_,Nat.zero_le _,rfl,Hlv.out,OwnInts.nil _ _,hB0.out⟩
      case round =>
        obtain⟨i,sv,hi,rfl,hh,hown,hB⟩:=hrel;have Hh:=Lib.hid hh;have Hown:=Lib.hid hown;have HB:=Lib.hid hB;have hzB:=hB.size;have hwl:=zfS l m i;clear hh hown hB Hlv hB0
        by_cases hit:i<N
        · obtain⟨g,o,rfl,hg,hx⟩:=Hv.out.at i (by rw[zad,HN.out];exact hit)
          have hxe:(ints l)[i]?.getD 0=((l[i]?.getD 0:Nat):Int):=by simp[ints,List.getElem?_eq_getElem (show i<l.length by rw[HN.out];exact hit)]
          rw[hxe] at hx;have hx1:=hK.cell (b:=g) (fun h=>by have:=(Hbad.out g h).1;omega) hx
          have hx2:wr.cell? ⟨g,o+i,none⟩=some (.int .i64 ((l[i]?.getD 0:Nat):Int)):=by
            obtain⟨cs,ty,fz,h1⟩:=zd2 hx1;exact (HB.out.cell (p:=⟨g,o+i,none⟩) (zab h1)).trans hx1
          obtain⟨x,hxx⟩:∃ x,l[i]?.getD 0=x:=⟨_,rfl⟩;rw[hxx] at hx2;have Hxx:=Lib.hid hxx;have k2:=(zaa Hh.out 2).trans rfl;have f2:=zac Hh.out 2;have hlt:=zab Hh.out;clear hx hxe hx1 hxx hcb2
          by_cases hxm:x=m
          · have hbm:((x:Int) == (m:Int))=true:=by rw[beq_iff_eq];omega
            have Hs:=Lib.hid (zn8 (l:=l) (n:=m) (i:=i) (by rw[Hxx.out];exact hxm) (by rw[HN.out];exact hit))
            clear hxm
            gi_wp2_with
              (gi_at_builtin
               refine zeP rfl _ _ rfl (wo.heap.size+1) _ (ints (zbl l m i)) rfl (Hown.out.alloc _) wr.heap.size i rfl (zae _ _ _ rfl) (by rw[zad];omega) (by simp;omega) ?_
               intro q' c' w1 hown1 hg1;have Hown1:=Lib.hid hown1;have hlb:(wr.alloc (.cells #[.int .i64 (i:Int)] 3)).heap[wo.heap.size]?=some (.cells #[.int .i64 (m:Int),.int .u64 (q:Int),sv] 288 (0,0)):=zah _ Hh.out;have h1b:w1.heap[wo.heap.size]?=some (.cells #[.int .i64 (m:Int),.int .u64 (q:Int),sv] 288 (0,0)):=(hg1.block _ (zab hlb) (fun e=>by have:=zaF Hown.out e.symm;omega)).trans hlb
               have hB1:Below wo.heap.size wo w1:=(HB.out.alloc (by omega) _).grown hg1 (by simp;omega) (fun k hk=>by have:=zaF Hown.out hk;omega)
               have HB1:=Lib.hid hB1;have H1b:=Lib.hid h1b;have f2:=zac h1b 2;have k3:=(zaa h1b 2).trans rfl;have hlt1:=zab h1b;clear hg1 hown1 hlb h1b hB1)
            go_roundw
            case rel=>exact⟨i+1,_,by omega,by go_num,by simpa using zaf H1b.out 2 _,by rw[Hs.out,ztl];exact zuh Hown1.out,HB1.out.setCell (p:=⟨wo.heap.size,2,none⟩) (Nat.le_refl _) _⟩
            case measure=>simp[intOf];omega
          · have hbm:((x:Int) == (m:Int))=false:=by rw[beq_eq_false_iff_ne];omega
            have Hs:=Lib.hid (znQ (l:=l) (n:=m) (i:=i) (by rw[Hxx.out];exact hxm) (by rw[HN.out];exact hit))
            clear hxm
            gi_wp2_with fail
            go_roundw
            case rel=>exact⟨i+1,sv,by omega,by go_num,Hh.out,by rw[Hs.out];exact Hown.out,HB.out⟩
            case measure=>simp[intOf];omega
        · obtain rfl:i=N:=by omega
          have hown:=Hown.out;have hwho:zbl l m i=zbr l m:=by unfold zbr zbl;rw[HN.out]
          rw[hwho] at hown;obtain⟨sq,sc,rfl⟩:=hown.shape;have hlc:=zaY l m;rw[zad] at Hh hown;rw[hlc] at Hh hown;have Hown2:=Lib.hid hown;obtain⟨C,hC⟩:∃ C,l.count m=C:=⟨_,rfl⟩;rw[hC] at Hh Hown2;have HC:=Lib.hid hC;have hC258:C≤258:=by rw[←hC];exact Nat.le_trans List.count_le_length (by rw[HN.out];exact hN258)
          have k0:=(zaa Hh.out 0).trans rfl;have k1:=(zaa Hh.out 1).trans rfl;have k2:=(zaa Hh.out 2).trans rfl;have hlt:=zab Hh.out
          have hnx:Hid (zaH l m=q+C):=by
            show _=_
            rw[←Hm.out,zaH,Hp.out,Hm.out,HC.out,Hq.out]
          clear hown Hown hwho hC hlc hcb2 hit hwl
          by_cases hC0:C=0
          · subst hC0
            have Hat2:=Lib.hid (hat.no (by rw[Hm.out];exact HC.out))
            gi_wp2_with fail
            refine⟨(fun _ h=>by cases h),?_⟩
            gi_wp2_with fail
            go_roundw
            case rel=>exact⟨k+1,pre,by have:=Hm.out;omega,by rw[Hm.out];go_num,by rw[Hm.out,hnx.out];rfl,Hat2.out,HJ.out pre wo wr hJ HB.out,hK.below HB.out,Nat.le_trans hsz hzB⟩
            case measure=>simp[intOf];omega
          · have hCp:(0:Int)<(C:Int):=by omega
            have hJ1:=HJ.out pre wo wr hJ HB.out;have hlen:=hat.len (by rw[Hm.out,HC.out];omega) (by have:=Hm.out;omega)
            have hok:zjN l lo (m,q,.slice sq C sc) wr:=⟨(zcm l 20 m).2 ⟨hm1,hm20,by rw[HC.out];omega⟩,by rw[Hmk.out,Hp.out];exact Hq.out.symm,Hown2.out.is,fun g o n c h=>by have:=zvf Hown2.out g o n c h;omega⟩
            obtain⟨fn,tmps,assign,body,hy,hR⟩:=HY.out pre (m,q,.slice sq C sc) wr hJ1 hlen hok;simp only[zuW] at hy;have Hat2:=Lib.hid (hat.yes (by rw[Hm.out,HC.out];omega) (q,.slice sq C sc))
            clear hJ1 hlen hok hC0
            gi_wp2_with fail
            refine hR.mono ?_;rintro e W' (⟨rfl,hJ',hk',hz'⟩ | ⟨rfl,hJx'⟩)
            · have hnb:¬ bad wo.heap.size:=fun h=>by have:=(Hbad.out _ h).2.2;omega
              have h2:=hk'.cells hnb Hh.out;have k0:=(zaa h2 0).trans rfl;have k1:=(zaa h2 1).trans rfl;have k2:=(zaa h2 2).trans rfl;have hlt2:=zab h2;have HKall:=Lib.hid ((hK.below HB.out).trans hk');clear h2 hy hR hk' hJ
              gi_wp2_with fail
              go_roundw
              case rel=>exact⟨k+1,pre++[(m,q,.slice sq C sc)],by have:=Hm.out;omega,by rw[Hm.out];go_num,by rw[Hm.out,hnx.out];rfl,by have:=Hat2.out;rw[Hm.out] at this ⊢;exact this,hJ',HKall.out,by omega⟩
              case measure=>simp[intOf];omega
            · gi_wp2_with fail
              refine bodyPost_ret (results_none rfl _ _ _) rfl ?_;exact⟨⟨_,rfl⟩,.inr ⟨_,by have:=Hat2.out.pre (by have:=Hm.out;omega);rw[Hm.out] at this;exact this,hJx'⟩⟩
    · obtain rfl:k=20:=by omega
      gi_wp2_with fail
      exact bodyPost_end (results_none rfl _ _ _) rfl ⟨⟨_,rfl⟩,.inl ⟨pre,hat,hJ⟩⟩
theorem zi7 (n:Nat) (hn:3≤n) (b B:Nat) (l:List Nat) (hl:Code l) (bad:Nat→Prop) (v:Value) (w0:World) (hv:IsInts w0 B v (ints l)) (hB:B≤w0.heap.size) (hb:w0.cell? ⟨b,0,none⟩=some v)
    (hbad:∀ k,bad k→B≤k∧k≠b∧k<w0.heap.size) :
    zuU n 229 #[.pointer (some ⟨b,0,none⟩)] zuW (zjN l w0.heap.size) (KeepC bad) (fun xs=>xs.map (·.1)=zaG l 20) (fun pre=>pre.map (·.1) <+: zaG l 20) (zaG l 20).length w0 :=
  fun y J Jx W hBW hJ hJx hY h0=>by
    have hbl:b<w0.heap.size:=by
      obtain⟨cs,ty,fz,h1⟩:=zd2 hb;exact zab h1
    exact zqd n hn y b B w0.heap.size l hl bad J Jx v W (hv.below hBW hB) ((hBW.cell (p:=⟨b,0,none⟩) hbl).trans hb) (fun k hk=>⟨(hbad k hk).1,(hbad k hk).2.1,Nat.lt_of_lt_of_le (hbad k hk).2.2 hBW.size⟩) hJ hJx hY hBW.size h0
theorem zeW:Enters Tryz.prog 229:=enters_of Tryz.func229 (by kernel_rfl) rfl
theorem zmR (l:List Nat) (n:Nat):(zbr l n).Nodup:=List.nodup_range.sublist List.filter_sublist
theorem zsB (l:List Nat) (n i s:Nat) (h:(zbr l n)[i]?=some s):zcO l s=2*zaH l (n-1)+i∧l[s]?=some n:=by
  have hs:=(zkn l n s).1 (List.mem_of_getElem? h);have hr:=zed l n s hs;have hi:=(List.getElem?_eq_some_iff.1 h).1;have:=(List.getElem?_inj hi (zmR l n)).1 (h.trans hr.symm);refine⟨?_,hs⟩;unfold zcO;rw[hs,this];rfl
theorem zc9 {W W':World} {row:Option Nat} {v:Value} {xs:List Int} (h:IsInts W W.heap.size v xs) (hg:W.grownBy W' row) (hr:∀ r,row=some r→∃ o:Obj,W.heap[r]?=some o∧o.isCells=false):IsInts W' W'.heap.size v xs:=by
  obtain⟨h1,A,cap,hv,h2,h3,h4⟩:=h;refine⟨h1,A,cap,hv,h2,h3,fun hn=>?_⟩;obtain⟨g,o,hA,hgs,hc⟩:=h4 hn;exact⟨g,o,hA,Nat.lt_of_lt_of_le hgs hg.size,fun i x hx=>cell_kept (hc i x hx) hg hr⟩
theorem zhY {β:Type} (g:Nat) (t:TypeId) (f:β→Array Value):Own (fun s W=>W.heap[g]?=some (.cells (f s) t (0,0))):=fun s X Y row hs hg hrow=>by
  refine (hg.block g (zab hs) (fun e'=>?_)).trans hs;obtain⟨o,ho,hc⟩:=hrow g e'.symm;rw[show X.heap[g]?=_ from hs] at ho
  cases ho
  cases hc
end Go.Proofs.YtoejfkeofbdalaaGreatDoor
namespace Go.Proofs.YtoejfkeofbdalaaGreatDoor
end Go.Proofs.YtoejfkeofbdalaaGreatDoor
namespace Go.Proofs.YtoejfkeofbdalaaGreatDoor
open Go.RowKit
theorem OwnInts.mine {w:World} {base g n cap:Nat} {xs:List Int} (h:OwnInts w base (.slice (some ⟨g,0,none⟩) n cap) xs) (hn:xs.length=n) (h0:0<n) :
    (∀ j x,xs[j]?=some x→w.cell? ⟨g,j,none⟩=some (.int .i64 x))∧(∀ j,w.frozen? ⟨g,j,none⟩=false)∧(∀ (j:Nat) (x:Int),OwnInts (w.setCell ⟨g,j,none⟩ (.int .i64 x)) base (.slice (some ⟨g,0,none⟩) n cap) (xs.set j x))∧base≤g∧g<w.heap.size:=by
  subst hn;obtain⟨g',cap',he,h1,h2,h3,h4,h5⟩:=h.place h0;injection he with e1 e2 e3
  injection e1 with e1
  injection e1 with e1
  subst e1 e3;refine⟨fun j x hx=>?_,h4,fun j x=>(h5 j x).1,h1,h2⟩;rw[h3 j (List.getElem?_eq_some_iff.1 hx).1,hx];rfl
def zlH (f:Nat→Nat) (u:List Nat) (k:Nat):List Nat:=(u.take k).map f++u.drop k
theorem zhG (f:Nat→Nat) (u:List Nat) (k:Nat):(zlH f u k).length=u.length:=by simp[zlH];omega
theorem zle (f:Nat→Nat) (u:List Nat):zlH f u 0=u:=by simp[zlH]
theorem znB (f:Nat→Nat) (u:List Nat) (k:Nat) (h:u.length≤k):zlH f u k=u.map f:=by simp[zlH,List.take_of_length_le h,h]
theorem znl (f:Nat→Nat) (u:List Nat) (k:Nat) (h:k<u.length):(zlH f u k)[k]?=u[k]?:=by
  unfold zlH;rw[List.getElem?_append_right (by simp;omega),List.getElem?_drop]
  simp[Nat.min_eq_left (Nat.le_of_lt h)]
theorem znq (f:Nat→Nat) (u:List Nat) (k x:Nat) (h:u[k]?=some x):(zlH f u k).set k (f x)=zlH f u (k+1):=by
  have hk:=(List.getElem?_eq_some_iff.1 h).1;have hx:=(List.getElem?_eq_some_iff.1 h).2;unfold zlH;rw[List.set_append_right _ _ (by simp;omega),List.take_add_one,h]
  rw[show k-((u.take k).map f).length=0 by simp;omega]
  rw[List.drop_eq_getElem_cons hk,hx];simp
theorem zgP (l:List Nat) (i n:Nat):(ints l).set i (n:Int)=ints (l.set i n):=by simp[ints,List.map_set]
theorem zft (l:List Nat) (i n:Nat) (h:l[i]?=some n):(ints l)[i]?=some (n:Int):=by simp[ints,h]
def zpA (w:World) (g n:Nat):Nat:=((List.range n).map fun i=>(intOf ((w.cell? ⟨g,i,none⟩).getD (.int .i64 0))).toNat).sum
theorem zlA {w:World} {base g n cap:Nat} {l:List Nat} (h:OwnInts w base (.slice (some ⟨g,0,none⟩) n cap) (ints l)) (hn:l.length=n) (h0:0<n):zpA w g n=l.sum:=by
  have h1:=(h.mine (by rw[zad];exact hn) h0).1
  unfold zpA;congr 1
  apply List.ext_getElem?
  intro i;rw[List.getElem?_map]
  by_cases hi:i<n
  · rw[List.getElem?_range hi]
    have hx:l[i]?=some l[i]:=List.getElem?_eq_getElem (by omega)
    rw[hx,Option.map_some,h1 i _ (zft l i _ hx)];simp[intOf]
  · rw[List.getElem?_eq_none (by simp;omega),List.getElem?_eq_none (by omega)]
    rfl
def zbC (u:List Nat):List Nat:=u.map fun x=>max x 1
theorem zbF (u:List Nat):(zbC u).length=u.length:=by simp[zbC]
theorem ziR (u:List Nat):∀ x∈zbC u,1≤x:=by
  intro x hx;simp only[zbC,List.mem_map] at hx;obtain⟨y,_,rfl⟩:=hx;omega
theorem zvz (l:List Nat) (b:Nat) (h:∀ x∈l,x≤b):l.sum≤b*l.length:=by
  induction l with
  | nil=>simp
  | cons x l ih =>
    have h1:=h x (by simp)
    have h2:=ih fun y hy=>h y (by simp[hy])
    rw[List.sum_cons,List.length_cons,Nat.mul_succ];omega
theorem zuK (l:List Nat) (x:Nat) (h:x∈l):x≤l.sum:=by
  induction l with
  | nil=>simp at h
  | cons y l ih =>
    rw[List.sum_cons];rcases List.mem_cons.1 h with rfl | h
    · omega
    · have:=ih h;omega
theorem zpl (u:List Nat) (hu:∀ x∈u,x≤1048576) (hl:u.length≤258):(zbC u).sum≤1000000000:=by
  have:=zvz (zbC u) 1048576 (fun x hx=>by
    simp only[zbC,List.mem_map] at hx;obtain⟨y,hy,rfl⟩:=hx;have:=hu y hy;omega)
  rw[zbF] at this;omega
def zpv (u:List Nat) (most:Nat):List Nat:=zbK (zbC u).sum (zbC u) most
theorem zsw (ws:List Nat) (most:Nat) (h:ws≠[]):decide ((most:Int)<zps (ints (zao ws)))=zcy ws most:=by
  have hne:zao ws≠[]:=fun e=>h (List.eq_nil_of_length_eq_zero (by rw[←zaq,e];rfl))
  have h2:=zf7 (ints (zao ws)).tail most ((ints (zao ws)).headD 0)
  have e:ints (zao ws)=(ints (zao ws)).headD 0::(ints (zao ws)).tail:=by
    cases hd:zao ws with
    | nil=>exact absurd hd hne
    | cons a l=>rfl
  rw[Bool.eq_iff_iff,decide_eq_true_iff];unfold zps zcy;rw[h2,List.any_eq_true]
  have hm:∀ x:Int,x∈ints (zao ws)↔∃ d∈zao ws,x=(d:Int):=fun x=>by
    simp only[ints,List.mem_map];exact⟨fun ⟨d,h,e⟩=>⟨d,h,e.symm⟩,fun ⟨d,h,e⟩=>⟨d,h,e.symm⟩⟩
  constructor
  · intro hh
    have:∃ x∈ints (zao ws),(most:Int)<x:=by
      rcases hh with hh | ⟨x,hx,hh⟩
      · exact⟨_,by rw[e];simp,hh⟩
      · exact⟨x,by rw[e];simp[hx],hh⟩
    obtain⟨x,hx,hlt⟩:=this;obtain⟨d,hd,rfl⟩:=(hm x).1 hx;exact⟨d,hd,by simp;omega⟩
  · rintro⟨d,hd,hlt⟩
    have hx:=(hm (d:Int)).2 ⟨d,hd,rfl⟩;have hlt:most<d:=by simpa using hlt
    rw[e] at hx;rcases List.mem_cons.1 hx with hx | hx
    · exact .inl (by omega)
    · exact .inr ⟨_,hx,by omega⟩
theorem zfP (w:World) (v:Value) (u:List Nat) (most:Nat) (hv:IsInts w w.heap.size v (ints u)) (hu:∀ x∈u,x≤1048576) (h2:2≤u.length) (h258:u.length≤258) (h9:9≤most) (h20:most≤20) :
    Calls Tryz.prog 26 #[v,.int .i64 (most:Nat)] w fun e w'=>∃ q c,e=.returned (.tuple #[.slice q u.length c,.int .i64 0])∧(IsInts w' w'.heap.size (.slice q u.length c) (ints (zpv u most))∧TypedInts w' (.slice q u.length c))∧Below w.heap.size w w':=by
  have hmay:zu7 (ints u)=true:=(ztx _).2 fun x hx=>by
    simp only[ints,List.mem_map] at hx;obtain⟨y,hy,rfl⟩:=hx;have:=hu y hy;omega
  have CW:=Lib.hid (zot w v (ints u) hv (by rw[zad];omega))
  rw[hmay] at CW
  have CC:Hid (∀ W,Below w.heap.size w W→Calls Tryz.prog 78 #[v] W fun e w'=>∃ q c,e=.returned (.slice q u.length c)∧OwnInts w' W.heap.size (.slice q u.length c) (ints u)∧Below W.heap.size W w'):=fun W hB=>by
    have:=zhE W v (ints u) (zwb hv hB) (by rw[zad];omega) (by rw[zad];omega)
    rw[zad] at this;exact this
  obtain⟨A,ca,rfl,hc1,hc2⟩:=hv.shape;have hsum:=zpl u hu h258;have hpos:=ziR u;have hlst:=zbF u;have hR:zpv u most=zbK (zbC u).sum (zbC u) most:=rfl;have hst:zbC u=u.map fun x=>max x 1:=rfl;generalize zpv u most=R at *
  rw[zad] at hc1 CW ⊢;rw[zad] at CC hv;obtain⟨N,hN⟩:∃ N,u.length=N:=⟨_,rfl⟩;rw[hN] at h2 h258 hc1 CW CC hv hlst ⊢;have HN:=Lib.hid hN;have HV:=Lib.hid hv;have HS:=Lib.hid hsum;have HP:=Lib.hid hpos;have HL:=Lib.hid hlst;have HR:=Lib.hid hR;have HST:=Lib.hid hst
  have CD:Hid (∀ (W:World) (v:Value) (ws:List Nat),IsInts W W.heap.size v (ints ws)→ws.length=N→(∀ x∈ws,1≤x)→ws.sum≤1000000000→Calls Tryz.prog 79 #[v] W fun e w'=>∃ q c,e=.returned (.slice q N c)∧(IsInts w' w'.heap.size (.slice q N c) (ints (zao ws))∧TypedInts w' (.slice q N c))∧Below W.heap.size W w'):=fun W v ws h hl hp hs=>by
    subst hl;exact zqw W v ws h h2 h258 hp (by omega)
  have CM:Hid (∀ (W:World) (v:Value) (ws:List Nat),IsInts W W.heap.size v (ints (zao ws))→ws.length=N→Calls Tryz.prog 80 #[v] W fun e w'=>e=.returned (.int .i64 (zps (ints (zao ws))))∧W=w'):=fun W v ws h hl=>by
    refine zqj W v _ h (by rw[zad,zaq];omega) fun e=>?_
    have:=congrArg List.length e;rw[zad,zaq,List.length_nil] at this;omega
  have d1:decide ((N:Int)<2)=false:=decide_eq_false (by omega)
  have d2:decide (258<(N:Int))=false:=decide_eq_false (by omega)
  have d3:decide ((most:Int)<9)=false:=decide_eq_false (by omega)
  have d4:decide (20<(most:Int))=false:=decide_eq_false (by omega)
  clear hmay hu hv hsum hpos hlst hR hN hst
  go_enter Tryz.func26,Tryz.ntmps26
  go_wp2_with fail
  refine CW.out.mono ?_;rintro e w1 ⟨rfl,hB1⟩
  go_wp2_with fail
  refine (CC.out _ hB1).mono ?_;rintro e w2 ⟨q,c,rfl,ho,hB2⟩;obtain⟨g,cap,he,-⟩:=ho.place (by rw[zad,HN.out];omega)
  rw[zad,HN.out] at he;injection he with e1 e2 e3
  subst e1 e3;clear e2;have ho:=ho.mono hB1.size;have HO:=Lib.hid ho;have HB:=Lib.hid (hB1.trans (hB2.mono hB1.size));clear ho hB1 hB2 CC CW
  go_wp2_with fail
  go_loopw [37] (fun iv wr=>∃ k:Nat,k≤N∧iv=.int .i64 k∧Hid (OwnInts wr w.heap.size (.slice (some ⟨g,0,none⟩) N c) (ints (zlH (fun x=>max x 1) u k)))∧Hid (Below w.heap.size w wr)) (fun iv _=>N+1-(intOf iv).toNat)
  case atStart=>exact⟨0,Nat.zero_le _,rfl,by rw[zle];exact HO,HB⟩
  case round =>
    clear HO HB;obtain⟨k,hk,rfl,HO,HB⟩:=hrel
    by_cases hlt:k<N
    · obtain⟨x,hx⟩:∃ x,u[k]?=some x:=⟨_,List.getElem?_eq_getElem (by rw[HN.out];exact hlt)⟩
      obtain⟨m1,m2,m3,m4,m5⟩:=HO.out.mine (by rw[zad,zhG,HN.out]) (by omega)
      have hc:=m1 k x (zft _ _ _ (by rw[znl _ _ _ (by rw[HN.out];exact hlt)];exact hx))
      have hf:=m2 k
      have HO2:Hid (OwnInts (wr.setCell ⟨g,k,none⟩ (.int .i64 ((max x 1:Nat):Int))) w.heap.size (.slice (some ⟨g,0,none⟩) N c) (ints (zlH (fun x=>max x 1) u (k+1)))):=by
        have:=m3 k ((max x 1:Nat):Int);rw[zgP,znq (fun x=>max x 1) u k x hx] at this;exact this
      have HB2:Hid (Below w.heap.size w (wr.setCell ⟨g,k,none⟩ (.int .i64 ((max x 1:Nat):Int)))):=HB.out.setCell (p:=⟨g,k,none⟩) m4 _
      have hmx:Hid ((if (x:Int)<1 then 1 else (x:Int))=((max x 1:Nat):Int)):=by
        show _=_
        split <;> omega
      clear m1 m2 m3 hx
      go_wp2_with fail
      go_roundw
      case rel=>exact⟨k+1,by omega,by go_num,by rw[hmx.out];exact HO2,by rw[hmx.out];exact HB2⟩
      case measure=>simp[intOf];omega
    · obtain rfl:k=N:=by omega
      have hO:=HO.out;rw[znB _ _ _ (by rw[HN.out];exact Nat.le_refl _),←HST.out] at hO
      have HO1:=Lib.hid hO;have hz0:=HB.out.size;clear HO ho hO
      go_wp2_with fail
      refine (CD.out _ _ (zbC u) HO1.out.is HL.out HP.out HS.out).mono ?_;rintro e w3 ⟨q2,c3,rfl,⟨hv3,hty3⟩,hB3⟩;have HTY3:=Lib.hid hty3;clear hty3;have HV3:=Lib.hid hv3;have HO3:=Lib.hid (HO1.out.below hB3);have HB3:=Lib.hid (HB.out.trans (hB3.mono hz0));clear hv3 hB3 HO1 HB hz0
      go_wp2_with fail
      go_loopw [9] (fun ov wr=>∃ (ws:List Nat) (q:Option Addr) (c3:Nat),ov=.slice q k c3∧ws.length=k∧Hid (∀ x∈ws,1≤x)∧Hid (ws.sum≤1000000000)∧Hid (∃ n,ws.sum≤n∧R=zbK n ws most)∧Hid (IsInts wr wr.heap.size (.slice q k c3) (ints (zao ws)))∧Hid (TypedInts wr (.slice q k c3))∧Hid (OwnInts wr w.heap.size (.slice (some ⟨g,0,none⟩) k c) (ints ws))∧Hid (Below w.heap.size w wr)) (fun ov wr=>zpA wr g k)
      case atStart=>exact⟨zbC u,q2,c3,rfl,HL.out,HP,HS,⟨_,Nat.le_refl _,HR.out⟩,HV3,HTY3,HO3,HB3⟩
      case round =>
        clear HV3 HTY3 HO3 HB3 HP HS HR HL HST;obtain⟨ws,q,c3,rfl,hwl,HP,HS,HR,HV3,HTY,HO,HB⟩:=hrel;have hmz:zpA wr g k=ws.sum:=zlA HO.out hwl (by omega)
        have CM1:=Lib.hid (CM.out wr _ ws HV3.out hwl);have hdm:=zsw ws most (fun e=>by rw[e] at hwl;simp at hwl;omega)
        obtain⟨M,hM⟩:∃ M,zps (ints (zao ws))=M:=⟨_,rfl⟩;rw[hM] at CM1 hdm;clear hM;have HMZ:=Lib.hid hmz;clear hmz;cases htd:zcy ws most with
        | false =>
          rw[htd] at hdm
          have hRd:Hid (R=zao ws):=by
            obtain⟨n,_,h⟩:=HR.out
            show _=_
            rw[h,zfk htd]
          have HWL:=Lib.hid hwl;clear htd HR HP HS HMZ hwl CM CD
          go_wp2_with fail
          refine CM1.out.mono ?_;rintro e w_ ⟨rfl,rfl⟩
          go_wp2_with fail
          go_ret2
          exact⟨q,c3,rfl,⟨by rw[hRd.out];exact HV3.out,HTY.out⟩,HB.out⟩
        | true =>
          rw[htd] at hdm;obtain⟨n,hn,hRn⟩:=HR.out;obtain⟨n',hn',hn2,hn3⟩:=zfX HP.out (by omega) (by omega) h9 htd hn
          have h3x:(zcc ws).sum<ws.sum:=by
            obtain⟨n2,e1,e2,_⟩:=zfX HP.out (by omega) (by omega) h9 htd (Nat.le_refl _)
            omega
          have HR2:Hid (∃ n,(zcc ws).sum≤n∧R=zbK n (zcc ws) most):=⟨n',hn2,hRn.trans hn3⟩;have HP2:=Lib.hid (zko ws)
          have HS2:Hid ((zcc ws).sum≤1000000000):=by
            have:=HS.out
            show _≤_
            omega
          have HLT:=Lib.hid h3x;have HWL:=Lib.hid hwl;clear htd HR hn hRn hn' hn2 hn3 h3x HP hwl HV3
          go_wp2_with fail
          refine CM1.out.mono ?_;rintro e w_ ⟨rfl,rfl⟩;clear CM1
          go_wp2_with fail
          have HOs:Hid (OwnInts wr w.heap.size (.slice (some ⟨g,0,none⟩) k c) (ints (zlH (fun x=>x / 2+1) ws 0))):=by
            rw[zle];exact HO
          clear HO
          go_loopw [56] (fun iv wr=>∃ j:Nat,j≤k∧iv=.int .i64 j∧Hid (OwnInts wr w.heap.size (.slice (some ⟨g,0,none⟩) k c) (ints (zlH (fun x=>x / 2+1) ws j)))∧Hid (Below w.heap.size w wr)) (fun iv _=>k+1-(intOf iv).toNat)
          case atStart=>exact⟨0,Nat.zero_le _,rfl,HOs,HB⟩
          case round =>
            clear HOs HB;obtain⟨j,hj,rfl,HO,HB⟩:=hrel
            by_cases hlt2:j<k
            · obtain⟨x,hx⟩:∃ x,ws[j]?=some x:=⟨_,List.getElem?_eq_getElem (by rw[HWL.out];exact hlt2)⟩
              obtain⟨m1,m2,m3,m4,m5⟩:=HO.out.mine (by rw[zad,zhG,HWL.out]) (by omega)
              have hc:=m1 j x (zft _ _ _ (by rw[znl _ _ _ (by rw[HWL.out];exact hlt2)];exact hx))
              have hf:=m2 j;have hxs:x≤1000000000:=Nat.le_trans (zuK ws x (List.mem_of_getElem? hx)) HS.out
              have hhx:Hid ((x:Int) / 2+1=((x / 2+1:Nat):Int)):=by
                show _=_
                omega
              have HO2:Hid (OwnInts (wr.setCell ⟨g,j,none⟩ (.int .i64 ((x / 2+1:Nat):Int))) w.heap.size (.slice (some ⟨g,0,none⟩) k c) (ints (zlH (fun x=>x / 2+1) ws (j+1)))):=by
                have:=m3 j ((x / 2+1:Nat):Int);rw[zgP,znq (fun x=>x / 2+1) ws j x hx] at this;exact this
              have HB2:Hid (Below w.heap.size w (wr.setCell ⟨g,j,none⟩ (.int .i64 ((x / 2+1:Nat):Int)))):=HB.out.setCell (p:=⟨g,j,none⟩) m4 _;clear m1 m2 m3 hx
              go_wp2_with fail
              go_roundw
              case rel=>exact⟨j+1,by omega,by go_num,by rw[hhx.out];exact HO2,by rw[hhx.out];exact HB2⟩
              case measure=>simp[intOf];omega
            · obtain rfl:j=k:=by omega
              have hO:=HO.out;rw[znB _ _ _ (by rw[HWL.out];exact Nat.le_refl _)] at hO
              have HO1:Hid (OwnInts wr w.heap.size (.slice (some ⟨g,0,none⟩) j c) (ints (zcc ws))):=hO
              have HHL:Hid ((zcc ws).length=j):=by
                show _=_
                rw[zcD];exact HWL.out
              have hz0:=HB.out.size;clear HO hO
              go_wp2_with fail
              refine (CD.out _ _ (zcc ws) HO1.out.is HHL.out HP2.out HS2.out).mono ?_;rintro e w4 ⟨q4,c4,rfl,⟨hv4,hty4⟩,hB4⟩;have HTY4:=Lib.hid hty4;clear hty4;have HV4:=Lib.hid hv4;have HO4:=Lib.hid (HO1.out.below hB4);have HB4:=Lib.hid (HB.out.trans (hB4.mono hz0));have HMW:Hid (zpA w4 g j=(zcc ws).sum):=zlA HO4.out HHL.out (by omega)
              clear hv4 hB4 HO1 HB hz0
              go_wp2_with fail
              go_roundw
              case rel=>exact⟨zcc ws,q4,c4,rfl,HHL.out,HP2,HS2,HR2,HV4,HTY4,HO4,HB4⟩
              case measure=>rw[HMZ.out,HMW.out];exact HLT.out
theorem zpf (w:World) (v:Value) (u:List Nat) (most:Nat) (hv:IsInts w w.heap.size v (ints u)) (hu:∀ x∈u,x≤1048576) (h2:2≤u.length) (h258:u.length≤258) (h9:9≤most) (h20:most≤20) :
    Calls Tryz.prog 26 #[v,.int .i64 (most:Nat)] w fun e w'=>∃ q c,e=.returned (.tuple #[.slice q u.length c,.int .i64 0])∧IsInts w' w'.heap.size (.slice q u.length c) (ints (zpv u most))∧Below w.heap.size w w' :=
  (zfP w v u most hv hu h2 h258 h9 h20).mono fun e w' h=>by
    obtain⟨q,c,h1,h2,h3⟩:=h;exact⟨q,c,h1,h2.1,h3⟩
theorem zg6 (u:List Nat) (most:Nat) (h2:2≤u.length) (h258:u.length≤258) (h9:9≤most) :
    ∃ t,zpv u most=zao t∧t.length=u.length∧(∀ x∈t,1≤x)∧(∀ i,i<u.length→dpF t i≤most)∧(∀ i k:Nat,(zbC u)[i]?=(zbC u)[k]?→t[i]?=t[k]?)∧(zcy (zbC u) most=false→t=zbC u):=by
  have h:=zjO (zbC u).sum (zbC u) most (ziR u) (by rw[zbF];exact h2) (by rw[zbF];exact h258) h9 (Nat.le_refl _)
  rw[zbF] at h;exact h
theorem zez (u:List Nat) (most:Nat) (h2:2≤u.length) (h258:u.length≤258) (h9:9≤most):(zpv u most).length=u.length:=by
  obtain⟨t,h1,h3,_⟩:=zg6 u most h2 h258 h9;rw[h1,zaq,h3]
theorem zqC (u:List Nat) (most:Nat) (h2:2≤u.length) (h258:u.length≤258) (h9:9≤most):∀ x∈zpv u most,1≤x∧x≤most:=by
  obtain⟨t,h1,h3,h4,h5,_,_⟩:=zg6 u most h2 h258 h9;intro x hx;rw[h1] at hx;obtain⟨i,hi,he⟩:=List.getElem_of_mem hx;rw[zaq] at hi;have h6:=zbv t i hi;rw[List.getElem?_eq_getElem (by rw[zaq];exact hi),he] at h6
  injection h6 with h6
  have h7:=h5 i (by omega)
  refine⟨?_,by omega⟩
  obtain⟨p,-,hp2,-⟩:=zmO t.length _ _ (zd4 h4) (by rw[zb0,zbj];exact Nat.le_refl _) (by rw[zb0,zbj];omega) _ (zjq (List.getElem?_eq_getElem hi))
  have:dpF t i=zbs t.length (zcP (zaK t)) t.length p.2+1:=hp2;omega
theorem zo9 (u:List Nat) (most:Nat) (h2:2≤u.length) (h258:u.length≤258) (h9:9≤most) (h20:most≤20):zdU (zpv u most)=1048576:=by
  obtain⟨t,h1,h3,h4,h5,_,_⟩:=zg6 u most h2 h258 h9;rw[h1];exact zdG h4 (fun e=>by rw[e] at h3;simp at h3;omega) 20 (fun i hi=>by have:=h5 i (by omega);omega)
theorem zpE (u:List Nat) (most:Nat) (h2:2≤u.length) (h258:u.length≤258) (h9:9≤most) (h20:most≤20):Code (zpv u most) :=
  ⟨by rw[zez u most h2 h258 h9];exact h2,by rw[zez u most h2 h258 h9];exact h258,fun x hx=>by have:=zqC u most h2 h258 h9 x hx;omega,Nat.le_of_eq (zo9 u most h2 h258 h9 h20)⟩
end Go.Proofs.YtoejfkeofbdalaaGreatDoor
namespace Go.Proofs.YtoejfkeofbdalaaGreatDoor
open Go.RowKit Go.Shelf
theorem zrF {T e:TypeId} {B b:Nat} {p:Value} {bs:List Value} {W W':World} (h:Lib.BuilderAtF T e B b p bs W)
    (hk:∀ (k:Nat) (c:Array Value) (t:TypeId) (fz:Nat × Nat),W.heap[k]?=some (Obj.cells c t fz)→t=T∨t=e→W'.heap[k]?=W.heap[k]?):Lib.BuilderAtF T e B b p bs W':=by
  obtain⟨hB,v,hb,hown,hne⟩:=h;refine⟨hB,v,(hk _ _ _ _ hb (.inl rfl)).trans hb,⟨hown.1,?_⟩,hne⟩;rcases hown.2 with hn | ⟨g,cap,cur,fz,hv,hbg,hg,rest⟩
  · exact .inl hn
  · exact .inr ⟨g,cap,cur,fz,hv,hbg,(hk _ _ _ _ hg (.inr rfl)).trans hg,rest⟩
theorem zcH {T e:TypeId} {B b:Nat} {bs:List Value} {W W':World} (h:Lib.IsBuilderF T e B b bs W)
    (hk:∀ (k:Nat) (c:Array Value) (t:TypeId) (fz:Nat × Nat),W.heap[k]?=some (Obj.cells c t fz)→t=T∨t=e→W'.heap[k]?=W.heap[k]?):Lib.IsBuilderF T e B b bs W' :=
  h.elim (fun x=>.inl (zrF x hk)) (fun x=>.inr (zrF x hk))
theorem zsR {β:Type} {T e:TypeId} {B b:Nat} (f:β→List Value):Own (fun (s:β) W=>Lib.IsBuilderF T e B b (f s) W):=fun s X Y row hs hg hrow =>
  zcH hs fun k c t fz hk _=>hg.block k (zab hk) fun e'=>by
    obtain⟨o,ho,hc⟩:=hrow k e'.symm;rw[hk] at ho;cases ho
    cases hc
theorem zoe {T e:TypeId} {B b:Nat} {bs:List Value} {W W':World} (h:Lib.IsBuilderF T e B b bs W) (hb:Below W.heap.size W W'):Lib.IsBuilderF T e B b bs W' :=
  zcH h fun k c t fz hk _=>hb.block k (zab hk)
theorem ztw {T e t0:TypeId} {B b q:Nat} {bs:List Value} {W:World} {cs:Array Value} {z:Nat × Nat} (h:Lib.IsBuilderF T e B b bs W) (hq:W.heap[q]?=some (.cells cs t0 z)) (h1:t0≠T) (h2:t0≠e) (u:Value) :
    Lib.IsBuilderF T e B b bs (W.setCell ⟨q,0,none⟩ u) :=
  zcH h fun k c t fz hk ht=>Below.heap_setCell W ⟨q,0,none⟩ u k fun e'=>by
    have:k=q:=e';subst this;rw[hq] at hk;cases hk
    rcases ht with h | h
    · exact h1 h
    · exact h2 h
end Go.Proofs.YtoejfkeofbdalaaGreatDoor
namespace Go.Proofs.YtoejfkeofbdalaaGreatDoor
open Go.RowKit
theorem zrv (p q r:Addr) (w:World) :
    CallsD Tryz.prog 334 #[.pointer (some p),.pointer (some q),.pointer (some r)] .returning w fun e u' w'=>e=.returned (.tuple #[])∧u' = .returning∧w'=w:=by
  refine callsD_of_wpS Tryz.func334 rfl fun c₀ cs hu=>?_;apply wpS_seq
  apply wpS_region
  simp[wpOpsS,go_sem,recoverD,hu,Tryz.ntmps334,Exit.thenS];refine wpS_of_wp ?_
  go_wp2
  cases c₀
  simp_all[bodyPostS,results,Tryz.results334]
theorem zvA (v:Value) (w:World):(Instr.typeAssert (.iface 460 v) 20 460 true).run Tryz.prog w=.ok (.tuple #[v,.bool true]) w:=by kernel_rfl
theorem zjM (a b c:Nat) (va vb vc:Value) (why:Int) (w:World) (ha:w.cell? ⟨a,0,none⟩=some va) (hb:w.cell? ⟨b,0,none⟩=some vb) (hc:w.cell? ⟨c,0,none⟩=some vc)
    (fa:w.frozen? ⟨a,0,none⟩=false) (fb:w.frozen? ⟨b,0,none⟩=false) (fc:w.frozen? ⟨c,0,none⟩=false) (xa:a<w.heap.size) (xb:b<w.heap.size) (xc:c<w.heap.size) (hab:a≠b) (hac:a≠c) (hbc:b≠c) :
    CallsD Tryz.prog 334 #[.pointer (some ⟨a,0,none⟩),.pointer (some ⟨b,0,none⟩),.pointer (some ⟨c,0,none⟩)] (.panicking (zfx why)) w fun e u' w'=>e=.returned (.tuple #[])∧u' = .panicking [{ v:=.iface 460 (.agg #[.int .i64 why]),recovered:=true }]∧w'=((((w.setCell ⟨a,0,none⟩ (.slice none 0 0)).setCell ⟨b,0,none⟩ (.int .i64 0)).setCell ⟨c,0,none⟩ (.int .i64 why)).alloc (.cells #[.int .i64 why] 460)).drew:=by
  unfold zfx;refine callsD_of_wpS Tryz.func334 rfl fun c₀ cs hu=>?_;apply wpS_seq
  apply wpS_region
  simp[wpOpsS,go_sem,recoverD,hu,Tryz.ntmps334,Exit.thenS];refine wpS_of_wp ?_
  show Code.wp Tryz.prog _ _ { tmps:=#[.pointer (some ⟨a,0,none⟩),.pointer (some ⟨b,0,none⟩),.pointer (some ⟨c,0,none⟩),undef,undef,undef,.iface 460 (.agg #[.int .i64 why]),undef,undef,undef,undef,undef,undef,undef],defers:=[] } _
  go_wp2_with fail
  rw[zvA]
  go_wp2_with fail
  go_region
  go_wp2
  obtain⟨fn0,tm0,td0,df0,md0,kd0⟩:=c₀;obtain rfl:md0=_:=hu;simp[bodyPostS,results,Tryz.results334]
def zn5 (c:Int):Nat:=if c<0 then (-(c+1)).toNat else c.toNat
theorem zth (c:Int) (n:Nat) (h1:-9223372036854775808≤c) (h2:c≤9223372036854775807) (hn:0<n) (hn':n≤1000000) (w:World) :
    Calls Tryz.prog 9 #[.int .i64 c,.int .i64 (n:Nat)] w fun e w'=>e=.returned (.int .i64 ((zn5 c % n:Nat):Int))∧w=w':=by
  by_cases h:c<0
  · have e:((zn5 c % n:Nat):Int)=(-(c+1)) % (n:Int):=by
      unfold zn5;rw[if_pos h,Int.natCast_emod,Int.toNat_of_nonneg (by omega)]
    rw[e];clear e
    go_enter Tryz.func9,Tryz.ntmps9
    go_wp2
    go_ret
    exact⟨zbU (by rw[←Int.neg_tmod];exact Int.tmod_eq_emod_of_nonneg (by omega)),rfl⟩
  · have e:((zn5 c % n:Nat):Int)=c % (n:Int):=by
      unfold zn5;rw[if_neg h,Int.natCast_emod,Int.toNat_of_nonneg (by omega)]
    rw[e];clear e
    go_enter Tryz.func9,Tryz.ntmps9
    go_wp2
    go_ret
    exact⟨rfl,rfl⟩
end Go.Proofs.YtoejfkeofbdalaaGreatDoor
