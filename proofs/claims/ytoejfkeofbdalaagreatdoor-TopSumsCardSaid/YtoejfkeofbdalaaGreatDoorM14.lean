import Derived.Test.YtoejfkeofbdalaaGreatDoorM12
import Derived.Test.YtoejfkeofbdalaaGreatDoorM13
set_option linter.unusedVariables false
set_option maxRecDepth 100000
set_option maxHeartbeats 8000000
namespace Go.Proofs.YtoejfkeofbdalaaGreatDoor
open Go.RowKit
def zbr (l:List Nat) (n:Nat):List Nat:=(List.range l.length).filter fun s=>l[s]? == some n
def zbl (l:List Nat) (n i:Nat):List Nat:=(List.range i).filter fun s=>l[s]? == some n
theorem zdY (l:List Nat) (n i:Nat):zbl l n (i+1)=zbl l n i++if l[i]?=some n then [i] else []:=by
  unfold zbl;rw[List.range_succ,List.filter_append]
  by_cases h:l[i]?=some n
  · rw[if_pos h];simp[h]
  · rw[if_neg h];simp[h]
theorem zer (l:List Nat) (n i:Nat) (hi:i≤l.length):(zbl l n i).length=(l.take i).count n:=by
  induction i with
  | zero=>rfl
  | succ i ih =>
    rw[zdY,List.length_append,ih (by omega),List.take_succ_eq_append_getElem (by omega),List.count_append,List.getElem?_eq_getElem (by omega)]
    by_cases h:l[i]=n
    · simp[h]
    · simp[h]
theorem zaY (l:List Nat) (n:Nat):(zbr l n).length=l.count n:=by
  have:=zer l n l.length (Nat.le_refl _);rw[List.take_length] at this;exact this
theorem zkn (l:List Nat) (n s:Nat):s∈zbr l n↔l[s]?=some n:=by
  simp only[zbr,List.mem_filter,List.mem_range,beq_iff_eq]
  constructor
  · exact fun h=>h.2
  · exact fun h=>⟨(List.getElem?_eq_some_iff.1 h).1,h⟩
theorem zdP (l:List Nat) (n:Nat):(zbr l n).length≤l.length:=by rw[zaY];exact List.count_le_length
theorem zed (l:List Nat) (n s:Nat) (h:l[s]?=some n):(zbr l n)[(l.take s).count n]?=some s:=by
  have hs:=(List.getElem?_eq_some_iff.1 h).1;obtain⟨d,hd⟩:∃ d,l.length=s+1+d:=⟨l.length-(s+1),by omega⟩
  have e:zbr l n=zbl l n s++([s]++((List.range d).map fun j=>s+1+j).filter fun t=>l[t]? == some n):=by
    unfold zbr;rw[hd,List.range_add,List.filter_append,List.range_succ,List.filter_append];unfold zbl;simp[h]
  rw[e,←zer l n s (by omega),List.getElem?_append_right (Nat.le_refl _),Nat.sub_self]
  rfl
def zcO (l:List Nat) (s:Nat):Nat:=2*zaH l ((l[s]?.getD 0)-1)+(l.take s).count (l[s]?.getD 0)
def zaG (l:List Nat) (k:Nat):List Nat:=(List.range (k+1)).filter fun n=>decide (1≤n) && decide (0<l.count n)
theorem zb2 (l:List Nat) (k:Nat):zaG l (k+1)=zaG l k++if 0<l.count (k+1) then [k+1] else []:=by
  unfold zaG;rw[List.range_succ,List.filter_append];congr 1
  by_cases h:0<l.count (k+1)
  · rw[if_pos h,List.filter_cons,decide_eq_true h];simp
  · rw[if_neg h,List.filter_cons,decide_eq_false h];simp
theorem zcm (l:List Nat) (k n:Nat):n∈zaG l k↔1≤n∧n≤k∧0<l.count n:=by
  simp only[zaG,List.mem_filter,List.mem_range,Bool.and_eq_true,decide_eq_true_eq];omega
theorem zcS (l:List Nat) {j k:Nat} (h:j≤k):zaG l j <+: zaG l k:=by
  induction h with
  | refl=>exact List.prefix_refl _
  | step _ ih=>exact ih.trans (by rw[zb2];exact List.prefix_append _ _)
def zbL (l:List Nat) (u:List UInt8) (a:Int):List Nat→Except Int (Nat × Int)
  | []=>.error 3
  | n::ns =>
    if zeO u a n≠0 then .error (zeO u a n)
    else if 2*zaH l (n-1)≤(zd9 u a n).toNat∧(zd9 u a n).toNat<2*zaH l (n-1)+l.count n then .ok ((zbr l n)[(zd9 u a n).toNat-2*zaH l (n-1)]?.getD 0,a+n)
    else zbL l u a ns
def zha (l:List Nat) (u:List UInt8) (a:Int):Except Int (Nat × Int):=zbL l u a (zaG l 20)
def zfB (l:List Nat) (u:List UInt8) (a:Int) (n:Nat):Prop :=
  zeO u a n=0∧¬ (2*zaH l (n-1)≤(zd9 u a n).toNat∧(zd9 u a n).toNat<2*zaH l (n-1)+l.count n)
theorem zeA {l:List Nat} {u:List UInt8} {a:Int} {ns:List Nat} (h:∀ n∈ns,zfB l u a n) (ms:List Nat):zbL l u a (ns++ms)=zbL l u a ms:=by
  induction ns with
  | nil=>rfl
  | cons n ns ih =>
    have hn:=h n (by simp)
    rw[List.cons_append,zbL,if_neg (by rw[hn.1];simp),if_neg hn.2,ih fun m hm=>h m (by simp[hm])]
def zel (l:List Nat) (s:Nat):List Bool:=B.low (zcO l s) (l[s]?.getD 0)
def zit (l:List Nat) (m:List Nat):List Bool:=m.flatMap (zel l)
theorem zgf (l:List Nat) (s:Nat):(zel l s).length=l[s]?.getD 0:=B.length_low _ _
theorem zqs {l:List Nat} (h:zoR l) (s:Nat):l[s]?.getD 0≤20:=by
  cases hs:l[s]? with
  | none=>simp
  | some x=>exact (h x (List.mem_of_getElem? hs)).2
theorem zes {l:List Nat} (h:zoR l) (m:List Nat):(zit l m).length≤20*m.length:=by
  induction m with
  | nil=>simp[zit]
  | cons s m ih =>
    have e:zit l (s::m)=zel l s++zit l m:=by simp[zit]
    have:=zqs h s;rw[e,List.length_append,zgf,List.length_cons];omega
theorem znj {l:List Nat} (h:Code l) {s n:Nat} (hs:l[s]?=some n):zcO l s<2 ^ n:=by
  have hn:=h.fits n (List.mem_of_getElem? hs);obtain⟨k,rfl⟩:∃ k,n=k+1:=⟨n-1,by omega⟩
  have h1:=zgA l h.fits h.room (k+1) hn.2;rw[zaH] at h1;have hlt:=(List.getElem?_eq_some_iff.1 hs).1
  have h2:(l.take s).count (k+1)<l.count (k+1):=by
    have e:l=l.take s++(k+1)::l.drop (s+1):=by
      have:=(List.getElem?_eq_some_iff.1 hs).2;rw[←this,List.getElem_cons_drop,List.take_append_drop]
    have:l.count (k+1)=(l.take s++(k+1)::l.drop (s+1)).count (k+1):=by rw[←e]
    rw[this,List.count_append,List.count_cons];simp
  unfold zcO;rw[hs];simp only[Option.getD_some,Nat.add_sub_cancel];omega
def ztF (l:List Int):Int:=l.tail.foldl min (l.headD 0)
def zps (l:List Int):Int:=l.tail.foldl max (l.headD 0)
theorem zlc (l:List Int) (b:Int):∀ a,l.foldl min a<b↔a<b∨∃ x∈l,x<b:=by
  induction l with
  | nil=>intro a;simp
  | cons y l ih =>
    intro a;rw[List.foldl_cons,ih]
    constructor
    · rintro (h | ⟨x,hx,h⟩)
      · by_cases h2:a<b
        · exact .inl h2
        · exact .inr ⟨y,by simp,by omega⟩
      · exact .inr ⟨x,by simp[hx],h⟩
    · rintro (h | ⟨x,hx,h⟩)
      · exact .inl (by omega)
      · rcases List.mem_cons.1 hx with rfl | hx
        · exact .inl (by omega)
        · exact .inr ⟨x,hx,h⟩
theorem zf7 (l:List Int) (b:Int):∀ a,b<l.foldl max a↔b<a∨∃ x∈l,b<x:=by
  induction l with
  | nil=>intro a;simp
  | cons y l ih =>
    intro a;rw[List.foldl_cons,ih]
    constructor
    · rintro (h | ⟨x,hx,h⟩)
      · by_cases h2:b<a
        · exact .inl h2
        · exact .inr ⟨y,by simp,by omega⟩
      · exact .inr ⟨x,by simp[hx],h⟩
    · rintro (h | ⟨x,hx,h⟩)
      · exact .inl (by omega)
      · rcases List.mem_cons.1 hx with rfl | hx
        · exact .inl (by omega)
        · exact .inr ⟨x,hx,h⟩
theorem zpN (l:List Int) (h:l≠[]):zl8 l↔1≤ztF l∧zps l≤20:=by
  have e:l=l.headD 0::l.tail:=by
    cases l with
    | nil=>exact absurd rfl h
    | cons a l=>rfl
  have h1:=zlc l.tail 1 (l.headD 0);have h2:=zf7 l.tail 20 (l.headD 0);unfold ztF zps
  constructor
  · intro hf
    rw[e] at hf
    constructor
    · rcases (show l.tail.foldl min (l.headD 0)<1∨1≤l.tail.foldl min (l.headD 0) by omega) with h3 | h3
      · rcases h1.1 h3 with h4 | ⟨x,hx,h4⟩
        · have:=hf (l.headD 0) (by simp);omega
        · have:=hf x (by simp[hx]);omega
      · exact h3
    · rcases (show 20<l.tail.foldl max (l.headD 0)∨l.tail.foldl max (l.headD 0)≤20 by omega) with h3 | h3
      · rcases h2.1 h3 with h4 | ⟨x,hx,h4⟩
        · have:=hf (l.headD 0) (by simp);omega
        · have:=hf x (by simp[hx]);omega
      · exact h3
  · rintro⟨h3,h4⟩ x hx
    rw[e] at hx
    constructor
    · rcases (show x<1∨1≤x by omega) with h5 | h5
      · have:=h1.2 (by
          rcases List.mem_cons.1 hx with rfl | hx
          · exact .inl h5
          · exact .inr ⟨x,hx,h5⟩)
        omega
      · exact h5
    · rcases (show 20<x∨x≤20 by omega) with h5 | h5
      · have:=h2.2 (by
          rcases List.mem_cons.1 hx with rfl | hx
          · exact .inl h5
          · exact .inr ⟨x,hx,h5⟩)
        omega
      · exact h5
theorem zi2 (f:Int→Int→Int) (l:List Int) (a:Int) (k:Nat) (h:k<l.length):(l.take (k+1)).foldl f a=f ((l.take k).foldl f a) (l[k]?.getD 0):=by
  rw[List.take_succ_eq_append_getElem h,List.foldl_append,List.getElem?_eq_getElem h];rfl
theorem zua (w:World) (v:Value) (l:List Int) (hv:IsInts w w.heap.size v l) (hl:l.length≤1000000) (h0:l≠[]) :
    Calls Tryz.prog 93 #[v] w fun e w'=>e=.returned (.int .i64 (ztF l))∧w=w':=by
  obtain⟨A,ca,rfl,hc1,hc2⟩:=hv.shape;obtain⟨N,hN⟩:∃ N,l.length=N+1:=⟨l.length-1,by have:=List.length_pos_iff.2 h0;omega⟩
  obtain⟨g,o,hg,hgs,hx0⟩:=hv.at 0 (by omega)
  obtain rfl:=hg
  have hall:∀ i,i<N+1→w.cell? ⟨g,o+i,none⟩=some (.int .i64 (l[i]?.getD 0)):=fun i hi=>by
    obtain⟨g',o',he,_,hx⟩:=hv.at i (by omega)
    injection he with he
    injection he with h1 h2
    rw[←h1,←h2] at hx;exact hx
  have hhd:l[0]?.getD 0=l.headD 0:=by cases l <;> rfl
  have htl:l.tail.length=N:=by rw[List.length_tail];omega
  have hti:∀ i,i<N→l[i+1]?.getD 0=l.tail[i]?.getD 0:=fun i hi=>by
    rw[List.getElem?_eq_getElem (by omega),List.getElem?_eq_getElem (by omega)]
    simp
  rw[Nat.add_zero,hhd] at hx0;have hmin:ztF l=l.tail.foldl min (l.headD 0):=rfl;generalize l.headD 0=z at *
  generalize l.tail=T at *
  rw[hN] at hc1 ⊢;have Hall:=Lib.hid hall;have Hmin:=Lib.hid hmin;have Hti:=Lib.hid hti;have Htl:=Lib.hid htl;have hN2:N≤1000000:=by omega
  clear hv hall hmin hhd hti htl h0 hN hl hc1 hc2
  go_enter Tryz.func93,Tryz.ntmps93
  go_wp2
  go_loop [3,4] (fun mv iv=>∃ k:Nat,k≤N∧iv=.int .i64 ((k+1:Nat):Int)∧mv=.int .i64 ((T.take k).foldl min z)) (fun _ iv=>N+2-(intOf iv).toNat)
  case atStart=>exact⟨0,Nat.zero_le _,rfl,rfl⟩
  case round =>
    obtain⟨k,hk,rfl,rfl⟩:=hrel;clear hx0
    by_cases hlt:k<N
    · have hc:=Hall.out (k+1) (by omega)
      have hfo:=zi2 min T z k (by rw[Htl.out];exact hlt)
      rw[Hti.out k hlt] at hc;generalize T[k]?.getD 0=x at *
      obtain⟨m,hm⟩:∃ m,(T.take k).foldl min z=m:=⟨_,rfl⟩;rw[hm] at hfo ⊢;have Hfo:=Lib.hid hfo;clear hfo hm
      by_cases hxm:x<m
      · go_wp2
        go_round
        case rel=>exact⟨k+1,by omega,by go_num,by rw[Hfo.out,Int.min_eq_right (by omega)]⟩
        case measure=>simp[intOf];omega
      · go_wp2
        go_round
        case rel=>exact⟨k+1,by omega,by go_num,by rw[Hfo.out,Int.min_eq_left (by omega)]⟩
        case measure=>simp[intOf];omega
    · obtain rfl:k=N:=by omega
      go_wp2
      go_ret
      exact⟨zbU (by rw[Hmin.out,List.take_of_length_le (by rw[Htl.out];exact Nat.le_refl _)]),rfl⟩
theorem zqj (w:World) (v:Value) (l:List Int) (hv:IsInts w w.heap.size v l) (hl:l.length≤1000000) (h0:l≠[]) :
    Calls Tryz.prog 80 #[v] w fun e w'=>e=.returned (.int .i64 (zps l))∧w=w':=by
  obtain⟨A,ca,rfl,hc1,hc2⟩:=hv.shape;obtain⟨N,hN⟩:∃ N,l.length=N+1:=⟨l.length-1,by have:=List.length_pos_iff.2 h0;omega⟩
  obtain⟨g,o,hg,hgs,hx0⟩:=hv.at 0 (by omega)
  obtain rfl:=hg
  have hall:∀ i,i<N+1→w.cell? ⟨g,o+i,none⟩=some (.int .i64 (l[i]?.getD 0)):=fun i hi=>by
    obtain⟨g',o',he,_,hx⟩:=hv.at i (by omega)
    injection he with he
    injection he with h1 h2
    rw[←h1,←h2] at hx;exact hx
  have hhd:l[0]?.getD 0=l.headD 0:=by cases l <;> rfl
  have htl:l.tail.length=N:=by rw[List.length_tail];omega
  have hti:∀ i,i<N→l[i+1]?.getD 0=l.tail[i]?.getD 0:=fun i hi=>by
    rw[List.getElem?_eq_getElem (by omega),List.getElem?_eq_getElem (by omega)]
    simp
  rw[Nat.add_zero,hhd] at hx0;have hmin:zps l=l.tail.foldl max (l.headD 0):=rfl;generalize l.headD 0=z at *
  generalize l.tail=T at *
  rw[hN] at hc1 ⊢;have Hall:=Lib.hid hall;have Hmin:=Lib.hid hmin;have Hti:=Lib.hid hti;have Htl:=Lib.hid htl;have hN2:N≤1000000:=by omega
  clear hv hall hmin hhd hti htl h0 hN hl hc1 hc2
  go_enter Tryz.func80,Tryz.ntmps80
  go_wp2
  go_loop [3,4] (fun mv iv=>∃ k:Nat,k≤N∧iv=.int .i64 ((k+1:Nat):Int)∧mv=.int .i64 ((T.take k).foldl max z)) (fun _ iv=>N+2-(intOf iv).toNat)
  case atStart=>exact⟨0,Nat.zero_le _,rfl,rfl⟩
  case round =>
    obtain⟨k,hk,rfl,rfl⟩:=hrel;clear hx0
    by_cases hlt:k<N
    · have hc:=Hall.out (k+1) (by omega)
      have hfo:=zi2 max T z k (by rw[Htl.out];exact hlt)
      rw[Hti.out k hlt] at hc;generalize T[k]?.getD 0=x at *
      obtain⟨m,hm⟩:∃ m,(T.take k).foldl max z=m:=⟨_,rfl⟩;rw[hm] at hfo ⊢;have Hfo:=Lib.hid hfo;clear hfo hm
      by_cases hxm:m<x
      · go_wp2
        go_round
        case rel=>exact⟨k+1,by omega,by go_num,by rw[Hfo.out,Int.max_eq_right (by omega)]⟩
        case measure=>simp[intOf];omega
      · go_wp2
        go_round
        case rel=>exact⟨k+1,by omega,by go_num,by rw[Hfo.out,Int.max_eq_left (by omega)]⟩
        case measure=>simp[intOf];omega
    · obtain rfl:k=N:=by omega
      go_wp2
      go_ret
      exact⟨zbU (by rw[Hmin.out,List.take_of_length_le (by rw[Htl.out];exact Nat.le_refl _)]),rfl⟩
def zjC (l:List Nat):Array Value:=((List.range 21).map fun k=>Value.int .i64 (l.count k:Nat)).toArray
theorem zg1 (l:List Nat):(zjC l).size=21:=by simp[zjC]
theorem zgH (l:List Nat) (c:Nat) (h:c<21):(zjC l)[c]?=some (.int .i64 (l.count c:Nat)):=by simp[zjC,h]
theorem zls (l:List Nat) (c:Nat) (h:¬ c<21):(zjC l)[c]?=none:=Array.getElem?_eq_none (by rw[zg1];omega)
theorem zsd (l:List Nat):(zjC l).all (·.oneCell')=true:=by simp[zjC,Value.oneCell']
theorem zr7 (l:List Nat) (x:Nat) (hx:x<21):(zjC l).setIfInBounds x (.int .i64 ((l.count x+1:Nat):Int))=zjC (l++[x]):=by
  apply Array.ext_getElem?
  intro i;rw[Array.getElem?_setIfInBounds]
  by_cases hi:i<21
  · rw[zgH _ _ hi,zgH _ _ hi,List.count_append,zg1]
    by_cases h:x=i
    · subst h;simp[hx]
    · rw[if_neg h]
      simp[h]
  · rw[zls _ _ hi,zls _ _ hi,if_neg (by omega)]
theorem ztz:(Tryz.prog.info? 163).map (·.size)=some 21:=by kernel_rfl
theorem ztB:∀ W,(zeroValue 163).run Tryz.prog W=.ok (.agg (zjC [])) W:=fun _=>by kernel_rfl
theorem zji (cs:Array Value) (k:Nat) (v:Value) (hk:k<21) (h:cs[k]?=some v) (W:World):(Instr.index 163 (.agg cs) (.int .i64 (k:Int))).run Tryz.prog W=.ok v W:=by
  have h2:(sizeOf 3).run Tryz.prog W=.ok 1 W:=by kernel_rfl
  simp[Instr.index,run_underlying Tryz.underlying163,asIntOf,h2,hk,h,go_sem]
theorem zlT (w:World) (v:Value) (l:List Nat) (hv:IsInts w w.heap.size v (ints l)) (hl:l.length≤1000000) (hf:∀ x∈l,x<21) :
    Calls Tryz.prog 94 #[v] w fun e w'=>e=.returned (.agg (zjC l))∧Below w.heap.size w w':=by
  obtain⟨A,ca,rfl,hc1,hc2⟩:=hv.shape;have hli:=zad l;obtain⟨N,hN⟩:∃ N,l.length=N:=⟨_,rfl⟩;rw[hli,hN] at hc1;rw[hli,hN] at hv ⊢;have Hv:=Lib.hid hv;have HN:=Lib.hid hN;have Hf:=Lib.hid hf;have hz:=ztB;obtain⟨Z,hZ⟩:∃ Z,zjC []=Z:=⟨_,rfl⟩;rw[hZ] at hz;have HZ:=Lib.hid hZ;rw[hN] at hl;clear hv hf hZ hN hli
  go_enter Tryz.func94,Tryz.ntmps94
  go_wp2
  have hZb:(w.alloc (.cells Z 163)).heap[w.heap.size]?=some (.cells Z 163 (0,0)):=zae _ _ _ rfl
  go_loopw [7] (fun i wr=>∃ k:Nat,k≤N∧i=.int .i64 k∧wr.heap[w.heap.size]?=some (.cells (zjC (l.take k)) 163 (0,0))∧Below w.heap.size w wr) (fun i _=>N+1-(intOf i).toNat)
  case atStart=>exact⟨0,Nat.zero_le _,rfl,by rw[List.take_zero,HZ.out];exact hZb,(Below.refl _ _).alloc (Nat.le_refl _) _⟩
  case round =>
    obtain⟨k,hk,rfl,hh,hB⟩:=hrel;have Hh:=Lib.hid hh;clear hh hZb
    by_cases hlt:k<N
    · obtain⟨g,o,rfl,hg,hx⟩:=Hv.out.at k (by rw[zad,HN.out];exact hlt)
      have hxe:(ints l)[k]?.getD 0=((l[k]?.getD 0:Nat):Int):=by simp[ints,List.getElem?_eq_getElem (show k<l.length by rw[HN.out];exact hlt)]
      rw[hxe] at hx;have hx':=(hB.cell (p:=⟨g,o+k,none⟩) hg).trans hx
      have hx21:l[k]?.getD 0<21:=by
        rw[List.getElem?_eq_getElem (show k<l.length by rw[HN.out];exact hlt)]
        exact Hf.out _ (List.getElem_mem _)
      have htk:l.take (k+1)=l.take k++[l[k]?.getD 0]:=by
        rw[List.take_succ_eq_append_getElem (show k<l.length by rw[HN.out];exact hlt),List.getElem?_eq_getElem (show k<l.length by rw[HN.out];exact hlt)]
        rfl
      obtain⟨x,hxx⟩:∃ x,l[k]?.getD 0=x:=⟨_,rfl⟩;rw[hxx] at hx' hx21 htk;have hcl:(l.take k).count x≤k:=Nat.le_trans List.count_le_length (List.length_take_le _ _);have hc:=(zaa Hh.out x).trans (zgH _ _ hx21);have hfz:=zac Hh.out x
      have Ht:Hid (zjC (l.take (k+1))=(zjC (l.take k)).setIfInBounds x (.int .i64 (((l.take k).count x+1:Nat):Int))):=by
        show _=_
        rw[zr7 _ _ hx21,htk]
      have hset:=Lib.hid (zaf Hh.out x (.int .i64 (((l.take k).count x+1:Nat):Int)));obtain⟨c,hcc⟩:∃ c,(l.take k).count x=c:=⟨_,rfl⟩;rw[hcc] at hc hset Ht hcl;have hx0:(0:Int)≤(x:Int):=by omega
      have hxi:(x:Int)<21:=by omega
      clear hxx htk hx hxe hcc
      go_wp2
      go_roundw
      case rel=>exact⟨k+1,by omega,by go_num,by rw[Ht.out];exact hset.out,hB.setCell (p:=⟨w.heap.size,_,none⟩) (Nat.le_refl _) _⟩
      case measure=>simp[intOf];omega
    · obtain rfl:k=N:=by omega
      have Hh:Hid (wr.heap[w.heap.size]?=some (.cells (zjC l) 163 (0,0))):=by
        show _=_
        have:=Hh.out;rw[List.take_of_length_le (by rw[HN.out];exact Nat.le_refl _)] at this
        exact this
      generalize hS:zjC l=S at *
      have hSs:S.size=21:=by rw[←hS];exact zg1 _
      have hS1:S.all (·.oneCell')=true:=by rw[←hS];exact zsd _
      have hi:(Tryz.prog.info? 163).map (·.size)=some S.size:=by rw[hSs];exact ztz
      have HS:=Lib.hid hS;have Hi:=Lib.hid hi;have HS1:=Lib.hid hS1;clear hS hSs hi hS1
      go_wp2_with
        (first
          | (refine wpList_load_row rfl 163 _ rfl w.heap.size rfl _ S _ _ Hh.out Tryz.underlying163 rfl Hi.out ?_)
          | (refine zaT rfl 163 _ _ rfl w.heap.size S S _ rfl rfl Hh.out rfl Hi.out HS1.out ?_
             intro w2 hg2 hs2 hk2 hb2;have Hg2:=Lib.hid hg2;have HB2:=Lib.hid (hb2 _ _ (Nat.le_refl _) hB);clear hg2 hs2 hk2 hb2))
      refine bodyPost_ret (results_cell_row rfl _ _ w.heap.size _ S _ _ rfl Hg2.out Tryz.underlying163 rfl Hi.out) rfl ⟨by rw[HS.out],HB2.out⟩
def zdA (l:List Nat):Nat→Int
  | 0=>1
  | k+1=>2 ^ k-(zaH l k:Int)
theorem ze5 (l:List Nat) (k:Nat):zdA l (k+1)=2 ^ k-(zaH l k:Int):=rfl
theorem zo4 (l:List Nat) (k:Nat):zdA l (k+2)=zdA l (k+1)*2-(l.count (k+1):Nat):=by
  rw[ze5,ze5,zaH,Int.pow_succ];omega
theorem zlZ (l:List Nat) (k:Nat) (hk:k≤21) (h:0≤zdA l k):zdA l k≤1048576:=by
  cases k with
  | zero=>simp[zdA]
  | succ k =>
    rw[ze5] at *
    have:(2:Int) ^ k≤2 ^ 20:=by
      rw[zgZ,zgZ];exact Int.ofNat_le.2 (Nat.pow_le_pow_right (by omega) (by omega))
    have e:(2:Int) ^ 20=1048576:=by decide
    omega
theorem zdQ (w:World) (v:Value) (l:List Int) (hv:IsInts w w.heap.size v l) (hl:l.length≤1000000) :
    Calls Tryz.prog 31 #[v] w fun e w'=>e=.returned (.int .i64 (zdN l))∧Below w.heap.size w w':=by
  by_cases hs:l.length<2∨258<l.length
  · have hc:zdN l=1:=by unfold zdN;rw[if_pos (by omega)]
    rw[hc];obtain⟨A,ca,rfl,hc1,hc2⟩:=hv.shape;clear hv hc;obtain⟨N,hN⟩:∃ N,l.length=N:=⟨_,rfl⟩;rw[hN] at hs hc1 ⊢;clear hN;rcases hs with hs | hs
    · go_enter Tryz.func31,Tryz.ntmps31
      go_wp2_with fail
      go_ret
      exact⟨rfl,Below.refl _ _⟩
    · go_enter Tryz.func31,Tryz.ntmps31
      go_wp2_with fail
      go_ret
      exact⟨rfl,Below.refl _ _⟩
  · have h2:2≤l.length:=by omega
    have h258:l.length≤258:=by omega
    have hne:l≠[]:=fun e=>by rw[e] at h2;simp at h2
    have CMin:Hid (Calls Tryz.prog 93 #[v] w fun e w'=>e=.returned (.int .i64 (ztF l))∧w=w'):=zua w v l hv (by omega) hne
    have CMax:Hid (Calls Tryz.prog 80 #[v] w fun e w'=>e=.returned (.int .i64 (zps l))∧w=w'):=zqj w v l hv (by omega) hne
    have hfi:=zpN l hne
    by_cases hf:zl8 l
    · have hin:=zop l fun x hx=>by have:=hf x hx;omega
      obtain⟨m,hm⟩:∃ m,l.map Int.toNat=m:=⟨_,rfl⟩
      have hc:zdN l=if 1048576<zdU m then 6 else 0:=by
        unfold zdN;rw[if_neg (by simp only[hf,not_true,or_false];omega),hm]
      rw[hc];obtain⟨R,hR⟩:∃ R:Int,(if 1048576<zdU m then 6 else 0)=R:=⟨_,rfl⟩
      rw[hR];have HR6:Hid (1048576<zdU m→R=6):=fun h=>by rw[←hR,if_pos h]
      have HR0:Hid (zdU m≤1048576→R=0):=fun h=>by rw[←hR,if_neg (by omega)]
      clear hR;rw[hm] at hin;have hmf:zoR m:=(zfZ m).1 (by rw[hin];exact hf)
      have hml:m.length=l.length:=by rw[←hm];simp
      have CC:Hid (Calls Tryz.prog 94 #[v] w fun e w'=>e=.returned (.agg (zjC m))∧Below w.heap.size w w') :=
        zlT w v m (by rw[hin];exact hv) (by omega) fun x hx=>by have:=hmf x hx;omega
      have hk:=zho m hmf;have hover:=fun j hj=>ziy m (j:=j) (k:=20) hj
      have hk6:∀ k,k≤20→zdA m (k+1)<0→1048576<zdU m:=fun k hk20 hlt=>by
        have h3:2 ^ k<zaH m k:=by
          rw[ze5,zgZ] at hlt;omega
        have h4:=hover k hk20 h3;rw[hk] at h4;have e:(2:Nat) ^ 20=1048576:=by decide
        omega
      have hk0:0≤zdA m 21→zdU m≤1048576:=fun h=>by
        show zdU m≤1048576
        have h5:zdA m 21=2 ^ 20-(zaH m 20:Int):=rfl;rw[hk] at h5;have e:(2:Int) ^ 20=1048576:=by decide
        omega
      have hcl:∀ k,m.count k≤258:=fun k=>Nat.le_trans List.count_le_length (by omega)
      have hls:=zo4 m;have h0c:m.count 0=0:=List.count_eq_zero.2 fun h=>by have:=hmf 0 h;omega
      have hl1:zdA m 1=1:=rfl;have hlb:=zlZ m;have hl0:zdA m 0=1:=rfl;obtain⟨hmn,hmx⟩:=hfi.1 hf;generalize ztF l=mn at *
      generalize zps l=mx at *
      obtain⟨A,ca,rfl,hc1,hc2⟩:=hv.shape;obtain⟨N,hN⟩:∃ N,l.length=N:=⟨_,rfl⟩;have hcg:=zgH m;generalize zjC m=C at *
      have Hk6:=Lib.hid hk6;have Hk0:=Lib.hid hk0;have Hcl:=Lib.hid hcl;have Hls:=Lib.hid hls;have H0c:=Lib.hid h0c;have Hlb:=Lib.hid hlb;have Hcg:=Lib.hid hcg;have Hl0:=Lib.hid hl0;have Hl1:=Lib.hid hl1;generalize hK:zdU m=K at *
      rw[hN] at h2 h258 CMin CMax CC hc1 ⊢;clear hv hs hne hfi hf hin hm hc hmf hml hk hover hk6 hk0 hcl hls h0c hlb hcg hl0 hl1 hK hN hl
      go_enter Tryz.func31,Tryz.ntmps31
      go_wp2_with fail
      refine CMin.out.mono ?_;rintro e w_ ⟨rfl,rfl⟩
      go_wp2_with fail
      refine CMax.out.mono ?_;rintro e w_ ⟨rfl,rfl⟩
      go_wp2_with fail
      refine CC.out.mono ?_;rintro e w1 ⟨rfl,hB1⟩;clear CMin CMax CC
      go_wp2_with fail
      go_loopw [3,26] (fun lv iv wr=>∃ k:Nat,k≤21∧iv=.int .i64 k∧lv=.int .i64 (zdA m k)∧0≤zdA m k∧Hid (wr=w1)) (fun _ iv _=>21-(intOf iv).toNat)
      case atStart=>exact⟨0,Nat.zero_le _,rfl,by rw[Hl0.out],by rw[Hl0.out];omega,Lib.hid rfl⟩
      case round =>
        obtain⟨k,hk,rfl,rfl,hl0,hw⟩:=hrel;have hlb:=Hlb.out k hk hl0
        by_cases hlt:k<21
        · have hidx:=zji C k _ hlt (Hcg.out k hlt)
          have hcl:=Hcl.out k;rcases Nat.eq_zero_or_pos k with rfl | hpos
          · rw[H0c.out] at hidx
            have hidx0:∀ W,(Instr.index 163 (.agg C) (.int .i64 0)).run Tryz.prog W=.ok (.int .i64 0) W:=hidx;clear hidx;have e0:zdA m 0=1:=Hl0.out;have e1:zdA m 1=1:=Hl1.out;rw[e0];have He1:=Lib.hid e1;clear e0 e1 hl0 hlb hcl
            go_wp2_with fail
            go_roundw
            case rel=>exact⟨1,by omega,rfl,by rw[He1.out],by rw[He1.out];omega,hw⟩
            case measure=>simp[intOf]
          · obtain⟨j,rfl⟩:∃ j,k=j+1:=⟨k-1,by omega⟩
            have hst:=Hls.out j;have hov:=Hk6.out (j+1) (by omega)
            obtain⟨a,ha⟩:∃ a,zdA m (j+1)=a:=⟨_,rfl⟩;obtain⟨c,hc⟩:∃ c,m.count (j+1)=c:=⟨_,rfl⟩;obtain⟨b,hb⟩:∃ b,zdA m (j+1+1)=b:=⟨_,rfl⟩;rw[ha,hc] at hst;rw[show zdA m (j+2)=b from hb] at hst
            rw[hb] at hov;rw[hc] at hidx hcl;rw[ha] at hl0 hlb ⊢;have Hb:=Lib.hid hb;have Hst:=Lib.hid hst;have hb1:b=a*2-(c:Int):=hst;have Hov:=Lib.hid hov;have hgt:decide ((0:Int)<(j:Int)+1)=true:=by rw[decide_eq_true_eq];omega
            have hidx1:∀ W,(Instr.index 163 (.agg C) (.int .i64 ((j:Int)+1))).run Tryz.prog W=.ok (.int .i64 (c:Int)) W:=hidx;clear ha hc hb hst hov hb1 hidx
            by_cases hneg:a*2-(c:Int)<0
            · have h6:Hid (1048576<K):=Hov.out (by rw[Hst.out];exact hneg)
              go_wp2_with fail
              go_ret
              exact⟨zbU (HR6.out h6.out).symm,by rw[hw.out];exact hB1⟩
            · go_wp2_with fail
              go_roundw
              case rel=>exact⟨j+1+1,by omega,by go_num,by rw[Hb.out,Hst.out],by rw[Hb.out,Hst.out];omega,hw⟩
              case measure=>simp[intOf];omega
        · obtain rfl:k=21:=by omega
          have h7:=Lib.hid (Hk0.out hl0);clear hl0 hlb
          go_wp2_with fail
          go_ret
          exact⟨zbU (HR0.out h7.out).symm,by rw[hw.out];exact hB1⟩
    · have hc:zdN l=1:=by unfold zdN;rw[if_pos (.inr (.inr hf))]
      rw[hc];have hmm:¬ (1≤ztF l∧zps l≤20):=fun h=>hf (hfi.2 h);generalize ztF l=mn at *
      generalize zps l=mx at *
      obtain⟨A,ca,rfl,hc1,hc2⟩:=hv.shape;obtain⟨N,hN⟩:∃ N,l.length=N:=⟨_,rfl⟩;rw[hN] at h2 h258 CMin CMax hc1 ⊢;clear hv hs hne hfi hf hc hN hl
      by_cases h1:mn<1
      · clear CMax hmm
        go_enter Tryz.func31,Tryz.ntmps31
        go_wp2_with fail
        refine CMin.out.mono ?_;rintro e w_ ⟨rfl,rfl⟩
        go_wp2_with fail
        go_ret
        exact⟨rfl,Below.refl _ _⟩
      · have h3:20<mx:=by omega
        have h4:1≤mn:=by omega
        clear hmm h1
        go_enter Tryz.func31,Tryz.ntmps31
        go_wp2_with fail
        refine CMin.out.mono ?_;rintro e w_ ⟨rfl,rfl⟩
        go_wp2_with fail
        refine CMax.out.mono ?_;rintro e w_ ⟨rfl,rfl⟩
        go_wp2_with fail
        go_ret
        exact⟨rfl,Below.refl _ _⟩
end Go.Proofs.YtoejfkeofbdalaaGreatDoor
namespace Go.Proofs.YtoejfkeofbdalaaGreatDoor
theorem zbm (f:Nat→List Nat) (m:Nat):((List.range m).flatMap f).length=((List.range m).map fun d=>(f d).length).sum:=by
  induction m with
  | zero=>rfl
  | succ m ih=>rw[List.range_succ,List.flatMap_append,List.length_append,ih,List.map_append,List.sum_append];simp
theorem zk3 (g:Nat→Nat) {c m:Nat} (h:c≤m):((List.range c).map g).sum≤((List.range m).map g).sum:=by
  induction h with
  | refl=>exact Nat.le_refl _
  | step _ ih=>rw[List.range_succ,List.map_append,List.sum_append];omega
theorem zeu (g:Nat→Nat) (c:Nat):((List.range (c+1)).map g).sum=((List.range c).map g).sum+g c:=by
  rw[List.range_succ,List.map_append,List.sum_append];simp
theorem zfN (f:Nat→List Nat) (m c r:Nat) (hc:c<m) (hr:r<(f c).length) :
    ((List.range m).flatMap f)[((List.range c).map fun d=>(f d).length).sum+r]?=(f c)[r]?:=by
  induction m with
  | zero=>omega
  | succ m ih =>
    rw[List.range_succ,List.flatMap_append]
    by_cases h:c<m
    · have h1:=zk3 (fun d=>(f d).length) (show c+1≤m by omega)
      rw[zeu] at h1;rw[List.getElem?_append_left (by rw[zbm];omega)]
      exact ih h
    · obtain rfl:c=m:=by omega
      rw[List.getElem?_append_right (by rw[zbm];omega),zbm]
      simp
def zpq (L:List Nat) (c:Nat):Nat:=((List.range c).map fun d=>L.count d).sum
theorem zkO (L:List Nat):zpq L 0=0:=rfl
theorem zhK (L:List Nat) (c:Nat):zpq L (c+1)=zpq L c+L.count c:=zeu _ c
theorem zpP (L:List Nat) (c:Nat):zpq L c≤L.length:=by
  have h:∀ c,zpq L c+(L.filter fun x=>decide (c≤x)).length=L.length:=by
    intro c
    induction c with
    | zero=>rw[zkO];simp
    | succ c ih =>
      rw[zhK]
      have:(L.filter fun x=>decide (c≤x)).length=L.count c+(L.filter fun x=>decide (c+1≤x)).length:=by
        clear ih
        induction L with
        | nil=>rfl
        | cons x l ih =>
          rw[List.count_cons,List.filter_cons,List.filter_cons];rcases Nat.lt_trichotomy x c with h | h | h
          · rw[if_neg (by simpa using h),if_neg (by simp;omega),if_neg (by simp;omega),ih];omega
          · subst h
            rw[if_pos (by simp),if_pos (by simp),if_neg (by simp),List.length_cons,ih];omega
          · rw[if_pos (by simp;omega),if_neg (by simp;omega),if_pos (by simp;omega),List.length_cons,List.length_cons,ih];omega
      omega
  have:=h c;omega
def zob (L:List Nat) (i:Nat):Nat:=zpq L (L[i]?.getD 0)+(L.take i).count (L[i]?.getD 0)
theorem zff (L:List Nat) (i:Nat) (h:i<L.length):(L.take i).count (L[i]?.getD 0)<L.count (L[i]?.getD 0):=by
  obtain⟨x,hx⟩:∃ x,L[i]?=some x:=⟨_,List.getElem?_eq_getElem h⟩;rw[hx]
  have e:L=L.take i++x::L.drop (i+1):=by
    have:=(List.getElem?_eq_some_iff.1 hx).2;rw[←this,List.getElem_cons_drop,List.take_append_drop]
  have:L.count x=(L.take i++x::L.drop (i+1)).count x:=by rw[←e]
  simp only[Option.getD_some];rw[this,List.count_append,List.count_cons];simp
theorem zra (L:List Nat) (i:Nat) (h:i<L.length):zob L i<L.length:=by
  have h1:=zff L i h;have h2:=zpP L (L[i]?.getD 0+1);rw[zhK] at h2;unfold zob;omega
theorem zjX (L:List Nat) (hL:∀ x∈L,x<256) (i:Nat) (h:i<L.length):(zeJ L)[zob L i]?=some i:=by
  obtain⟨x,hx⟩:∃ x,L[i]?=some x:=⟨_,List.getElem?_eq_getElem h⟩;have hc:=zff L i h;have hxl:=hL x (List.mem_of_getElem? hx);unfold zob;rw[hx] at hc ⊢;simp only[Option.getD_some] at hc ⊢;have h1:=zfN (zbr L) 256 x ((L.take i).count x) hxl (by rw[zaY];exact hc)
  have h2:((List.range x).map fun d=>(zbr L d).length).sum=zpq L x:=by
    unfold zpq;rw[List.map_congr_left fun d _=>zaY L d]
  rw[h2,zed L x i hx] at h1;exact h1
theorem zq0 (L:List Nat) (hL:∀ x∈L,x<256) (X:List Nat) (hX:X.length=L.length) (h:∀ i,i<L.length→X[zob L i]?=some i):X=zeJ L:=by
  have hl:=zdl L hL;apply List.ext_getElem?
  intro j
  by_cases hj:j<L.length
  · obtain⟨i,hi⟩:∃ i,(zeJ L)[j]?=some i:=⟨_,List.getElem?_eq_getElem (by omega)⟩
    have hil:=(zei L hL i).1 (List.mem_of_getElem? hi);have h1:=zjX L hL i hil;have hp:=zra L i hil
    have e:zob L i=j:=by
      rw[List.getElem?_eq_getElem (by omega)] at h1 hi
      injection h1 with h1
      injection hi with hi
      exact (List.getElem_inj (ziU L)).1 (h1.trans hi.symm)
    rw[hi,←e];exact h i hil
  · rw[List.getElem?_eq_none (by omega),List.getElem?_eq_none (by omega)]
theorem zlP (L:List Nat) (hL:∀ x∈L,x<256) (j:Nat) (h:j<L.length):(zeJ L)[j]?.getD 0<L.length:=by
  have hl:=zdl L hL;rw[List.getElem?_eq_getElem (by omega)]
  exact (zei L hL _).1 (List.getElem_mem (by omega))
theorem zsU (L:List Nat) (hL:∀ x∈L,x<256) (i k:Nat) (hi:i<L.length) (hk:k<L.length) (h:zob L i=zob L k):i=k:=by
  have h1:=zjX L hL i hi;rw[h,zjX L hL k hk] at h1;injection h1 with h1
  exact h1.symm
theorem zhg (v:List Nat):∀ k j,zd1 v (k+1) j=v[zd1 v k j]?.getD 0
  | 0,j=>rfl
  | k+1,j=>by
    show zd1 v (k+1) (v[j]?.getD 0)=_
    rw[zhg v k];rfl
end Go.Proofs.YtoejfkeofbdalaaGreatDoor
namespace Go.Proofs.YtoejfkeofbdalaaGreatDoor
open Go.RowKit
def zrN (s:List UInt8) (t a c:Nat):Except Int (List Nat × Nat) :=
  match ziV t c (List.range 6) (rest s a) with
  | .error e=>.error e
  | .ok (l,r)=>.ok (l,a+((rest s a).length-r.length))
def zhs (w:World) (r:Except Int (List Nat × Nat)) (e:Ending) (w':World):Prop :=
  match r with
  | .ok (l,x)=>∃ v,e=.returned (.tuple #[v,.int .i64 (x:Nat),.int .i64 0])∧OwnInts w' w.heap.size v (ints l)∧Below w.heap.size w w'
  | .error c=>e=.returned (.tuple #[.slice none 0 0,.int .i64 0,.int .i64 c])∧Below w.heap.size w w'
structure SelSt (w wr:World) (p:List Nat) (t:Nat) (v:Value) (l:List Nat):Prop where
  bel:Below w.heap.size w wr
  size:w.heap.size+1≤wr.heap.size
  row:zhc wr w.heap.size p t
  own:OwnInts wr (w.heap.size+1) v (ints l)
theorem zfm {k:Nat} {W W':World} {base e size n:Nat} {v:Value} {xs:List Value} (h:W.ownsRow base e size v n xs) (hO:Only k W W') (hk:k<base):W'.ownsRow base e size v n xs:=by
  refine⟨h.1,?_⟩;rcases h.2 with h0 | ⟨g,cap,cur,e1,e2,e3,e4⟩
  · exact .inl h0
  · exact .inr ⟨g,cap,cur,e1,e2,(hO.block g (zab e3) (by omega)).trans e3,e4⟩
theorem SelSt.only {w wr w':World} {p q:List Nat} {t:Nat} {v:Value} {l:List Nat} (h:SelSt w wr p t v l) (hO:Only w.heap.size wr w') (hR:zhc w' w.heap.size q t):SelSt w w' q t v l :=
  have hs:=h.size
  ⟨h.bel.trans (hO.below (Nat.le_refl _) (by omega)),by have:=hO.size;omega,hR,zfm h.own hO (by omega)⟩
theorem znT (l:List Nat) (m:Nat):ints (l++[m])=ints l++[(m:Int)]:=by simp[ints]
theorem zl3:(157:TypeId)≠3:=by decide
theorem SelSt.appended {w wr w2:World} {p:List Nat} {t:Nat} {v v':Value} {l:List Nat} {m:Nat} {o:Obj} (h:SelSt w wr p t v l) (hg:(wr.alloc o).grownBy w2 v.ownBlock) (ho:OwnInts w2 (w.heap.size+1) v' (ints l++[(m:Int)])):SelSt w w2 p t v' (l++[m]):=by
  have hs:=h.size;refine⟨(h.bel.alloc (by omega) o).grown hg (by simp;omega) (fun k hk=>by have:=zaF h.own hk;omega),by have:=hg.size;simp at this;omega,?_,by rw[znT];exact ho⟩
  exact zwo (n:=0) hg (h.own.alloc o) zl3 (zah o h.row)
theorem zmF (w:World) (s:ByteArray) (a0 c t:Nat) (hs:s.size≤1099511627776) (hat:a0≤9223372036854775807) (hc:c≤1048576) (ht:2≤t) (ht6:t≤6) :
    Calls Tryz.prog 311 #[.string s,.int .i64 (a0:Nat),.int .i64 (c:Nat),.int .i64 (t:Nat)] w fun e w'=>zhs w (zrN s.data.toList t a0 c) e w':=by
  have CF:Hid (∀ W,Calls Tryz.prog 81 #[.int .i64 (t:Nat)] W fun e w'=>e=.returned (.bool true)∧W=w'):=fun W=>by
    have:=zts (t:Nat) W;rw[show (decide ((2:Int)≤(t:Nat)) && decide ((t:Int)≤6))=true by simp;omega] at this
    exact this
  have CO:=Lib.hid (zus w t ht6);have hl:s.data.toList.length=s.size:=by simp
  have HL:=Lib.hid hl;obtain⟨r0,hr0⟩:∃ r,ziV t c (List.range 6) (rest s.data.toList a0)=r:=⟨_,rfl⟩;obtain⟨X,hX⟩:∃ X,a0+(rest s.data.toList a0).length=X:=⟨_,rfl⟩
  have hres:Hid (∀ w' l r v a,r0=.ok (l,r)→a+r.length=X→w'.ownsRow (w.heap.size+1) 3 1 v (ints l).length (zaj (ints l))→Below w.heap.size w w'→zhs w (zrN s.data.toList t a0 c) (.returned (.tuple #[v,.int .i64 (a:Nat),.int .i64 0])) w'):=fun w' l r v a h1 h2 h3 h4=>by
    unfold zrN;rw[hr0,h1];have hrl:r.length≤(rest s.data.toList a0).length:=selP_cut.len_le t c _ _ _ _ (hr0.trans h1);refine⟨v,?_,zcF h3 (by omega),h4⟩
    rw[show a0+((rest s.data.toList a0).length-r.length)=a by omega]
  have herr:Hid (∀ w' e,r0=.error e→Below w.heap.size w w'→zhs w (zrN s.data.toList t a0 c) (.returned (.tuple #[.slice none 0 0,.int .i64 0,.int .i64 e])) w'):=fun w' e h1 h4=>by
    unfold zrN;rw[hr0,h1];exact⟨rfl,h4⟩
  generalize zrN s.data.toList t a0 c=R at *
  have HX:=Lib.hid hX;have Hr0:=Lib.hid hr0;have hd:decide ((a0:Int)<0)=false:=by simp
  have hd2:decide ((c:Int)<0)=false:=by simp
  have hd3:decide ((1048576:Int)<(c:Int))=false:=by simp;omega
  clear hr0 hX hl
  go_enter Tryz.func311,Tryz.ntmps311
  go_wp2_with fail
  refine (CF.out _).mono ?_;rintro e w1 ⟨rfl,rfl⟩
  go_wp2_with fail
  refine CO.out.mono ?_;rintro e w1 ⟨rfl,hw1⟩
  have S1:SelSt w w1 (List.range 6) t (.slice none 0 0) []:=by
    rw[hw1];exact⟨(Below.refl _ _).alloc (Nat.le_refl _) _,by simp,zae _ _ _ rfl,OwnInts.nil _ _⟩
  have HS1:=Lib.hid S1;clear S1 hw1 CO CF
  go_wp2_with fail
  go_loopw [1,8,33] (fun av cv iv wr=>∃ (j a:Nat) (p l:List Nat),j≤c∧av=.int .i64 (a:Nat)∧iv=.int .i64 (j:Nat)∧l.length=j∧zuS t p∧a≤9223372036854775807∧a+(rest s.data.toList a).length=X∧zpr l (ziV t (c-j) p (rest s.data.toList a))=r0∧SelSt w wr p t cv l) (fun _ _ iv _=>c+1-(intOf iv).toNat)
  case atStart=>exact⟨0,a0,List.range 6,[],by omega,rfl,rfl,rfl,zfK t ht6,hat,HX.out,by rw[zso];exact Hr0.out,HS1.out⟩
  case round =>
    obtain⟨j,a,p,l,hj,rfl,rfl,hll,htp,ha,hax,hpr,hS⟩:=hrel;have HS:=Lib.hid hS;have HLL:=Lib.hid hll;have HT:=Lib.hid htp;have HPR:=Lib.hid hpr;have HAX:=Lib.hid hax;clear hS hll htp hpr hax HS1
    by_cases hlt:j<c
    · obtain⟨oo,hoo⟩:∃ o,zcZ t 0 (rest s.data.toList a)=o:=⟨_,rfl⟩
      have HO:=Lib.hid hoo
      have hc6:wr.cell? ⟨w.heap.size,6,none⟩=some (.int .i64 (t:Nat)):=by
        rw[zaa HS.out.row 6];have:=HT.out.1;simp[zlF,this]
      clear hoo
      go_wp2_with fail
      obtain⟨wb,rfl⟩:∃ wb:World,wb=wr:=⟨_,rfl⟩;obtain⟨cw,hcw⟩:∃ cw,cw=u8:=⟨_,rfl⟩;rw[←hcw] at HS ⊢;clear hcw
      go_loopw [1,8,12] (fun av cv kv wr=>∃ (a2 k:Nat),cv=cw∧av=.int .i64 (a2:Nat)∧kv=.int .i64 (k:Nat)∧k<t∧a2≤9223372036854775807∧a2+(rest s.data.toList a2).length=X∧zcZ t k (rest s.data.toList a2)=oo∧wr=wb) (fun av _ _ _=>8*s.size+1-(intOf av).toNat)
      case atStart=>exact⟨a,0,rfl,rfl,rfl,by omega,ha,HAX.out,HO.out,rfl⟩
      case round =>
        obtain⟨a2,k,rfl,rfl,rfl,hk,ha2,hax2,hon,rfl⟩:=hrel;have HAX2:=Lib.hid hax2;have HON:=Lib.hid hon;clear hax2 hon
        by_cases hin:a2<8*s.size
        · have hrc:=zg8 s.data.toList a2 (by rw[HL.out];exact hin)
          have C:=Lib.hid (fun W=>zud s a2 W hs hin);have hon:=HON.out;have hax2:=HAX2.out;rw[hrc] at hon hax2;cases hb:B.bitAt s.data.toList a2 with
          | false =>
            rw[hb] at hon C;simp only[zcZ] at hon;simp only[List.length_cons] at hax2;have Hon:=Lib.hid hon;have Hax2:=Lib.hid hax2;clear hrc hon hax2 hb HON HAX2
            go_wp2_with fail
            refine (C.out _).mono ?_;rintro e w3 ⟨rfl,rfl⟩
            go_wp2_with fail
            refine (zrj wr w.heap.size p t k HT.out.1 (by omega) HS.out.row).mono ?_
            rintro e w4 ⟨rfl,hO4,hR4⟩;have HS4:=Lib.hid (HS.out.only hO4 hR4);have hz4:=HS4.out.size;have hls:l.length≤1048576:=by rw[HLL.out];omega
            obtain⟨x,hx⟩:∃ x,p.getD k 0=x:=⟨_,rfl⟩;rw[hx];have HPX:=Lib.hid hx;clear hO4 hR4 HS hx
            go_wp2_with
              (at_builtin
               refine zar rfl _ _ rfl (w.heap.size+1) _ (ints l) rfl (HS4.out.own.alloc _) (w4.heap.size+1) _ [(x:Int)] rfl (IsInts.new w4 [(x:Int)] _ _ _ rfl rfl rfl (by simp[maxLen])) (by rw[zad];simp;omega) (by simp;omega) ?_
               intro q' c' w5 hown hg hat1;have HS5:=Lib.hid (HS4.out.appended hg hown);clear hown hg hat1)
            go_roundw
            case rel =>
              refine⟨j+1,a2+1,mtf p k,l++[x],by omega,rfl,by go_num,by rw[List.length_append,HLL.out];rfl,znM HT.out ht6 (by omega),by omega,by have:=Hax2.out;omega,?_,HS5.out⟩
              have h1:=HPR.out;rw[show c-j=(c-(j+1))+1 by omega,ziV,HO.out,←Hon.out] at h1
              simp only[zpZ] at h1;rw[←HPX.out];exact h1
            case measure=>simp[intOf];omega
          | true =>
            rw[hb] at hon C;simp only[zcZ] at hon;simp only[List.length_cons] at hax2
            by_cases hkt:k+1=t
            · rw[if_pos hkt] at hon
              have ht1:((k:Int)+1 == (t:Int))=true:=by rw[beq_iff_eq];omega
              have hr3:r0=.error 3:=by
                have h1:=HPR.out;rw[show c-j=(c-(j+1))+1 by omega,ziV,HO.out,←hon] at h1
                simpa [zpr] using h1.symm
              have hfin:=Lib.hid (herr.out wr 3 hr3 HS.out.bel);clear hrc hon hax2 hb HON HAX2 hres herr hkt hr3
              go_wp2_with fail
              refine (C.out _).mono ?_;rintro e w3 ⟨rfl,rfl⟩
              go_wp2_with fail
              go_ret3
              exact hfin.out
            · rw[if_neg hkt] at hon
              have ht1:((k:Int)+1 == (t:Int))=false:=by rw[beq_eq_false_iff_ne];omega
              have Hon:=Lib.hid hon;have Hax2:=Lib.hid hax2;have hk1:k+1<t:=by omega
              clear hrc hon hax2 hb HON HAX2 hkt
              go_wp2_with fail
              refine (C.out _).mono ?_;rintro e w3 ⟨rfl,rfl⟩
              go_wp2_with fail
              go_roundw
              case rel=>exact⟨a2+1,k+1,rfl,by go_num,by go_num,hk1,by omega,by have:=Hax2.out;omega,Hon.out,trivial⟩
              case measure=>simp[intOf];omega
        · have C:=Lib.hid (fun W=>zkq s a2 1 W hs (by omega) (by omega))
          have hon:=HON.out;rw[zgy s.data.toList a2 (by rw[HL.out];omega)] at hon
          have hr2:r0=.error 2:=by
            have h1:=HPR.out;rw[show c-j=(c-(j+1))+1 by omega,ziV,HO.out,←hon] at h1
            simpa [zcZ,zpr] using h1.symm
          have hfin:=Lib.hid (herr.out wr 2 hr2 HS.out.bel);clear hon HON HAX2 hres herr hr2
          go_wp2_with fail
          refine (C.out _).mono ?_;rintro e w3 ⟨rfl,rfl⟩
          go_wp2_with fail
          go_ret3
          exact hfin.out
    · obtain rfl:j=c:=by omega
      have hpr:=HPR.out;rw[Nat.sub_self,ziV] at hpr;simp only[zpr,List.append_nil] at hpr;have hfin:=Lib.hid (hres.out wr l (rest s.data.toList a) _ a hpr.symm HAX.out HS.out.own HS.out.bel);clear hpr hres herr
      go_wp2_with fail
      go_ret3
      exact hfin.out
end Go.Proofs.YtoejfkeofbdalaaGreatDoor
