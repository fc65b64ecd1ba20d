import Derived.Test.YtoejfkeofbdalaaGreatDoorM10
set_option linter.unusedVariables false
set_option maxRecDepth 100000
set_option maxHeartbeats 8000000
namespace Go.Proofs.YtoejfkeofbdalaaGreatDoor
open Go.RowKit
def zfH (s:List UInt8) (c:Nat):Bool:=s.any fun x=>x.toNat == c
def zeS (s:List UInt8) (k:Nat):List Bool:=(List.range 16).map fun i=>zfH s (16*k+i)
def zbg (s:List UInt8) (k:Nat):Bool:=(zeS s k).any id
def zaW (p:Nat→Bool) (n:Nat):List UInt8:=((List.range n).filter p).map UInt8.ofNat
def zai (s:List UInt8):List UInt8:=zaW (zfH s) 256
def zcg (s:List UInt8) (n:Nat):List Bool:=(List.range n).map (zbg s)
def za0 (s:List UInt8):Nat→List Bool
  | 0=>[]
  | n+1=>za0 s n++if zbg s n then zeS s n else []
def zgC (s:List UInt8):List Bool:=zcg s 16++za0 s 16
def zgW (p:Nat→Bool) (n:Nat):Nat:=((List.range n).filter p).length
theorem zcW (p:Nat→Bool) (n:Nat):zgW p (n+1)=zgW p n+(p n).toNat:=by
  unfold zgW;rw[List.range_succ,List.filter_append,List.length_append];cases h:p n <;> simp[h]
theorem zrf (p:Nat→Bool):zgW p 0=0:=rfl
theorem zhl (p:Nat→Bool) (n:Nat):zgW p n≤n:=by
  unfold zgW;have:=List.length_filter_le p (List.range n);simpa using this
theorem zlv (p:Nat→Bool) {n m:Nat} (h:n≤m):zgW p n≤zgW p m:=by
  induction h with
  | refl=>exact Nat.le_refl _
  | step h ih=>rw[zcW];omega
theorem zn0 {p q:Nat→Bool} {n:Nat} (h:∀ k,k<n→p k=q k):zgW p n=zgW q n:=by
  induction n with
  | zero=>rfl
  | succ n ih=>rw[zcW,zcW,ih fun k hk=>h k (by omega),h n (by omega)]
theorem zrp {p:Nat→Bool} {k n:Nat} (h:k<n) (hp:p k=true):zgW p k<zgW p n:=by
  have h1:=zlv p (show k+1≤n from h)
  rw[zcW,hp] at h1;simp at h1;omega
theorem zbf (p:Nat→Bool) (n:Nat):zaW p (n+1)=zaW p n++if p n then [UInt8.ofNat n] else []:=by
  unfold zaW;rw[List.range_succ,List.filter_append,List.map_append];cases h:p n <;> simp[h]
theorem ze6 (p:Nat→Bool) (n:Nat):(zaW p n).length=zgW p n:=by simp[zaW,zgW]
theorem zge {p q:Nat→Bool} {n:Nat} (h:∀ k,k<n→p k=q k):zaW p n=zaW q n:=by
  induction n with
  | zero=>rfl
  | succ n ih=>rw[zbf,zbf,ih fun k hk=>h k (by omega),h n (by omega)]
theorem zg7 (s t:List UInt8) (c:Nat):zfH (s++t) c=(zfH s c || zfH t c):=by simp[zfH]
theorem znJ (x:UInt8) (c:Nat):zfH [x] c=(x.toNat == c):=by simp[zfH]
theorem zhO (p:Nat→Bool) (n c:Nat) (hn:n≤256):zfH (zaW p n) c=(decide (c<n) && p c):=by
  induction n with
  | zero=>rfl
  | succ n ih =>
    rw[zbf,zg7,ih (by omega)]
    have e:(UInt8.ofNat n).toNat=n:=by simp;omega
    by_cases hc:c=n
    · subst hc
      cases h:p c <;> simp[zfH,e]
    · have h1:(n == c)=false:=by rw[beq_eq_false_iff_ne];omega
      have h2:zfH (if p n=true then [UInt8.ofNat n] else []) c=false:=by
        cases p n
        · rfl
        · rw[if_pos rfl,znJ,e];exact h1
      rw[h2,Bool.or_false];congr 1
      rw[decide_eq_decide];omega
theorem zjc (p:Nat→Bool):zai (zaW p 256)=zaW p 256 :=
  zge fun k hk=>by rw[zhO _ _ _ (Nat.le_refl _),decide_eq_true hk,Bool.true_and]
theorem ze7 (s:List UInt8):zai (zai s)=zai s:=zjc _
theorem zbx (s:List UInt8) (k:Nat):(zeS s k).length=16:=by simp[zeS]
theorem zbB (s:List UInt8) (n:Nat):(zcg s n).length=n:=by simp[zcg]
theorem zcQ (s:List UInt8) (n:Nat):(za0 s n).length=16*zgW (zbg s) n:=by
  induction n with
  | zero=>rfl
  | succ n ih =>
    rw[za0,List.length_append,ih,zcW];cases zbg s n
    · simp
    · simp only[if_true,zbx,Bool.toNat_true];omega
theorem zhr (s:List UInt8):(zgC s).length=16+16*zgW (zbg s) 16:=by
  unfold zgC;rw[List.length_append,zbB,zcQ]
theorem zh6 (s:List UInt8):(zgC s).length≤272:=by
  rw[zhr];have:=zhl (zbg s) 16;omega
theorem zor (s:List UInt8) (n:Nat):zcg s (n+1)=zcg s n++[zbg s n]:=by simp[zcg,List.range_succ]
theorem zaI (s:List UInt8):(zai s).length≤256:=by
  unfold zai;rw[ze6];exact zhl _ _
theorem zto (s:List UInt8) (k:Nat):zbg s k=s.any fun x=>x.toNat / 16 == k:=by
  rw[Bool.eq_iff_iff];simp only[zbg,zeS,zfH,List.any_map,List.any_eq_true,List.mem_range,Function.comp,id,beq_iff_eq]
  constructor
  · rintro⟨i,hi,x,hx,h⟩
    exact⟨x,hx,by omega⟩
  · rintro⟨x,hx,h⟩
    exact⟨x.toNat % 16,Nat.mod_lt _ (by omega),x,hx,by omega⟩
def hdU (u:List UInt8) (a k:Nat):Bool:=B.bitAt u (a+k)
def zgt (u:List UInt8) (a k:Nat):Nat:=a+16+16*zgW (hdU u a) k
def zlU (u:List UInt8) (a k:Nat):List Bool:=B.slice u (zgt u a k) 16
def zt3 (u:List UInt8) (a c:Nat):Bool:=hdU u a (c / 16) && B.bitAt u (zgt u a (c / 16)+c % 16)
def zgX (u:List UInt8) (a n:Nat):Bool:=(List.range n).any fun k=>hdU u a k && !(zlU u a k).any id
def zen (u:List UInt8) (a:Nat):Except Int (List UInt8 × Nat) :=
  if 8*u.length<zgt u a 16 then .error 2
  else if zgX u a 16 || !(List.range 16).any (hdU u a) then .error 3
  else .ok (zaW (zt3 u a) 256,zgt u a 16)
theorem zhh (u:List UInt8) (a n:Nat):zgX u a (n+1)=(zgX u a n || (hdU u a n && !(zlU u a n).any id)):=by
  simp[zgX,List.range_succ]
theorem zdT (u:List UInt8) (a n:Nat):zgt u a (n+1)=zgt u a n+if hdU u a n then 16 else 0:=by
  unfold zgt;rw[zcW];cases hdU u a n <;> simp <;> omega
theorem zqf (u:List UInt8) (a:Nat) {n m:Nat} (h:n≤m):zgt u a n≤zgt u a m:=by
  have:=zlv (hdU u a) h;unfold zgt;omega
theorem zub (u:List UInt8) (a n:Nat):zgt u a n≤a+16+16*n:=by
  have:=zhl (hdU u a) n;unfold zgt;omega
theorem zj1 (u:List UInt8) (a k i:Nat) (hi:i<16):zt3 u a (16*k+i)=(hdU u a k && (zlU u a k).getD i false):=by
  unfold zt3 zlU;rw[show (16*k+i) / 16=k by omega,show (16*k+i) % 16=i by omega,B.getD_slice _ _ _ _ hi]
theorem zsX (v n i:Nat) (h:i<n):(B.low v n).getD i false=v.testBit (n-1-i):=by
  simp[B.low,List.getD_eq_getElem?_getD,h]
theorem zmv (l:List Bool) (i:Nat) (h:i<l.length):(B.num l).testBit (l.length-1-i)=l.getD i false:=by
  rw[←zsX _ _ _ h,B.low_num]
theorem zdL (l:List Bool):(B.num l=0)↔l.any id=false:=by
  induction l using B.snocRec with
  | nil=>simp[B.num_nil]
  | snoc l b ih =>
    rw[B.num_snoc,List.any_append];cases b
    · simp only[Bool.toNat_false,List.any_cons,List.any_nil,id,Bool.or_false,←ih]
      omega
    · simp
theorem zfj (u:List UInt8) (a n i:Nat) (h:i<n):(B.num (B.slice u a n)).testBit (n-1-i)=B.bitAt u (a+i):=by
  have:=zmv (B.slice u a n) i (by rw[B.length_slice];exact h)
  rw[B.length_slice,B.getD_slice _ _ _ _ h] at this;exact this
theorem zic (u:List UInt8) (a n:Nat):(B.num (B.slice u a n)=0)↔(List.range n).any (fun i=>B.bitAt u (a+i))=false:=by
  rw[zdL];simp[B.slice,List.any_map]
theorem znH (l:List Bool) (h:l.length=16):B.num l<65536:=by
  have:=B.num_lt l;rw[h] at this;exact this
theorem zvZ (l:List Bool) (h:l.length=16):B.low (B.num l) 16=l:=by
  have:=B.low_num l;rw[h] at this;exact this
end Go.Proofs.YtoejfkeofbdalaaGreatDoor
namespace Go.Proofs.YtoejfkeofbdalaaGreatDoor
open Go.RowKit Go.Shelf
attribute [local go_sem] Oper.semAt_some
def ztD:Option Value→Nat
  | some (.string s)=>s.size
  | _=>0
def pcE (x:List UInt8):Array Value:=#[.string ⟨x.toArray⟩]
def zrP (x:List UInt8) (W:World):Prop:=1≤x.length∧x.length≤255
theorem zfR (s:ByteArray) (w:World) :
    Calls Tryz.prog 112 #[.string s] w fun e w'=>e=.returned (.func (.func 164) #[] #[.pointer (some ⟨w.heap.size,0,none⟩)])∧w.alloc (.cells #[.string s] 9)=w':=by
  have hmf:=hmf
  go_enter Tryz.func112,Tryz.ntmps112
  go_wp2
  go_ret
  exact⟨rfl,rfl⟩
theorem zdm:Enters Tryz.prog 164:=enters_of Tryz.func164 (by kernel_rfl) rfl
theorem zew (t:ByteArray) (k:Nat) (h:k<t.size):t.data.toList[k]?=some (t[k]'h):=by
  rw[ByteArray.getElem_eq_getElem_data,Array.getElem?_toList];exact Array.getElem?_eq_getElem h
theorem zfi (t:ByteArray) (k:Nat):t.extract 0 k=⟨(t.data.toList.take k).toArray⟩:=by
  apply ByteArray.ext
  apply Array.toList_inj.1
  simp
theorem zgG (t:ByteArray) (k:Nat):(t.extract k t.size).data.toList=t.data.toList.drop k:=by
  simp[List.take_of_length_le]
theorem zvD (t:ByteArray) (k j:Nat) (h:k<t.size) (g:j<t.size) (e:t.data.toList[k]?=t.data.toList[j]?):t[k]'h=t[j]'g:=by
  rw[zew t k h,zew t j g] at e;exact Option.some.inj e
theorem zu1 (t:ByteArray) (k j:Nat) (h:k<t.size) (g:j<t.size) (e:(t[k]'h).toNat=(t[j]'g).toNat):t.data.toList[k]?=t.data.toList[j]?:=by
  rw[zew t k h,zew t j g,UInt8.toNat_inj.1 e]
theorem zqO (n:Nat) (hn:3≤n) (y b1:Nat) (s:ByteArray) (hs:s.size≤1000000) (bad:Nat→Prop) (J Jx:List (List UInt8)→World→Prop) (W:World) (hb1:W.heap[b1]?=some (.cells #[.string s] 9 (0,0)))
    (hbad:¬ bad b1)
    (hJ:∀ s A C,J s A→Below A.heap.size A C→J s C) (hJb:∀ s A u,J s A→J s (A.setCell ⟨b1,0,none⟩ u))
    (hY:∀ pre x W1,J pre W1→pre.length<(zaz s.data.toList).length→zrP x W1→YieldAt Fence.wide (n-1) Tryz.prog y (pcE x) W1 fun e W'=>(e=.returned (.bool true)∧J (pre++[x]) W'∧KeepC bad W1 W'∧W1.heap.size≤W'.heap.size)∨(e=.returned (.bool false)∧Jx (pre++[x]) W'))
    (h0:J [] W) :
    CallsIn Fence.wide n Tryz.prog 164 #[.func (.yield y) #[] #[],.pointer (some ⟨b1,0,none⟩)] W fun e W'=>(∃ v,e=.returned v)∧((∃ xs,xs=zaz s.data.toList∧J xs W')∨(∃ pre,pre <+: zaz s.data.toList∧Jx pre W')):=by
  have HBAD:=Lib.hid hbad;have HJ:=Lib.hid hJ;have HJB:=Lib.hid hJb;have HY:=Lib.hid hY;have HB1:=Lib.hid hb1;clear hbad hJ hJb hY hb1;refine callsIn_of_wp Tryz.func164 rfl trivial ?_ rfl;simp only[Tryz.ntmps164,List.size_toArray,List.length_cons,List.length_nil,Nat.reduceAdd,Nat.reduceSub,Array.replicate_succ,Array.replicate_zero,List.push_toArray,List.append_toArray,List.nil_append,List.cons_append];have h1n:1≤n:=by omega
  refine wpIn_block ?_
  gi_loopw [3] (fun nv wr=>∃ (pre:List (List UInt8)) (t:ByteArray),t.size≤1000000∧Hid (wr.heap[b1]?=some (.cells #[.string t] 9 (0,0)))∧Hid (pre++zaz t.data.toList=zaz s.data.toList)∧Hid (J pre wr)∧Hid (W.heap.size≤wr.heap.size)) (fun nv wr=>ztD (wr.cell? ⟨b1,0,none⟩))
  case atStart=>exact⟨[],s,hs,HB1.out,rfl,h0,Nat.le_refl _⟩
  case round =>
    clear h0 HB1;obtain⟨pre,t,ht,HB1,HP,HJ0,HZ⟩:=hrel;have kb1:wr.cell? ⟨b1,0,none⟩=some (.string t):=(zaa HB1.out 0).trans rfl
    by_cases ht0:t.size=0
    · have hte:t=⟨#[]⟩:=by
        cases t with
        | mk d =>
          have:d.size=0:=ht0;rw[Array.eq_empty_of_size_eq_zero this]
      subst hte;have hp:=HP.out;have hnil:(⟨#[]⟩:ByteArray).data.toList=[]:=rfl;rw[hnil,zbu,List.append_nil] at hp;rw[hp] at HJ0;clear hp hnil
      gi_wp2_with fail
      refine bodyPost_end (results_none rfl _ _ _) rfl ?_
      first
        | exact⟨⟨_,rfl⟩,.inl ⟨_,rfl,HJ0.out⟩⟩
        | exact⟨⟨_,rfl⟩,.inl HJ0.out⟩
    · have hne:t.data.toList≠[]:=fun h=>ht0 (by have:=congrArg List.length h;simpa using this)
      have he1:t.toList.isEmpty=false:=by rw[List.isEmpty_eq_false_iff,ByteArray.toList_eq];exact hne
      have hR1:=zbW hne;have hR2:=zjL t.data.toList;have hR3:=zeF t.data.toList;have hRg:=zt1 t.data.toList;have hRe:=zuo t.data.toList;have hlen:t.data.toList.length=t.size:=by simp
      rw[hlen] at hR3 hRe;obtain⟨R,hR⟩:∃ R,zbE t.data.toList=R:=⟨_,rfl⟩;rw[hR] at hR1 hR2 hR3 hRg hRe;have HR:=Lib.hid hR;have HRG:=Lib.hid hRg;have HRE:=Lib.hid hRe;have HNE:=Lib.hid hne;obtain⟨mn,hmn⟩:∃ mn,min t.size 255=mn:=⟨_,rfl⟩;have hmn2:(if (255:Int)<(t.size:Int) then 255 else (t.size:Int))=(mn:Int):=by rw[←hmn];split <;> omega
      have hmnR:R≤mn:=by omega
      have hmnt:mn≤t.size∧mn≤255:=by omega
      have HMN:=Lib.hid hmn;clear hR hRg hRe hne hlen hmn
      gi_wp2_with fail
      obtain⟨w0,hw0⟩:∃ w0,wr=w0:=⟨_,rfl⟩;rw[hw0] at HB1 HJ0 HZ kb1 ⊢
      gi_loopw [3] (fun kv wr=>∃ k q:Nat,1≤k∧k≤R∧kv=.int .i64 k∧wr=w0.drewN q) (fun kv _=>R+1-(intOf kv).toNat)
      case atStart=>exact⟨1,0,Nat.le_refl _,hR1,rfl,rfl⟩
      case round =>
        obtain⟨k,q,hk1,hkR,rfl,rfl⟩:=hrel;have kb1q:(w0.drewN q).cell? ⟨b1,0,none⟩=some (.string t):=kb1
        by_cases hkr:k<R
        · have hkm:decide (k<mn)=true:=decide_eq_true (by omega)
          have hkt:k<t.size:=by omega
          have h0t:0<t.size:=by omega
          have heq:(((t[k]'hkt).toNat:Int) == ((t[0]'h0t).toNat:Int))=true:=by
            rw[beq_iff_eq,zvD t k 0 hkt h0t (HRG.out k hkr)]
          gi_wp2_with fail
          gi_quiet (fail)
          gi_wp2_with fail
          go_roundw
          case rel=>exact⟨k+1,q+nq,by omega,by omega,by go_num,rfl⟩
          case measure=>simp[intOf];omega
        · have hkR2:k=R:=by omega
          subst hkR2;clear hkr hkR
          by_cases hkm2:k<mn
          · have hkm:decide (k<mn)=true:=decide_eq_true hkm2
            have hkt:k<t.size:=by omega
            have h0t:0<t.size:=by omega
            have heq:(((t[k]'hkt).toNat:Int) == ((t[0]'h0t).toNat:Int))=false:=by
              rw[beq_eq_false_iff_ne];intro h;exact HRE.out hkt (by omega) (zu1 t k 0 hkt h0t (by omega))
            gi_wp2_with fail
            gi_quiet (fail)
            have hJ2:=HJ.out pre w0 (w0.drewN (q+nq)) HJ0.out (below_drewN (Below.refl _ _) _);have hex:t.extract 0 k=⟨(t.data.toList.take k).toArray⟩:=zfi t k;have hex2:(t.extract k t.size).data.toList=t.data.toList.drop k:=zgG t k;have hpc:=zbA HNE.out;rw[HR.out] at hpc
            have hpl:pre.length<(zaz s.data.toList).length:=by
              rw[←HP.out,hpc,List.length_append,List.length_cons];omega
            have hok:zrP (t.data.toList.take k) (w0.drewN (q+nq)):=by
              have hl:t.data.toList.length=t.size:=by simp
              constructor <;> rw[List.length_take,hl] <;> omega
            obtain⟨fn,tmps,assign,body,hy,hRR⟩:=HY.out pre (t.data.toList.take k) (w0.drewN (q+nq)) hJ2 hpl hok;simp only[pcE,←hex] at hy
            have HP2:Hid ((pre++[t.data.toList.take k])++zaz (t.extract k t.size).data.toList=zaz s.data.toList):=by
              show _=_
              rw[hex2,List.append_assoc,List.singleton_append,←hpc];exact HP.out
            have hsz2:(t.extract k t.size).size≤1000000∧(t.extract k t.size).size<t.size:=by
              have h1:(t.extract k t.size).size=t.size-k:=by simp
              omega
            have HSZ:=Lib.hid hsz2;have HX2:=Lib.hid hex2;clear hJ2 hpc hpl hok hex hex2 hsz2
            gi_wp2_with fail
            refine hRR.mono ?_;rintro e W' (⟨rfl,hJ',hk',hz'⟩ | ⟨rfl,hJx'⟩)
            · have kb1':W'.heap[b1]?=some (.cells #[.string t] 9 (0,0)):=hk'.cells HBAD.out HB1.out
              have kc1:W'.cell? ⟨b1,0,none⟩=some (.string t):=(zaa kb1' 0).trans rfl;have kf1:W'.frozen? ⟨b1,0,none⟩=false:=zac kb1' 0;have HKB:=Lib.hid kb1';have HJ3:=Lib.hid hJ';have HZ2:Hid (W.heap.size≤W'.heap.size):=Nat.le_trans HZ.out hz';clear hRR hy kb1' hJ' hk' hz' HJ0
              gi_wp2_with fail
              have h9:(W'.setCell ⟨b1,0,none⟩ (.string (t.extract k t.size))).heap[b1]?=some (.cells #[.string (t.extract k t.size)] 9 (0,0)):=zaf HKB.out 0 _;refine⟨⟨_,t.extract k t.size,HSZ.out.1,h9,HP2.out,HJB.out _ _ _ HJ3.out,?_⟩,?_⟩
              · show _≤_
                rw[show (W'.setCell ⟨b1,0,none⟩ (.string (t.extract k t.size))).heap.size=W'.heap.size by simp[World.setCell]];exact HZ2.out
              · rw[hw0,kb1,(zaa h9 0).trans rfl]
                exact HSZ.out.2
            · clear hRR hy
              gi_wp2_with fail
              exact bodyPost_ret (results_none rfl _ _ _) rfl ⟨⟨_,rfl⟩,.inr ⟨_,⟨_,HP2.out⟩,hJx'⟩⟩
          · have hkm:decide (k<mn)=false:=decide_eq_false hkm2
            gi_wp2_with fail
            gi_quiet (fail)
            have hJ2:=HJ.out pre w0 (w0.drewN (q+nq)) HJ0.out (below_drewN (Below.refl _ _) _);have hex:t.extract 0 k=⟨(t.data.toList.take k).toArray⟩:=zfi t k;have hex2:(t.extract k t.size).data.toList=t.data.toList.drop k:=zgG t k;have hpc:=zbA HNE.out;rw[HR.out] at hpc
            have hpl:pre.length<(zaz s.data.toList).length:=by
              rw[←HP.out,hpc,List.length_append,List.length_cons];omega
            have hok:zrP (t.data.toList.take k) (w0.drewN (q+nq)):=by
              have hl:t.data.toList.length=t.size:=by simp
              constructor <;> rw[List.length_take,hl] <;> omega
            obtain⟨fn,tmps,assign,body,hy,hRR⟩:=HY.out pre (t.data.toList.take k) (w0.drewN (q+nq)) hJ2 hpl hok;simp only[pcE,←hex] at hy
            have HP2:Hid ((pre++[t.data.toList.take k])++zaz (t.extract k t.size).data.toList=zaz s.data.toList):=by
              show _=_
              rw[hex2,List.append_assoc,List.singleton_append,←hpc];exact HP.out
            have hsz2:(t.extract k t.size).size≤1000000∧(t.extract k t.size).size<t.size:=by
              have h1:(t.extract k t.size).size=t.size-k:=by simp
              omega
            have HSZ:=Lib.hid hsz2;have HX2:=Lib.hid hex2;clear hJ2 hpc hpl hok hex hex2 hsz2
            gi_wp2_with fail
            refine hRR.mono ?_;rintro e W' (⟨rfl,hJ',hk',hz'⟩ | ⟨rfl,hJx'⟩)
            · have kb1':W'.heap[b1]?=some (.cells #[.string t] 9 (0,0)):=hk'.cells HBAD.out HB1.out
              have kc1:W'.cell? ⟨b1,0,none⟩=some (.string t):=(zaa kb1' 0).trans rfl;have kf1:W'.frozen? ⟨b1,0,none⟩=false:=zac kb1' 0;have HKB:=Lib.hid kb1';have HJ3:=Lib.hid hJ';have HZ2:Hid (W.heap.size≤W'.heap.size):=Nat.le_trans HZ.out hz';clear hRR hy kb1' hJ' hk' hz' HJ0
              gi_wp2_with fail
              have h9:(W'.setCell ⟨b1,0,none⟩ (.string (t.extract k t.size))).heap[b1]?=some (.cells #[.string (t.extract k t.size)] 9 (0,0)):=zaf HKB.out 0 _;refine⟨⟨_,t.extract k t.size,HSZ.out.1,h9,HP2.out,HJB.out _ _ _ HJ3.out,?_⟩,?_⟩
              · show _≤_
                rw[show (W'.setCell ⟨b1,0,none⟩ (.string (t.extract k t.size))).heap.size=W'.heap.size by simp[World.setCell]];exact HZ2.out
              · rw[hw0,kb1,(zaa h9 0).trans rfl]
                exact HSZ.out.2
            · clear hRR hy
              gi_wp2_with fail
              exact bodyPost_ret (results_none rfl _ _ _) rfl ⟨⟨_,rfl⟩,.inr ⟨_,⟨_,HP2.out⟩,hJx'⟩⟩
theorem zf4 (n:Nat) (hn:3≤n) (b1:Nat) (s:ByteArray) (hs:s.size≤1000000) (bad:Nat→Prop) (w0:World) (hb1:w0.heap[b1]?=some (.cells #[.string s] 9 (0,0))) (hbad:¬ bad b1) :
    zqz b1 n 164 #[.pointer (some ⟨b1,0,none⟩)] pcE zrP (KeepC bad) (fun xs=>xs=zaz s.data.toList) (fun pre=>pre <+: zaz s.data.toList) (zaz s.data.toList).length w0 :=
  fun y J Jx W hBW hJ hJx hJb hY h0=>zqO n hn y b1 s hs bad J Jx W ((hBW.block b1 (zab hb1)).trans hb1) hbad hJ hJb hY h0
end Go.Proofs.YtoejfkeofbdalaaGreatDoor
namespace Go.Proofs.YtoejfkeofbdalaaGreatDoor
open Go.RowKit Go.Shelf
attribute [local go_sem] Oper.semAt_some
theorem zcL:∀ (l:List UInt8),(zaz l).length≤l.length
  | []=>by rw[zbu];exact Nat.le_refl _
  | c::t=>by
    have h:=zcL ((c::t).drop (zbE (c::t)));have hr:=zbW (l:=c::t) (by simp)
    rw[zbA (by simp),List.length_cons]
    rw[List.length_drop] at h;simp only[List.length_cons] at h ⊢;omega
termination_by l=>l.length
decreasing_by
  have hr:=zbW (l:=c::t) (by simp)
  simp only[List.length_drop,List.length_cons];omega
def zfu (pre:List (List UInt8)):Nat:=(pre.map fun p=>zba p.length).sum
theorem zjx:∀ pre:List (List UInt8),zfu pre≤5*pre.length
  | []=>Nat.le_refl _
  | p::pre=>by
    have h:=zjx pre;unfold zfu at h ⊢;rw[List.map_cons,List.sum_cons,List.length_cons];have:zba p.length≤5:=by unfold zba;split <;> omega
    omega
theorem zhv (pre:List (List UInt8)) (p:List UInt8):zfu (pre++[p])=zfu pre+zba p.length:=by
  simp[zfu]
theorem zi4 (n:Nat) (w:World) (hn:n≤1000000) :
    Calls Tryz.prog 113 #[.int .i64 n] w fun e w'=>e=.returned (.int .i64 (zba n:Nat))∧w=w':=by
  have hmf:=hmf
  by_cases h:n<4
  · have hl:zba n=n:=if_pos h
    go_enter Tryz.func113,Tryz.ntmps113
    go_wp2
    go_ret
    exact⟨by rw[hl];rfl,rfl⟩
  · have hl:zba n=5:=if_neg h
    go_enter Tryz.func113,Tryz.ntmps113
    go_wp2
    go_ret
    exact⟨by rw[hl];rfl,rfl⟩
theorem zna (s:ByteArray) (w:World) (hs:s.size≤1000000) :
    Calls Tryz.prog 53 #[.string s] w fun e w'=>e=.returned (.int .i64 (zaU s.data.toList:Nat))∧Below w.heap.size w w':=by
  have CP:=Lib.hid (fun W=>zfR s W);obtain⟨D,hD⟩:∃ D:Nat,8≤D:=⟨8,by omega⟩
  have h1D:1≤D:=by omega
  refine (callsIn_wide (n:=D)).1 ?_;refine callsIn_of_wp_marks Tryz.func53 rfl trivial ?_ rfl;simp only[Tryz.ntmps53,List.size_toArray,List.length_cons,List.length_nil,Nat.reduceAdd,Nat.reduceSub,Array.replicate_succ,Array.replicate_zero,List.push_toArray,List.append_toArray,List.nil_append,List.cons_append]
  gi_wp2_with fail
  refine⟨trivial,(callsIn_wide.2 (CP.out _)).mono ?_⟩;rintro e w1 ⟨rfl,rfl⟩
  gi_wp2_with fail
  obtain⟨g,hg⟩:∃ g,w.heap.size=g:=⟨_,rfl⟩;have hW1:((w.alloc (.cells #[.int .i64 0] 3)).alloc (.cells #[.string s] 9)).heap[g]?=some (.cells #[.int .i64 0] 3 (0,0)):=zah _ (zae _ _ _ hg.symm);have hW2:((w.alloc (.cells #[.int .i64 0] 3)).alloc (.cells #[.string s] 9)).heap[g+1]?=some (.cells #[.string s] 9 (0,0)):=zae _ _ _ (by simp[hg])
  have hWs:((w.alloc (.cells #[.int .i64 0] 3)).alloc (.cells #[.string s] 9)).heap.size=g+2:=by simp[hg]
  have hBW:Below g w ((w.alloc (.cells #[.int .i64 0] 3)).alloc (.cells #[.string s] 9)):=by
    rw[←hg];exact ((Below.refl _ w).alloc (Nat.le_refl _) _).alloc (by simp) _
  rw[hg];generalize (w.alloc (.cells #[.int .i64 0] 3)).alloc (.cells #[.string s] 9)=W0 at *
  refine zfn (n:=D) (ib:=g+1) h1D (gf:=164) (lb:=#[.pointer (some ⟨g+1,0,none⟩)]) rfl zdm (encs:=pcE) (fun _=>rfl) zrP (fun k=>k=g)
    (zf4 (D-1) (by omega) (g+1) s hs (fun k=>k=g) W0 hW2 (by show ¬ (g+1=g);omega)) (Below.refl _ _) (by omega)
    (fun pre W=>Boxed W g 3 (.int .i64 (zfu pre:Nat))∧Below g w W)
    (fun _ _ _=>False)
    (OwnFrom.and (Own.from (boxed_own _ _ (fun pre:List (List UInt8)=>.int .i64 (zfu pre:Nat))) _) (ownFrom_below (by omega) (by omega)))
    (fun pre A u h=>⟨(Below.heap_setCell _ _ _ _ (by show g≠g+1;omega)).trans h.1,h.2.setCell (p:=⟨g+1,0,none⟩) (by show g≤g+1;omega) u⟩)
    (fun _ _ _ _ _ h _ _=>h)
    ⟨hW1,hBW⟩
    (fun x a' W=>zrP x W∧a' = { tmps:=#[.string s,undef,.pointer (some ⟨g,0,none⟩),.string ⟨x.toArray⟩,.string s,.func (.func 164) #[] #[.pointer (some ⟨g+1,0,none⟩)],.string ⟨x.toArray⟩,undef,undef,undef,undef,undef,undef],defers:=[] })
    (fun x a' s W W' row h hgr hr=>h)
    ?assign ?body ?done ?stop
  case assign =>
    intro y pre x W K hi hok hlt hK;simp only[pcE]
    gi_wp2_with fail
    exact hK _ _ (KeepsFrom.refl _ _) (KeepC.refl _ _) hi ⟨hok,rfl⟩
  case body =>
    rintro y pre x a' W ⟨hb,hB⟩ ⟨hok,rfl⟩ hlt hlen;have hpc:=zcL s.data.toList;have hsl:s.data.toList.length=s.size:=by simp
    have hle:=zjx pre;have hxl:(⟨x.toArray⟩:ByteArray).size=x.length:=rfl;have hx2:=hok.2;have hl5:zba x.length≤5:=by unfold zba;split <;> omega
    have hsn:=zhv pre x;obtain⟨S,hS⟩:∃ S,zfu pre=S:=⟨_,rfl⟩;obtain⟨T,hT⟩:∃ T,zba x.length=T:=⟨_,rfl⟩;obtain⟨L,hL⟩:∃ L,x.length=L:=⟨_,rfl⟩
    have hlow:Hid (∀ W1,Calls Tryz.prog 113 #[.int .i64 L] W1 fun e w'=>e=.returned (.int .i64 T)∧W1=w'):=fun W1=>by
      have:=zi4 L W1 (by omega)
      rw[←hL,hT,hL] at this;exact this
    rw[hS] at hb hle hsn;rw[hT] at hsn hl5;rw[hL] at hxl hx2;have HSN:=Lib.hid hsn;have HB:=Lib.hid hb;have HBB:=Lib.hid hB;have hS0:S≤5000000:=by omega
    have hc1:=hb.cell;have hf1:=hb.frozen;have hmx:Tryz.prog.follows .mixedOrders=true:=by kernel_rfl
    clear hsn hb hB hok hpc hsl hle hS hT hL hlen hW1 hW2 hWs hBW
    gi_wp2
    gi_region_with_o (refine⟨trivial,fun _=>by omega,?_⟩;refine (CallsIn.inRound y (callsIn_wide.2 (hlow.out _))).mono ?_;rintro e w' ⟨rfl,rfl⟩)
    all_goals gi_wp2_with fail
    all_goals
      have hwr:IntKind.i64.wrap ((S:Int)+(T:Int))=((zfu (pre++[x]):Nat):Int):=by rw[IntWalk.i64_in _ (by omega),HSN.out];omega
      rw[hwr];exact⟨((KeepsOthers.setCell W _ _).trans (KeepsOthers.drew _)).from _,fun b cs t fz h1 h2=>((KeepC.refl (fun k=>k=g) W).set (q:=⟨g,0,none⟩) rfl _) b cs t fz h1 h2,zaf HB.out 0 _,(HBB.out.setCell (p:=⟨g,0,none⟩) (Nat.le_refl g) _).drew⟩
  case done =>
    rintro E xs W hE rfl ⟨hb,hB⟩ hd;have hcb:=hb.cell;have hfb:=hb.frozen;have HB:=Lib.hid hb;have HBB:=Lib.hid hB;have hne:E≠g:=by omega
    have hgE:w.heap.size≤E:=by omega
    clear hW1 hW2 hWs hBW hb hB
    gi_wp2_with fail
    have hd2:(W.setCell ⟨g,0,none⟩ (.int .i64 ((zfu (zaz s.data.toList):Nat):Int))).heap[E]?=some (.deferred (some [])):=(Below.heap_setCell _ _ _ _ hne).trans hd;have hs2:(W.setCell ⟨g,0,none⟩ (.int .i64 ((zfu (zaz s.data.toList):Nat):Int))).heap[g]?=some (.cells #[.int .i64 ((zfu (zaz s.data.toList):Nat):Int)] 3 (0,0)):=zaf HB.out 0 _;have hB2:=HBB.out.setCell (p:=⟨g,0,none⟩) (Nat.le_refl g) (.int .i64 ((zfu (zaz s.data.toList):Nat):Int));refine⟨by simp,.inl ⟨_,_,rfl,run_takeDeferred hd2,?_⟩⟩
    have hs3:((W.setCell ⟨g,0,none⟩ (.int .i64 ((zfu (zaz s.data.toList):Nat):Int))).putObj E (.deferred none)).heap[g]?=some (.cells #[.int .i64 ((zfu (zaz s.data.toList):Nat):Int)] 3 (0,0)):=(World.putObj_heap_other (fun e=>hne e.symm)).trans hs2;refine⟨_,zbH rfl _ _ _ _ _ rfl (zaV _ _ _ ((zaa hs3 0).trans rfl)),rfl,?_⟩;rw[hg];refine hB2.trans (belowK_b (w:=w) (Nat.le_of_eq hg.symm) _ E _ _ hgE hd2 rfl rfl)
  case stop=>exact fun _ _ _ _ _ _ h _=>h.elim
end Go.Proofs.YtoejfkeofbdalaaGreatDoor
