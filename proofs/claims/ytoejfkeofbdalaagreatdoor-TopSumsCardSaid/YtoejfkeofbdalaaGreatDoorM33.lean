import Derived.Test.YtoejfkeofbdalaaGreatDoorM25
import Derived.Test.YtoejfkeofbdalaaGreatDoorM31
import Derived.Test.YtoejfkeofbdalaaGreatDoorM28
import Derived.Test.YtoejfkeofbdalaaGreatDoorM30
import Derived.Test.YtoejfkeofbdalaaGreatDoorM32
set_option linter.unusedVariables false
set_option maxRecDepth 100000
set_option maxHeartbeats 8000000
namespace Go.Proofs.YtoejfkeofbdalaaGreatDoor
open Go.RowKit
def zis (s:ByteArray) (k:Nat):ByteArray:=s.extract k s.size++s.extract 0 k
theorem zs5 (s:ByteArray) (k:Nat) (w:World) (hk:k≤s.size) (hs:s.size≤1000000) :
    Calls Tryz.prog 165 #[.agg #[.string s],.int .i64 (k:Nat)] w fun e w'=>e=.returned (.string (zis s k))∧Below w.heap.size w w':=by
  have hB:Below w.heap.size w (w.alloc (.cells #[.string s] 169)):=(Below.refl _ _).alloc (Nat.le_refl _) _;have hb:(w.alloc (.cells #[.string s] 169)).heap[w.heap.size]?=some (.cells #[.string s] 169 (0,0)):=zae _ _ _ rfl;have c0:=(zaa hb 0).trans rfl;have HB:=Lib.hid hB;have hsz:(s.extract k s.size++s.extract 0 k).size≤1000000:=by simp;omega
  clear hb hB;unfold zis
  go_enter Tryz.func165,Tryz.ntmps165
  go_wp2_with fail
  generalize w.alloc (.cells #[.string s] 169)=W1 at *
  go_region
  go_wp2_with fail
  go_ret
  exact⟨rfl,HB.out.drew⟩
theorem zn2 (s:ByteArray) (k:Nat) (hk:k≤s.size):(zis s k).size=s.size:=by simp[zis];omega
theorem zoB (s:ByteArray) (k:Nat):(zis s k).data.toList=s.data.toList.drop k++s.data.toList.take k:=by
  unfold zis;have hl:s.data.toList.length=s.size:=by simp
  rw[ByteArray.data_append,Array.toList_append];congr 1
  · rw[ByteArray.data_extract,Array.toList_extract,List.extract_eq_take_drop,List.take_of_length_le (by rw[List.length_drop,hl];omega)]
  · rw[ByteArray.data_extract,Array.toList_extract,List.extract_eq_take_drop,List.drop_zero,Nat.sub_zero]
theorem zuQ (t:ByteArray) (k:Nat) (h:k<t.size):t.data.toList[k]?=some (t[k]'h):=by
  rw[ByteArray.getElem_eq_getElem_data,Array.getElem?_toList];exact Array.getElem?_eq_getElem h
theorem zoZ (s:ByteArray) (k j:Nat) (hk:k<s.size) (hj:j+1=s.size) (h:j<(zis s k).size):((zis s k)[j]'h)=s.data.toList.getD (zcd s.size k) 0:=by
  have hl:s.data.toList.length=s.size:=by simp
  have h1:=zuQ (zis s k) j h;rw[zoB] at h1;rw[List.getD_eq_getElem?_getD];unfold zcd
  by_cases hk0:k=0
  · subst hk0
    rw[if_pos rfl];rw[List.drop_zero,List.take_zero,List.append_nil] at h1;rw[show s.size-1=j by omega,h1];rfl
  · rw[if_neg hk0]
    rw[List.getElem?_append_right (by rw[List.length_drop,hl];omega),List.length_drop,hl,List.getElem?_take_of_lt (by omega),show j-(s.size-k)=k-1 by omega] at h1
    rw[h1];rfl
def zia (s:List UInt8):List UInt8:=(zbI (s.map (·.toNat))).map fun k=>s.getD (zcd s.length k) 0
def zfI (s:List UInt8):Nat:=(zbI (s.map (·.toNat))).idxOf 0
theorem zbO (S:List Nat):(zbI S).length=S.length:=by rw[(za1 S).length_eq,List.length_range]
theorem zdi (s:List UInt8):(zia s).length=s.length:=by simp[zia,zbO]
theorem zmV (s:ByteArray) (w:World) (h0:0<s.size) (hs:s.size≤100000) :
    Calls Tryz.prog 114 #[.string s] w fun e w'=>e=.returned (.tuple #[.string ⟨(zia s.data.toList).toArray⟩,.int .i64 (zfI s.data.toList:Nat)])∧Below w.heap.size w w':=by
  have hl:s.data.toList.length=s.size:=by simp
  obtain⟨L,hL⟩:∃ L,zbI (zaJ s)=L:=⟨_,rfl⟩;have CO:=Lib.hid (zkX s w h0 hs);rw[hL] at CO;have hLl:L.length=s.size:=by rw[←hL,zbO,zaL]
  have hLm:∀ x∈L,x<s.size:=fun x hx=>by
    rw[←hL] at hx;have:=List.mem_range.1 ((za1 _).mem_iff.1 hx)
    rwa [zaL] at this
  have hf:zia s.data.toList=L.map fun k=>s.data.toList.getD (zcd s.size k) 0:=by
    unfold zia;rw[hl,show s.data.toList.map (·.toNat)=zaJ s from rfl,hL]
  have hg:zfI s.data.toList=L.idxOf 0:=by unfold zfI;rw[show s.data.toList.map (·.toNat)=zaJ s from rfl,hL]
  have hmem:0∈L:=by rw[←hL];exact (za1 _).mem_iff.2 (List.mem_range.2 (by rw[zaL];exact h0))
  have hidx:L.idxOf 0<s.size:=by rw[←hLl];exact List.idxOf_lt_length_iff.2 hmem
  have hnd:L.Nodup:=by rw[←hL];exact (za1 _).nodup_iff.2 List.nodup_range
  rw[hf,hg]
  have hiff:∀ i,i<s.size→(L[i]?=some 0↔i=L.idxOf 0):=fun i hi=>by
    have e0:L[L.idxOf 0]?=some 0:=by rw[List.getElem?_eq_getElem (by omega)];simp
    constructor
    · intro e;exact (List.getElem?_inj (by omega) hnd).1 (e.trans e0.symm)
    · rintro rfl;exact e0
  obtain⟨G,hG⟩:∃ G,L.idxOf 0=G:=⟨_,rfl⟩;rw[hG] at hidx hiff ⊢;obtain⟨F,hF⟩:∃ F:List UInt8,L.map (fun k=>s.data.toList.getD (zcd s.size k) 0)=F:=⟨_,rfl⟩;rw[hF];have HF:=Lib.hid hF;have HIF:=Lib.hid hiff;have HLM:=Lib.hid hLm;have CT:=Lib.hid fun k W hk=>zs5 s k W hk (by omega)
  have HSZ:=Lib.hid (zn2 s);have HLA:=Lib.hid (zoZ s);obtain⟨n,hn⟩:∃ n,s.size=n:=⟨_,rfl⟩;rw[hn] at CO hLl h0 hs hidx HIF HLM CT HSZ HF HLA;have HLL:=Lib.hid hLl;clear hl hL hLl hLm hf hg hmem hnd hiff hG hF hn
  go_enter Tryz.func114,Tryz.ntmps114
  go_wp2_with fail
  refine CO.out.mono ?_;rintro e w1 ⟨q,c,rfl,hv1,hB1⟩;have HV:=Lib.hid hv1;have HB1:=Lib.hid hB1;clear hv1 hB1 CO
  go_wp2_with fail
  go_loopw [3,4,11] (fun gv ov iv wr=>∃ (i:Nat) (O:List UInt8),i≤n∧iv=.int .i64 (i:Nat)∧gv=.int .i64 ((if G<i then G else 0:Nat):Nat)∧Hid (O=F.take i)∧Hid (OwnBytes wr w1.heap.size ov O)∧Hid (Below w1.heap.size w1 wr)) (fun _ _ iv _=>n+1-(intOf iv).toNat)
  case atStart=>exact⟨0,[],Nat.zero_le _,rfl,rfl,rfl,OwnBytes.nil _ _,Below.refl _ _⟩
  case round =>
    obtain⟨i,O,hi,rfl,rfl,HO,HW,HB⟩:=hrel;have hFl:F.length=n:=by rw[←HF.out,List.length_map,HLL.out]
    have hOl:O.length=i:=by rw[HO.out,List.length_take];omega
    by_cases hlt:i<n
    · obtain⟨k,hk⟩:∃ k,L[i]?=some k:=⟨_,List.getElem?_eq_getElem (by rw[HLL.out];exact hlt)⟩
      have hkn:=HLM.out k (List.mem_of_getElem? hk);obtain⟨g,o,rfl,hgb,hc⟩:=(HV.out.below HB.out (Nat.le_refl _)).at i (by rw[zad,HLL.out];exact hlt)
      rw[show (ints L)[i]?.getD 0=(k:Int) by simp[ints,hk]] at hc
      have CTk:=Lib.hid (CT.out k wr (by omega))
      have hsz:=HSZ.out k (by omega)
      obtain⟨j,hj⟩:∃ j,n-1=j:=⟨_,rfl⟩;have hla:=HLA.out k j hkn (by omega) (by rw[hsz];omega)
      have hFs:F.take (i+1)=F.take i++[s.data.toList.getD (zcd n k) 0]:=by
        rw[List.take_succ_eq_append_getElem (by omega)]
        congr 1
        have:F[i]?=some (s.data.toList.getD (zcd n k) 0):=by rw[←HF.out,List.getElem?_map,hk];rfl
        rw[List.getElem?_eq_getElem (by omega)] at this
        rw[Option.some.inj this]
      have hif:=HIF.out i hlt;rw[hk] at hif;obtain⟨t,ht⟩:∃ t,zis s k=t:=⟨_,rfl⟩;have hjt:j<t.size:=by rw[←ht,hsz];omega
      have hla2:(t[j]'hjt)=s.data.toList.getD (zcd n k) 0:=by
        rw[←hla];congr 1
        exact ht.symm
      rw[ht] at hsz CTk;obtain⟨x,hx⟩:∃ x,(t[j]'hjt).toNat=x:=⟨_,rfl⟩;have hxl:x<256:=by rw[←hx];exact (t[j]'hjt).toNat_lt
      have hcat:O++[UInt8.ofNat x]=F.take (i+1):=by
        rw[hFs,HO.out,←hla2,←hx,UInt8.ofNat_toNat]
      have HCAT:=Lib.hid hcat;have HOL:=Lib.hid hOl;have w1':IntKind.i64.wrap ((n:Int)-1)=(j:Int):=by rw[IntWalk.i64_in _ (by omega)];omega
      have w2':IntKind.i64.wrap ((i:Int)+1)=((i+1:Nat):Int):=by rw[IntWalk.i64_in _ (by omega)];omega
      obtain⟨og,hog⟩:∃ og,(if G<i then G else 0:Nat)=og:=⟨_,rfl⟩
      rw[hog]
      have HNX:Hid ((k=0→(if G<i+1 then G else 0:Nat)=i)∧(k≠0→(if G<i+1 then G else 0:Nat)=og)):=by
        refine⟨fun e=>?_,fun e=>?_⟩
        · have:=hif.1 (by rw[e]);rw[if_pos (by omega)];omega
        · have hne:i≠G:=fun e2=>e (Option.some.inj (hif.2 e2))
          rw[←hog]
          by_cases h:G<i
          · rw[if_pos h,if_pos (by omega)]
          · rw[if_neg h,if_neg (by omega)]
      clear hla hla2 hcat hFs hif hk ht hOl hFl hj hog
      go_wp2_with fail
      refine CTk.out.mono ?_;rintro e w2 ⟨rfl,hB2⟩;have HW2:Hid (OwnBytes (w2.alloc (.cells #[.int .u8 (x:Int)] 5)) w1.heap.size _ O):=OwnBytes.alloc (HW.out.below hB2) _;have HB2:=Lib.hid (HB.out.trans (hB2.mono HB.out.size));have hz2:=HB2.out.size;clear hB2 HB HW CTk hc;obtain⟨r,hr⟩:∃ r,((k:Int) == 0)=r:=⟨_,rfl⟩;have hot:r=true→(if G<i+1 then G else 0:Nat)=i:=fun e=>HNX.out.1 (by rw[e] at hr;have:=eq_of_beq hr;omega)
      have hof:r=false→(if G<i+1 then G else 0:Nat)=og:=fun e=>HNX.out.2 (by rw[e] at hr;have:=ne_of_beq_false hr;omega)
      have HOT:=Lib.hid hot;have HOF:=Lib.hid hof;clear hot hof HNX;cases r
      all_goals
        go_wp2_with
          (at_builtin
           refine za9 rfl _ _ rfl w1.heap.size _ O rfl HW2.out w2.heap.size x hxl rfl (zae _ _ _ rfl) (by rw[HOL.out];omega) (by simp;omega) ?_
           intro q3 c3 w3 hown3 hg3 hat3;rw[HCAT.out] at hown3;have HOW3:=Lib.hid hown3;have HB3:Hid (Below w1.heap.size w1 w3):=zwm hg3 (HB2.out.alloc hz2 _) (fun r e=>zcG HW2.out e);clear hown3 hg3 hat3)
        go_roundw
      · exact⟨i+1,F.take (i+1),by omega,by go_num,by rw[HOF.out trivial],rfl,HOW3,HB3⟩
      · simp[intOf];omega
      · exact⟨i+1,F.take (i+1),by omega,by go_num,by rw[HOT.out trivial],rfl,HOW3,HB3⟩
      · simp[intOf];omega
    · obtain rfl:i=n:=by omega
      have hOF:O=F:=by rw[HO.out,List.take_of_length_le (by omega)]
      have how:=HW.out;rw[hOF] at how;obtain⟨q3,c3,hq3⟩:=how.shape;subst hq3;have hcv:(convert 89 9 (.slice q3 F.length c3)).run Tryz.prog wr=.ok (.string ⟨F.toArray⟩) wr:=zbb F how;have hog:(if G<i then G else 0:Nat)=G:=if_pos hidx
      rw[hog];have HBB:=Lib.hid (HB1.out.trans (HB.out.mono HB1.out.size));clear how hOF hog hFl hOl HO HW
      go_wp2_with fail
      go_ret2
      exact⟨rfl,HBB.out⟩
theorem zrr (p:Nat→Bool) (n:Nat) (hn:n≤256):∀ x∈zaW p n,x.toNat<n:=by
  induction n with
  | zero=>intro x hx;simp[zaW] at hx
  | succ n ih =>
    intro x hx;rw[zbf] at hx;rcases List.mem_append.1 hx with hx | hx
    · have:=ih (by omega) x hx;omega
    · split at hx
      · have:x=UInt8.ofNat n:=by simpa using hx
        subst this;rw[UInt8.toNat_ofNat'];omega
      · simp at hx
theorem zlt (p:Nat→Bool) (n:Nat) (hn:n≤256):(zaW p n).Nodup:=by
  induction n with
  | zero=>simp[zaW]
  | succ n ih =>
    rw[zbf];refine List.nodup_append.2 ⟨ih (by omega),?_,?_⟩
    · split <;> simp
    · intro x hx y hy
      split at hy
      · have:y=UInt8.ofNat n:=by simpa using hy
        subst this;have:=zrr p n (by omega) x hx
        intro e;subst e;rw[UInt8.toNat_ofNat'] at this;omega
      · simp at hy
theorem zgg (s:List UInt8):(zai s).Nodup:=zlt _ 256 (Nat.le_refl _)
theorem ziS (s:List UInt8) (x:UInt8):x∈zai s↔x∈s:=by
  have h1:=zjf (zai s) x;have h2:=zjf s x;unfold zai at h1;rw[zhO _ _ _ (Nat.le_refl _),decide_eq_true (show x.toNat<256 from x.toNat_lt),Bool.true_and,h2] at h1
  have:=congrArg (·=true) h1;simpa [zai] using this.symm
theorem zb1 {s:List UInt8} (h:s≠[]):zai s≠[]:=by
  obtain⟨x,t,rfl⟩:=List.exists_cons_of_ne_nil h;exact List.ne_nil_of_mem ((ziS _ x).2 (by simp))
def frF (p:List UInt8):List Nat:=(zec (zai p) (zia p)).2
theorem zsQ (p:List UInt8):∀ c∈zia p,c∈p:=by
  intro c hc;unfold zia at hc;obtain⟨k,hk,rfl⟩:=List.mem_map.1 hc;have hk:=List.mem_range.1 ((za1 _).mem_iff.1 hk);rw[List.length_map] at hk;have hl:=zjH hk;rw[List.getD_eq_getElem?_getD,List.getElem?_eq_getElem hl];exact List.getElem_mem hl
theorem zjv (p:List UInt8):∀ c∈zia p,c∈zai p:=fun c hc=>(ziS p c).2 (zsQ p c hc)
theorem zcl (p:List UInt8):(frF p).length=p.length:=by
  unfold frF;rw[(zfA _ _ (zjv p)).2.2,zdi]
theorem zuD (A T:List UInt8) (hm:∀ c∈T,c∈A):∀ k∈(zec A T).2,k<A.length:=by
  have h:∀ j,j≤T.length→∀ k∈(zec A (T.take j)).2,k<A.length:=by
    intro j
    induction j with
    | zero=>intro _ k hk;simp[zec] at hk
    | succ j ih =>
      intro hj k hk;have hs:T.take (j+1)=T.take j++[T[j]]:=List.take_succ_eq_append_getElem (by omega)
      rw[hs,zfq] at hk;obtain⟨h1,h2,h3⟩:=zfA A (T.take j) (fun c hc=>hm c (List.mem_of_mem_take hc));unfold ziW at hk;rcases List.mem_append.1 hk with hk | hk
      · exact ih (by omega) k hk
      · have:k=(zec A (T.take j)).1.idxOf T[j]:=by simpa using hk
        rw[this,←h1];exact List.idxOf_lt_length_iff.2 ((h2 _).2 (hm _ (List.getElem_mem _)))
  have:=h T.length (Nat.le_refl _)
  rwa [List.take_length] at this
theorem zrV (l:List Int) (M:Int) (hM:0≤M) (hl:∀ x∈l,0≤x∧x≤M):∀ n,∀ x∈zj8 n l,0≤x∧x≤M+1:=by
  induction l with
  | nil =>
    intro n x hx;rw[zj8] at hx;rcases zgw n x hx with rfl | rfl <;> omega
  | cons y l ih =>
    intro n x hx;have ih:=ih fun z hz=>hl z (List.mem_cons_of_mem _ hz);have hy:=hl y List.mem_cons_self;rw[zj8] at hx;split at hx
    · exact ih _ x hx
    · rcases List.mem_append.1 hx with hx | hx
      · rcases zgw n x hx with rfl | rfl <;> omega
      · rcases List.mem_cons.1 hx with rfl | hx
        · omega
        · exact ih _ x hx
def zgv (p:List UInt8):List Nat:=(enc (ints (frF p))).map Int.toNat
theorem zvh (p:List UInt8):∀ k∈frF p,k<(zai p).length:=zuD _ _ (zjv p)
theorem zd6 (p:List UInt8):∀ x∈ints (frF p),0≤x∧x≤((zai p).length:Int)-1:=by
  intro x hx;obtain⟨k,hk,rfl⟩:=List.mem_map.1 hx;have:=zvh p k hk;omega
theorem zmg (p:List UInt8) (h:p≠[]):∀ x∈enc (ints (frF p)),0≤x∧x≤((zai p).length:Int):=by
  have hA:0<(zai p).length:=List.length_pos_iff.2 (zb1 h);intro x hx;have:=zrV (ints (frF p)) (((zai p).length:Int)-1) (by omega) (zd6 p) 0 x hx
  omega
theorem zhq (p:List UInt8) (h:p≠[]):ints (zgv p)=enc (ints (frF p)):=by
  unfold zgv;have hx:=zmg p h;generalize enc (ints (frF p))=E at *
  show (E.map Int.toNat).map (fun a:Nat=>(a:Int))=E
  rw[List.map_map]
  conv=>rhs;rw[←List.map_id E]
  apply List.map_congr_left
  intro x hx';have:=hx x hx';simp only[Function.comp,id];exact Int.toNat_of_nonneg this.1
theorem zhH (p:List UInt8) (h:p≠[]):∀ k∈zgv p,k≤(zai p).length:=by
  intro k hk;obtain⟨x,hx,rfl⟩:=List.mem_map.1 hk;have:=zmg p h x hx;omega
theorem zcv (p:List UInt8):(zgv p).length≤p.length:=by
  unfold zgv;rw[List.length_map];refine Nat.le_trans (zl9 _) ?_;rw[zad,zcl];exact Nat.le_refl _
theorem zpR {l:List Int} (h:∀ x∈l,0≤x):zpk l=false:=by
  unfold zpk;rw[List.any_eq_false];intro x hx;have:=h x hx;simp;omega
theorem zno (p:List UInt8) (h:p≠[]):zuY (ints (frF p))=ints (zgv p)∧zuO (ints (frF p))=0:=by
  have h1:zpk (ints (frF p))=false:=zpR fun x hx=>(zd6 p x hx).1
  have h2:zum (ints (frF p))=false:=by
    unfold zum;rw[List.any_eq_false];intro x hx;have:=(zd6 p x hx).2;have:=zaI p;simp;omega
  unfold zuY zuO;rw[h1,h2];exact⟨(zhq p h).symm,rfl⟩
theorem zqm (p:List UInt8) (h:p≠[]) (most:Int) (hm:(p.length:Int)≤most):zpn (ints (zgv p)) most=ints (frF p)∧zpt (ints (zgv p)) most=0:=by
  have h1:zpk (ints (zgv p))=false:=zpR fun x hx=>by rw[zhq p h] at hx;exact (zmg p h x hx).1
  have h2:dec (ints (zgv p))=ints (frF p):=by rw[zhq p h];exact zuz _ fun x hx=>(zd6 p x hx).1
  unfold zpn zpt;rw[h1,h2,zad,zcl];have h3:¬ most<(p.length:Int):=by omega
  simp[h3]
theorem zqk (p:List UInt8):zdp (zai p) (ints (frF p))=(zia p,0):=znX _ _ (zgg p) (zjv p)
theorem zrc (p:List UInt8):(zia p).map (·.toNat)=zbi (p.map (·.toNat)) (zbI (p.map (·.toNat))):=by
  unfold zia zbi;rw[List.map_map,List.length_map];apply List.map_congr_left
  intro k _;simp only[Function.comp];rw[List.getD_eq_getElem?_getD,List.getElem?_map];cases p[zcd p.length k]? <;> rfl
theorem zhL (p:List UInt8) (h:p≠[]):zfI p<p.length:=by
  unfold zfI;have:(0:Nat)∈zbI (p.map (·.toNat)):=(za1 _).mem_iff.2 (List.mem_range.2 (by rw[List.length_map];exact List.length_pos_iff.2 h))
  have:=List.idxOf_lt_length_iff.2 this
  rwa [zbO,List.length_map] at this
theorem ztj (p:List UInt8) (h:p≠[]):zfD ((zia p).map (·.toNat)) (zfI p)=p:=by
  have hS:∀ x∈p.map (·.toNat),x<256:=fun x hx=>by
    obtain⟨c,_,rfl⟩:=List.mem_map.1 hx;exact c.toNat_lt
  have ho:(zbI (p.map (·.toNat)))[zfI p]?=some 0:=by
    have h1:zfI p<(zbI (p.map (·.toNat))).length:=by rw[zbO,List.length_map];exact zhL p h
    rw[List.getElem?_eq_getElem h1];congr 1
    exact List.getElem_idxOf (x:=0) h1
  have hb:=zs8 (p.map (·.toNat)) (zbI (p.map (·.toNat))) (zfI p) hS (za1 _) (zkm _) ho;unfold zfD;rw[zrc];have hl:(zbi (p.map (·.toNat)) (zbI (p.map (·.toNat)))).length=p.length:=by simp[zbi,zbO]
  rw[hl];rw[List.length_map] at hb;generalize zbi (p.map (·.toNat)) (zbI (p.map (·.toNat)))=L at *
  have h2:(List.range p.length).map (fun k=>UInt8.ofNat (L[zd1 (zeJ L) (k+1) (zfI p)]?.getD 0))=(p.map (·.toNat)).map UInt8.ofNat:=by
    have:=congrArg (List.map UInt8.ofNat) hb;rw[List.map_map] at this;exact this
  rw[h2,List.map_map]
  conv=>rhs;rw[←List.map_id p]
  apply List.map_congr_left
  intro c _;simp
abbrev sqV (A:ByteArray) (o:Int) (v:Value):Value:=.agg #[.string A,.int .i64 o,v]
theorem ze4 (A:ByteArray) (o:Int) (v:Value) (w:World) (hA:A.size≤1000000) :
    Calls Tryz.prog 117 #[.agg #[.string A,.int .i64 o,v]] w fun e w'=>e=.returned (.int .i64 (A.size+1:Nat))∧Below w.heap.size w w':=by
  have hB:Below w.heap.size w (w.alloc (.cells #[.string A,.int .i64 o,v] 110)):=(Below.refl _ _).alloc (Nat.le_refl _) _;have hb:(w.alloc (.cells #[.string A,.int .i64 o,v] 110)).heap[w.heap.size]?=some (.cells #[.string A,.int .i64 o,v] 110 (0,0)):=zae _ _ _ rfl;have c0:=(zaa hb 0).trans rfl;have w1:IntKind.i64.wrap ((A.size:Int)+1)=((A.size+1:Nat):Int):=by rw[IntWalk.i64_in _ (by omega)];omega
  have HB:=Lib.hid hB;clear hB hb
  go_enter Tryz.func117,Tryz.ntmps117
  go_wp2_with fail
  go_ret
  exact⟨rfl,HB.out⟩
theorem zkC (A:ByteArray) (o:Int) (v:Value) (w:World) (hA:A.size≤1000000) :
    Calls Tryz.prog 57 #[.agg #[.string A,.int .i64 o,v]] w fun e w'=>e=.returned (.int .i64 (A.size+2:Nat))∧Below w.heap.size w w':=by
  have hB:Below w.heap.size w (w.alloc (.cells #[.string A,.int .i64 o,v] 110)):=(Below.refl _ _).alloc (Nat.le_refl _) _;have hb:(w.alloc (.cells #[.string A,.int .i64 o,v] 110)).heap[w.heap.size]?=some (.cells #[.string A,.int .i64 o,v] 110 (0,0)):=zae _ _ _ rfl;have c0:=(zaa hb 0).trans rfl;have c1:=(zaa hb 1).trans rfl;have c2:=(zaa hb 2).trans rfl;have CE:=Lib.hid fun W=>ze4 A o v W hA;have w1:IntKind.i64.wrap (((A.size+1:Nat):Int)+1)=((A.size+2:Nat):Int):=by rw[IntWalk.i64_in _ (by omega)];omega
  have HB:=Lib.hid hB;clear hB hb;obtain⟨n1,hn1⟩:∃ n1,A.size+1=n1:=⟨_,rfl⟩;rw[hn1] at CE w1
  go_enter Tryz.func57,Tryz.ntmps57
  go_wp2_with fail
  refine (CE.out _).mono ?_;rintro e w' ⟨rfl,hB2⟩;have HB2:=Lib.hid (HB.out.trans (hB2.mono HB.out.size));clear hB2 CE hn1
  go_wp2_with fail
  go_ret
  exact⟨rfl,HB2.out⟩
theorem zpd (k:Nat) (w:World) (a b c:Value) (h:w.heap[k]?=some (.cells #[a,b,c] 110 (0,0))):(loadVar 110 ⟨k,0,none⟩).run Tryz.prog w=.ok (.agg #[a,b,c]) w:=by
  have c0:=(zaa h 0).trans rfl;have c1:=(zaa h 1).trans rfl;have c2:=(zaa h 2).trans rfl
  go_simp
def zbk (p:List UInt8):List Nat:=zgv p++[(zai p).length+1]
def zan (l:List UInt8):ByteArray:=⟨l.toArray⟩
theorem zas (l:List UInt8):(zan l).size=l.length:=by simp[zan,ByteArray.size]
theorem zax (l:List UInt8):(zan l).data.toList=l:=by simp[zan]
theorem zmS (s:ByteArray) (w:World) (h0:0<s.size) (hs:s.size≤60000) :
    Calls Tryz.prog 54 #[.string s] w fun e w'=>∃ q c,e=.returned (.tuple #[sqV (zan (zai s.data.toList)) (zfI s.data.toList:Nat) (.slice q (zbk s.data.toList).length c),.int .i64 0])∧IsInts w' w'.heap.size (.slice q (zbk s.data.toList).length c) (ints (zbk s.data.toList))∧Below w.heap.size w w':=by
  have hl:s.data.toList.length=s.size:=by simp
  have hne:s.data.toList≠[]:=List.ne_nil_of_length_pos (by omega)
  have CF:Hid (∀ W,Calls Tryz.prog 114 #[.string s] W fun e w'=>e=.returned (.tuple #[.string (zan (zia s.data.toList)),.int .i64 (zfI s.data.toList:Nat)])∧Below W.heap.size W w'):=fun W=>zmV s W h0 (by omega)
  have CA:Hid (∀ W,Calls Tryz.prog 32 #[.string s] W fun e w'=>e=.returned (.string (zan (zai s.data.toList)))∧Below W.heap.size W w'):=fun W=>zdZ W s (by omega)
  have hA0:0<(zai s.data.toList).length:=List.length_pos_iff.2 (zb1 hne);have hA256:=zaI s.data.toList
  have CO:Hid (∀ W,Calls Tryz.prog 115 #[.string (zan (zai s.data.toList)),.string (zan (zia s.data.toList))] W fun e w'=>∃ (q:Option Addr) (c:Nat),e=.returned (.tuple #[.slice q s.size c,.int .i64 0])∧IsInts w' w'.heap.size (.slice q s.size c) (ints (frF s.data.toList))∧Below W.heap.size W w'):=fun W=>by
    have:=ztq (zan (zai s.data.toList)) (zan (zia s.data.toList)) W (by rw[zas];exact hA0) (by rw[zas];omega) (by rw[zas,zdi];omega) (by rw[zax];exact zgg _) (by rw[zax,zax];exact zjv _)
    rw[zax,zax,zas,zdi,hl] at this;exact this
  have CE:Hid (∀ W v,IsInts W W.heap.size v (ints (frF s.data.toList))→Calls Tryz.prog 116 #[v] W fun e w'=>∃ u,e=.returned (.tuple #[u,.int .i64 0])∧OwnInts w' W.heap.size u (ints (zgv s.data.toList))∧Below W.heap.size W w'):=fun W v h=>by
    have:=zoi W v _ h (by rw[zad,zcl];omega)
    rw[(zno _ hne).1,(zno _ hne).2] at this;exact this
  have CN:Hid (∀ W v,Calls Tryz.prog 117 #[.agg #[.string (zan (zai s.data.toList)),.int .i64 (zfI s.data.toList:Nat),v]] W fun e w'=>e=.returned (.int .i64 ((zai s.data.toList).length+1:Nat))∧Below W.heap.size W w'):=fun W v=>by
    have:=ze4 (zan (zai s.data.toList)) (zfI s.data.toList:Nat) v W (by rw[zas];omega)
    rw[zas] at this;exact this
  have hsy:zbk s.data.toList=zgv s.data.toList++[(zai s.data.toList).length+1]:=rfl;have hel:(zgv s.data.toList).length≤60000:=by have:=zcv s.data.toList;omega
  rw[hsy];have he:(s.toList.isEmpty)=false:=by rw[List.isEmpty_eq_false_iff];intro h;exact hne (by simpa [ByteArray.toList_eq] using h)
  have hd:decide ((65536:Int)<(s.size:Int))=false:=decide_eq_false (by omega)
  generalize zai s.data.toList=A at *
  generalize zia s.data.toList=F at *
  generalize zfI s.data.toList=O at *
  generalize zgv s.data.toList=N at *
  generalize frF s.data.toList=R at *
  obtain⟨a1,ha1⟩:∃ a1,A.length+1=a1:=⟨_,rfl⟩;rw[ha1] at CN ⊢;clear hsy hne hl ha1
  go_enter Tryz.func54,Tryz.ntmps54
  go_wp2_with fail
  refine (CF.out _).mono ?_;rintro e w1 ⟨rfl,hB1⟩;have E1:=Lib.hid (((Env.nil w).box #[.string ⟨#[]⟩,.int .i64 0,.slice none 0 0] 110 w.heap.size rfl).step hB1);clear hB1 CF
  go_wp2_with fail
  refine (CA.out _).mono ?_;rintro e w2 ⟨rfl,hB2⟩;have E2:=Lib.hid ((E1.out.step hB2).box #[.string (zan A),.int .i64 (O:Nat),.slice none 0 0] 110 w2.heap.size rfl);have c0:=E2.out.cellv 0 rfl 0 _ rfl;have hww2:w.heap.size+1≤w2.heap.size:=by have:=E1.out.lt 0 rfl;have:=hB2.size;omega
  clear hB2 CA E1
  go_wp2_with fail
  refine (CO.out _).mono ?_;rintro e w3 ⟨q,c,rfl,hv3,hB3⟩;have E3:=Lib.hid ((E2.out.step hB3).add hv3);have CE2:=Lib.hid (CE.out w3 _ hv3);clear hv3 hB3 CO E2 CE c0
  go_wp2_with fail
  refine CE2.out.mono ?_;rintro e w4 ⟨u,rfl,hu4,hB4⟩;have E4:=Lib.hid (E3.out.step hB4);have HU4:=Lib.hid hu4;have hz3:w.heap.size+1≤w3.heap.size:=by have:=E3.out.lt 1 rfl;omega
  have hz34:=hB4.size;have hb2:=E3.out.lt 0 rfl;have c0:=E4.out.cellv 0 rfl 0 _ rfl;have c1:=E4.out.cellv 0 rfl 1 _ rfl;have c2:=E4.out.cellv 0 rfl 2 _ rfl;clear hu4 hB4 CE2 E3
  go_wp2_with fail
  refine (CN.out _ _).mono ?_;rintro e w5 ⟨rfl,hB5⟩;have E5:=Lib.hid (E4.out.step hB5);have HU5:Hid (OwnInts w5 w3.heap.size u (ints N)):=HU4.out.below hB5;have hz5:=hB5.size;obtain⟨q6,c6,rfl⟩:=HU5.out.shape;rw[zad] at HU4 HU5 ⊢;have HLN:Hid ((ints N).length=N.length):=zad N;clear hB5 CN E4 c0 c1 c2 HU4
  go_wp2_with
    (at_builtin
     refine zar rfl _ _ rfl w3.heap.size _ (ints N) rfl (HU5.out.alloc _) (w5.heap.size+1) _ [(a1:Int)] rfl (IsInts.new w5 [(a1:Int)] _ _ _ rfl rfl rfl (by simp[maxLen])) (by rw[HLN.out];simp;omega) (by simp;omega) ?_
     intro q7 c7 w7 hown7 hg7 hat7;have HO7:=Lib.hid hown7;have hne:∀ j,(Value.slice q6 N.length c6).ownBlock=some j→w3.heap.size≤j:=fun j e=>zaF HU5.out e;have E6:=Lib.hid ((E5.out.alloc (.cells #[.int .i64 (a1:Int)] 3)));have HB7:Hid (Below w3.heap.size (w5.alloc (.cells #[.int .i64 (a1:Int)] 3)) w7):=(Below.refl _ _).grown hg7 (by simp;omega) hne
     have hx6:w7.heap[w2.heap.size]?=some (.cells #[.string (zan A),.int .i64 (O:Nat),.slice none 0 0] 110 (0,0)):=(HB7.out.block _ hb2).trans (E6.out.blk 0 rfl);have hx2:w7.heap[w.heap.size]?=some (.cells #[.string ⟨#[]⟩,.int .i64 0,.slice none 0 0] 110 (0,0)):=(HB7.out.block _ (by omega)).trans (E6.out.blk 1 rfl)
     have k0:=(zaa hx6 0).trans rfl;have k1:=(zaa hx6 1).trans rfl;have k2:=(zaa hx6 2).trans rfl;have f2:=zac hx6 2;have j0:=(zaa hx2 0).trans rfl;have j1:=(zaa hx2 1).trans rfl;have j2:=(zaa hx2 2).trans rfl;have g0:=zac hx2 0;have g1:=zac hx2 1;have g2:=zac hx2 2;have lt2:=zab hx2;have lt6:=zab hx6;have m1:¬ w2.heap.size=w.heap.size:=by omega
     have m2:¬ w.heap.size=w2.heap.size:=by omega
     rw[HLN.out] at HO7 ⊢;have HX6:=Lib.hid hx6;have HX2:=Lib.hid hx2;clear hown7 hg7 hat7 hne hx6 hx2)
  have hx8:=zaf (zaf (zaf ((Below.heap_setCell w7 ⟨w2.heap.size,2,none⟩ (.slice q7 (N.length+1) c7) w.heap.size m2).trans HX2.out) 0 (.string (zan A))) 1 (.int .i64 (O:Nat))) 2 (.slice q7 (N.length+1) c7);refine bodyPost_ret (zaP rfl _ _ _ ⟨w.heap.size,0,none⟩ _ rfl (zpd _ _ _ _ _ hx8)) rfl ?_;have hO8:Only w2.heap.size w7 (w7.setCell ⟨w2.heap.size,2,none⟩ (.slice q7 (N.length+1) c7)):=(Only.refl _ _).set _ _;have hO9:=(((Only.refl w.heap.size (w7.setCell ⟨w2.heap.size,2,none⟩ (.slice q7 (N.length+1) c7))).set 0 (.string (zan A))).set 1 (.int .i64 (O:Nat))).set 2 (.slice q7 (N.length+1) c7);have how:=zau (zau HO7.out hO8 (by omega)) hO9 (by omega)
  have hbw:Below w.heap.size w w7:=E6.out.bel.trans (HB7.out.mono (by omega))
  have hfin:IsInts _ _ (.slice q7 (N.length+1) c7) (ints N++[(a1:Int)]):=OwnInts.is how;have e1:ints (N++[a1])=ints N++[(a1:Int)]:=by simp[ints]
  have e2:(N++[a1]).length=N.length+1:=by simp
  rw[e1,e2];exact⟨_,_,rfl,hfin,zwe (zwe (zwe (zwe hbw (by omega) _ _) (by omega) _ _) (by omega) _ _) (by omega) _ _⟩
def zeE (t p:List UInt8):List (List Bool):=[B.low 54156738319193 48,B.low (zby t) 32,B.low (zfI p) 16,zgC (zai p),B.low 2 3,B.low (zbX (zbk p).length) 15,zni (List.range 6) (zal (zbk p) ((zai p).length+2))]
def zhm (p:List UInt8):List (List Bool):=(List.range 2).map fun i=>zbc (za6 (zbk p) ((zai p).length+2) i)
def zhn (p:List UInt8) (i:Nat):List Bool:=zit (za6 (zbk p) ((zai p).length+2) (zk0 (zbk p) ((zai p).length+2) i)) (grN (zbk p) i)
def zvK (t p:List UInt8):List (List Bool):=zeE t p++zhm p++(List.range (zbX (zbk p).length)).map (zhn p)
def zoY (t p:List UInt8):List Bool:=(zvK t p).flatten
structure EncAt (w W:World) (rc sb wb:Nat) (A:ByteArray) (o:Nat) (v tv cv:Value) (T:List SV) (C S:List Int) (ls:List (List Bool)):Prop where
  bel:Below w.heap.size w W
  res:W.heap[rc]?=some (Obj.cells #[.string ⟨#[]⟩,.int .i64 0] 50 (0,0))
  sq:W.heap[sb]?=some (Obj.cells #[.string A,.int .i64 (o:Nat),v] 110 (0,0))
  tabs:IsSl W wb tv T
  cho:IsInts W wb cv C
  sym:IsInts W wb v S
  wr:WrAt W wb ls
  rlt:rc<wb
  slt:sb<wb
  wlt:w.heap.size≤wb
  rge:w.heap.size≤rc
theorem WrAt.lt {W:World} {wb:Nat} {ls:List (List Bool)} (h:WrAt W wb ls):wb<W.heap.size:=by
  obtain⟨v,h,_⟩:=h;exact zab h
theorem WrAt.below {W W':World} {wb:Nat} {ls:List (List Bool)} (h:WrAt W wb ls) (hB:Below W.heap.size W W'):WrAt W' wb ls:=by
  obtain⟨v,h1,h2⟩:=h;exact⟨v,(hB.block wb (zab h1)).trans h1,zag h2 hB⟩
theorem EncAt.step {w W W':World} {rc sb wb o:Nat} {A:ByteArray} {v tv cv:Value} {T:List SV} {C S:List Int} {ls ls':List (List Bool)} (h:EncAt w W rc sb wb A o v tv cv T C S ls) (hk:KeptW wb W W') (hw:WrAt W' wb ls'):EncAt w W' rc sb wb A o v tv cv T C S ls' :=
  ⟨h.bel.trans (hk.bel.mono h.wlt),(hk.bel.block rc h.rlt).trans h.res,(hk.bel.block sb h.slt).trans h.sq,h.tabs.below hk.bel (Nat.le_refl _),h.cho.below hk.bel (Nat.le_refl _),h.sym.below hk.bel (Nat.le_refl _),hw,h.rlt,h.slt,h.wlt,h.rge⟩
theorem EncAt.below {w W W':World} {rc sb wb o:Nat} {A:ByteArray} {v tv cv:Value} {T:List SV} {C S:List Int} {ls:List (List Bool)} (h:EncAt w W rc sb wb A o v tv cv T C S ls) (hB:Below W.heap.size W W'):EncAt w W' rc sb wb A o v tv cv T C S ls :=
  h.step (KeptW.of hB (Nat.le_of_lt h.wr.lt)) (h.wr.below hB)
theorem EncAt.isTabs {w W:World} {rc sb wb o:Nat} {A:ByteArray} {v tv cv:Value} {T:List SV} {C S:List Int} {ls:List (List Bool)} (h:EncAt w W rc sb wb A o v tv cv T C S ls):IsSl W W.heap.size tv T:=h.tabs.mono (Nat.le_of_lt h.wr.lt)
theorem EncAt.isCho {w W:World} {rc sb wb o:Nat} {A:ByteArray} {v tv cv:Value} {T:List SV} {C S:List Int} {ls:List (List Bool)} (h:EncAt w W rc sb wb A o v tv cv T C S ls):IsInts W W.heap.size cv C:=h.cho.mono (Nat.le_of_lt h.wr.lt)
theorem EncAt.isSym {w W:World} {rc sb wb o:Nat} {A:ByteArray} {v tv cv:Value} {T:List SV} {C S:List Int} {ls:List (List Bool)} (h:EncAt w W rc sb wb A o v tv cv T C S ls):IsInts W W.heap.size v S:=h.sym.mono (Nat.le_of_lt h.wr.lt)
end Go.Proofs.YtoejfkeofbdalaaGreatDoor
