import Derived.Test.YtoejfkeofbdalaaGreatDoorM11
import Derived.Laws.CopyRow
set_option linter.unusedVariables false
set_option maxRecDepth 100000
set_option maxHeartbeats 8000000
namespace Go.Proofs.YtoejfkeofbdalaaGreatDoor
open Go.RowKit
def zfw (s:List UInt8):Array Value:=((List.range 256).map fun c=>Value.bool (zfH s c)).toArray
theorem zcp (s:List UInt8):(zfw s).size=256:=by simp[zfw]
theorem zeg (s:List UInt8) (c:Nat) (h:c<256):(zfw s)[c]?=some (.bool (zfH s c)):=by simp[zfw,h]
theorem znr (s:List UInt8):(zfw s).all (·.oneCell')=true:=by
  simp[zfw,Value.oneCell']
theorem zj9 (s:List UInt8) (c:Nat) (h:¬ c<256):(zfw s)[c]?=none:=Array.getElem?_eq_none (by rw[zcp];omega)
theorem znm (s:List UInt8) (x:UInt8):(zfw s).setIfInBounds x.toNat (.bool true)=zfw (s++[x]):=by
  have hx:x.toNat<256:=x.toNat_lt;apply Array.ext_getElem?
  intro i;rw[Array.getElem?_setIfInBounds]
  by_cases hi:i<256
  · rw[zeg _ _ hi,zeg _ _ hi,zg7,znJ,zcp]
    by_cases h:x.toNat=i
    · subst h;simp[hx]
    · rw[if_neg h,beq_eq_false_iff_ne.2 h,Bool.or_false]
  · rw[zj9 _ _ hi,zj9 _ _ hi,if_neg (by omega)]
theorem zns:∀ W,(zeroValue 166).run Tryz.prog W=.ok (.agg (zfw [])) W:=fun _=>by kernel_rfl
theorem zjR:(Tryz.prog.info? 166).map (·.size)=some 256:=by kernel_rfl
theorem ztI (s:ByteArray) (w:World) (hs:s.size≤1000000) :
    Calls Tryz.prog 95 #[.string s] w fun e w'=>e=.returned (.agg (zfw s.data.toList))∧Below w.heap.size w w':=by
  have hz:=zns;obtain⟨Z,hZ⟩:∃ Z,zfw []=Z:=⟨_,rfl⟩;rw[hZ] at hz;have HZ:=Lib.hid hZ;clear hZ
  go_enter Tryz.func95,Tryz.ntmps95
  go_wp2
  have hZb:(w.alloc (.cells Z 166)).heap[w.heap.size]?=some (.cells Z 166 (0,0)):=zae _ _ _ rfl
  go_loopw [6] (fun i wr=>∃ k:Nat,k≤s.size∧i=.int .i64 k∧wr.heap[w.heap.size]?=some (.cells (zfw (s.data.toList.take k)) 166 (0,0))∧Below w.heap.size w wr) (fun i _=>s.size-(intOf i).toNat)
  case atStart=>exact⟨0,Nat.zero_le _,rfl,by rw[List.take_zero,HZ.out];exact hZb,(Below.refl _ _).alloc (Nat.le_refl _) _⟩
  case round =>
    obtain⟨k,hk,rfl,hh,hB⟩:=hrel;have Hh:=Lib.hid hh;clear hh hZb
    by_cases hlt:k<s.size
    · have hx:=(s[k]).toNat_lt
      have hkl:k<s.data.toList.length:=by simpa using hlt
      have hc:=(zaa Hh.out (s[k]).toNat).trans (zeg _ _ hx);have hf:=zac Hh.out (s[k]).toNat
      have Ht:Hid (zfw (s.data.toList.take (k+1))=(zfw (s.data.toList.take k)).setIfInBounds (s[k]).toNat (.bool true)):=by
        show _=_
        rw[znm,List.take_succ_eq_append_getElem hkl];rfl
      have hset:=Lib.hid (zaf Hh.out (s[k]).toNat (.bool true));obtain⟨b,hb⟩:∃ b,zfH (s.data.toList.take k) (s[k]).toNat=b:=⟨_,rfl⟩;rw[hb] at hc;clear hb
      go_wp2
      go_roundw
      case rel=>exact⟨k+1,by omega,by go_num,by rw[Ht.out];exact hset.out,hB.setCell (p:=⟨w.heap.size,_,none⟩) (Nat.le_refl _) _⟩
      case measure=>simp[intOf];omega
    · obtain rfl:k=s.size:=by omega
      have Hh:Hid (wr.heap[w.heap.size]?=some (.cells (zfw s.data.toList) 166 (0,0))):=by
        show _=_
        have:=Hh.out;rw[List.take_of_length_le (by simp)] at this
        exact this
      generalize hS:zfw s.data.toList=S at *
      have hSs:S.size=256:=by rw[←hS];exact zcp _
      have hS1:S.all (·.oneCell')=true:=by rw[←hS];exact znr _
      have hi:(Tryz.prog.info? 166).map (·.size)=some S.size:=by rw[hSs];exact zjR
      have HS:=Lib.hid hS;have Hi:=Lib.hid hi;have HS1:=Lib.hid hS1;clear hS hSs hi hS1
      go_wp2_with
        (first
          | (refine wpList_load_row rfl 166 _ rfl w.heap.size rfl _ S _ _ Hh.out Tryz.underlying166 rfl Hi.out ?_)
          | (refine zaT rfl 166 _ _ rfl w.heap.size S S _ rfl rfl Hh.out rfl Hi.out HS1.out ?_
             intro w2 hg2 hs2 hk2 hb2;have Hg2:=Lib.hid hg2;have HB2:=Lib.hid (hb2 _ _ (Nat.le_refl _) hB);clear hg2 hs2 hk2 hb2))
      refine bodyPost_ret (results_cell_row rfl _ _ w.heap.size _ S _ _ rfl Hg2.out Tryz.underlying166 rfl Hi.out) rfl ⟨by rw[HS.out],HB2.out⟩
theorem zrk (l:List UInt8) (k i:Nat) (h:i<16):(zeS l k).take (i+1)=(zeS l k).take i++[zfH l (16*k+i)]:=by
  rw[List.take_succ_eq_append_getElem (by rw[zbx];exact h)]
  simp[zeS]
theorem ztL (x:Nat) (hx:x<4294967296):bits BinOp.or IntKind.u64 ((x:Int)*2) 1=((2*x+1:Nat):Int):=by
  have:=ztJ x true (by omega)
  rw[show IntKind.u64.wrap ((x:Int)*2)=(x:Int)*2 by rw[IntKind.wrap_u64];omega] at this
  exact this
theorem zt7 (w:World) (l:List UInt8) (k:Nat) (hk:k<16) :
    Calls Tryz.prog 121 #[.agg (zfw l),.int .i64 (k:Nat)] w fun e w'=>e=.returned (.int .u64 (B.num (zeS l k):Nat))∧Below w.heap.size w w':=by
  obtain⟨S,hS⟩:∃ S,zfw l=S:=⟨_,rfl⟩;rw[hS];have HS:=Lib.hid hS;clear hS;have hi:(Tryz.prog.info? 166).map (·.size)=some S.size:=by rw[←HS.out,zcp];exact zjR
  have Hi:=Lib.hid hi;clear hi
  go_enter Tryz.func121,Tryz.ntmps121
  go_wp2
  have hb:(w.alloc (.cells S 166)).heap[w.heap.size]?=some (.cells S 166 (0,0)):=zae _ _ _ rfl;have Hb:=Lib.hid hb;clear hb
  go_loopw [4,6] (fun v i wr=>∃ j:Nat,j≤16∧i=.int .i64 j∧v=.int .u64 (B.num ((zeS l k).take j):Nat)∧Hid (wr=w.alloc (.cells S 166))) (fun _ i _=>16-(intOf i).toNat)
  case atStart=>exact⟨0,Nat.zero_le _,rfl,rfl,Lib.hid rfl⟩
  case round =>
    obtain⟨j,hj,rfl,rfl,hw⟩:=hrel
    by_cases hlt:j<16
    · have hn:=B.num_lt ((zeS l k).take j)
      rw[List.length_take,zbx,Nat.min_eq_left hj] at hn;have hn2:B.num ((zeS l k).take j)<65536:=Nat.lt_of_lt_of_le hn (Nat.pow_le_pow_right (by omega) (show j≤16 from hj))
      clear hn;have hsn:=zrk l k j hlt;obtain⟨x,hx⟩:∃ x,B.num ((zeS l k).take j)=x:=⟨_,rfl⟩;obtain⟨b,hbe⟩:∃ b,zfH l (16*k+j)=b:=⟨_,rfl⟩;have hnum:B.num ((zeS l k).take (j+1))=2*x+b.toNat:=by rw[hsn,B.num_snoc,hx,hbe]
      have hc:(w.alloc (.cells S 166)).cell? ⟨w.heap.size,16*k+j,none⟩=some (.bool (zfH l (16*k+j))):=(zaa Hb.out (16*k+j)).trans (by rw[←HS.out];exact zeg l (16*k+j) (by omega))
      rw[hbe,←hw.out,show 16*k+j=k*16+j by omega] at hc
      rw[hx] at hn2 ⊢;have hs:IntKind.u64.wrap ((x:Int)*2)=(x:Int)*2:=by rw[IntKind.wrap_u64];omega
      have Hor:=Lib.hid (ztL x (by omega))
      have Hnum:=Lib.hid hnum;clear hsn hx hbe hnum;have i1:((k:Int)*16+(j:Int)).toNat=k*16+j:=by omega
      cases b with
      | true =>
        go_wp2
        go_roundw
        case rel=>exact⟨j+1,by omega,by go_num,by rw[Hnum.out,Hor.out];rfl,hw⟩
        case measure=>simp[intOf];omega
      | false =>
        go_wp2
        go_roundw
        case rel=>exact⟨j+1,by omega,by go_num,by rw[Hnum.out,Int.mul_comm];simp,hw⟩
        case measure=>simp[intOf];omega
    · obtain rfl:j=16:=by omega
      go_wp2
      go_ret
      refine⟨zbU (by rw[List.take_of_length_le (by rw[zbx];exact Nat.le_refl _)]),?_⟩
      rw[hw.out];exact (Below.refl _ _).alloc (Nat.le_refl _) _
theorem zhd (l:List UInt8) (n:Nat) (p:Nat→Bool):(zaW p n).length≤n:=by rw[ze6];exact zhl _ _
theorem zt6 (c:Nat) (h:c<256):((UInt8.ofNat c).toNat:Int)=(c:Int):=by simp;omega
theorem zjt (c:Nat) (h:c<256):byteCells [UInt8.ofNat c]=[.int .u8 (c:Int)]:=by
  unfold byteCells;rw[List.map_cons,zt6 c h];rfl
def OwnBytes (w:World) (base:Nat) (v:Value) (xs:List UInt8):Prop:=w.ownsRow base 5 1 v xs.length (byteCells xs)
theorem OwnBytes.nil (w:World) (base:Nat):OwnBytes w base (.slice none 0 0) []:=⟨by simp[byteCells],.inl ⟨rfl,rfl⟩⟩
theorem OwnBytes.shape {w:World} {base:Nat} {v:Value} {xs:List UInt8} (h:OwnBytes w base v xs):∃ q c,v=.slice q xs.length c:=by
  rcases h.2 with ⟨rfl,h0⟩ | ⟨g,cap,cur,rfl,_⟩
  · have:=h.1
    rw[h0] at this;rw[zaw] at this;have h1:xs.length=0:=by simpa using this
    rw[h1];exact⟨_,_,rfl⟩
  · exact⟨_,_,rfl⟩
theorem za9 {w:World} {ops:Array Oper} {rest:List Oper} {o:Oper} {a:Act} {Q:Exit→Act→World→Prop} (hgd:o.guard=none) (s x:Operand)
    (ho:o.op=.call { callee:=.builtin .append,args:=#[s,x],argTypes:=#[89,89] })
    (base:Nat) (v:Value) (xs:List UInt8) (hs:a.eval s=v) (hown:OwnBytes w base v xs)
    (k:Nat) (c:Nat) (hc:c<256) (hx:a.eval x=.slice (some ⟨k,0,none⟩) 1 1) (hr:w.heap[k]?=some (.cells #[.int .u8 (c:Int)] 5 (0,0)))
    (hlen:xs.length≤1099511627776) (hbase:base≤w.heap.size)
    (h:∀ q cap w',OwnBytes w' base (.slice q (xs.length+1) cap) (xs++[UInt8.ofNat c])→w.grownBy w' v.ownBlock→((Value.slice q (xs.length+1) cap).ownBlock=v.ownBlock∨(Value.slice q (xs.length+1) cap).ownBlock=some w.heap.size)→wpList Tryz.prog ops Q rest (a.put o.dst (.slice q (xs.length+1) cap)) w') :
    wpList Tryz.prog ops Q (o::rest) a w:=by
  obtain⟨i0,hi,hz0,hz1,hz2⟩:=info_parts zfs;refine zb6 hgd s x 89 ho base 5 i0 (.int .u8 0) 1 1 Tryz.underlying89 hi hz0 hz1 hz2 rfl (by decide) v xs.length (byteCells xs) hs hown (k+1) 1 _ (byteCells [UInt8.ofNat c]) hx ?_ (zfE _) (by unfold maxLen;omega) (by omega) hbase ?_
  · refine⟨by simp[byteCells],_,1,rfl,Nat.le_refl _,by simp[maxLen],fun _=>⟨k,0,rfl,Nat.lt_succ_self _,fun i u hu=>?_⟩⟩
    rw[zjt c hc] at hu;rw[Nat.zero_add,zaa hr,←hu];simp
  · intro v' w' h2 h3 h4
    have h5:OwnBytes w' base v' (xs++[UInt8.ofNat c]):=by
      unfold OwnBytes;rw[zds];simpa using h2
    obtain⟨q,cp,rfl⟩:=h5.shape;rw[show (xs++[UInt8.ofNat c]).length=xs.length+1 by simp] at *
    exact h q cp w' h5 h3 h4
theorem zcG {w:World} {base:Nat} {v:Value} {xs:List UInt8} (h:OwnBytes w base v xs) {k:Nat} (hk:v.ownBlock=some k):base≤k:=by
  rcases h.2 with ⟨rfl,_⟩ | ⟨g,cap,cur,rfl,hb,_⟩
  · simp[Value.ownBlock] at hk
  · obtain rfl:g=k:=by simpa [Value.ownBlock] using hk
    exact hb
theorem zoU {p:Nat→Bool} {n:Nat} (h:p n=true):zaW p (n+1)=zaW p n++[UInt8.ofNat n]:=by rw[zbf,h];rfl
theorem zqe {p:Nat→Bool} {n:Nat} (h:p n=false):zaW p (n+1)=zaW p n:=by rw[zbf,h];simp
theorem zjJ (cs:Array Value) (k:Nat) (b:Bool) (hk:k<256) (hs:cs.size=256) (h:cs[k]?=some (.bool b)) (W:World):(Instr.index 166 (.agg cs) (.int .i64 (k:Int))).run Tryz.prog W=.ok (.bool b) W:=by
  have h2:(sizeOf 4).run Tryz.prog W=.ok 1 W:=by kernel_rfl
  simp[Instr.index,run_underlying Tryz.underlying166,asIntOf,h2,hk,h,go_sem]
theorem zdZ (w:World) (s:ByteArray) (hs:s.size≤1000000) :
    Calls Tryz.prog 32 #[.string s] w fun e w'=>e=.returned (.string ⟨(zai s.data.toList).toArray⟩)∧Below w.heap.size w w':=by
  have C:=Lib.hid (ztI s w hs);unfold zai;generalize s.data.toList=l at *
  obtain⟨S,hS⟩:∃ S,zfw l=S:=⟨_,rfl⟩;rw[hS] at C;have HS:=Lib.hid hS;clear hS;have hSs:S.size=256:=by rw[←HS.out];exact zcp _
  have HSs:=Lib.hid hSs;clear hSs
  go_enter Tryz.func32,Tryz.ntmps32
  go_wp2_with fail
  refine C.out.mono ?_;rintro e w1 ⟨rfl,hB1⟩;have HB1:=Lib.hid hB1;clear hB1 C
  go_wp2_with fail
  go_loopw [3,8] (fun ov iv wr=>∃ k:Nat,k≤256∧iv=.int .i64 k∧OwnBytes wr w.heap.size ov (zaW (zfH l) k)∧Below w.heap.size w wr) (fun _ iv _=>256-(intOf iv).toNat)
  case atStart=>exact⟨0,Nat.zero_le _,rfl,OwnBytes.nil _ _,HB1.out⟩
  case round =>
    obtain⟨k,hk,rfl,hown,hB⟩:=hrel;have Hown:=Lib.hid hown;have hzB:=hB.size;have hlk:=zhd l k (zfH l);clear hown
    by_cases hlt:k<256
    · have hidx:∀ W,(Instr.index 166 (.agg S) (.int .i64 (k:Int))).run Tryz.prog W=.ok (.bool (zfH l k)) W:=by
        have h1:S[k]?=some (.bool (zfH l k)):=by rw[←HS.out];exact zeg l k hlt
        exact zjJ S k _ hlt HSs.out h1
      obtain⟨b,hb⟩:∃ b,zfH l k=b:=⟨_,rfl⟩;rw[hb] at hidx;have Hb:=Lib.hid hb;clear hb;cases b with
      | true =>
        go_wp2_with
          (at_builtin
           refine za9 rfl _ _ rfl w.heap.size _ (zaW (zfH l) k) rfl (Hown.out.alloc _) wr.heap.size k hlt rfl (zae _ _ _ rfl) (by omega) (by simp;omega) ?_
           intro q' c' w1 hown1 hg1 hat1;have Hown1:=Lib.hid hown1;have hB1:Below w.heap.size w w1:=(hB.alloc (by omega) _).grown hg1 (by simp;omega) (fun j hj=>zcG Hown.out hj)
           clear hg1 hat1 hown1)
        go_roundw
        case rel=>exact⟨k+1,by omega,by go_num,by rw[zoU Hb.out];exact Hown1.out,hB1⟩
        case measure=>simp[intOf];omega
      | false =>
        go_wp2_with fail
        go_roundw
        case rel=>exact⟨k+1,by omega,by go_num,by rw[zqe Hb.out];exact Hown.out,hB⟩
        case measure=>simp[intOf];omega
    · obtain rfl:k=256:=by omega
      have hcv:=zbb _ Hown.out
      go_wp2_with fail
      go_ret
      exact⟨rfl,hB⟩
structure UpI (N:Nat) (D:Nat→Nat) (U:List Nat) (f:Nat) (s:List NP) (n:Nat):Prop where
  row:RowP s n
  len:s.length+n=2*N
  fuel:s.length≤f
  ul:U.length=2*N-1
  old:∀ x,x<n→(∀ y∈s,y.2≠x)→∃ p,U[x]?=some p∧x<p∧p<n∧D x=D p+1
  now:∀ x,(n≤x∨∃ y∈s,y.2=x)→D x=zbs f s n x
  last:N<n→∃ y∈s,y.2+1=n
theorem UpI.start {ws:List Nat} (hw:∀ x∈ws,1≤x) (U:List Nat) (hU:U.length=2*ws.length-1):UpI ws.length (dpF ws) U ws.length (zcP (zaK ws)) ws.length:=by
  have hl:(zcP (zaK ws)).length=ws.length:=by rw[zb0,zbj]
  refine⟨zd4 hw,by omega,by omega,hU,fun x hx hno=>?_,fun x _=>rfl,fun h=>by omega⟩
  exfalso
  exact hno (ws[x],x) (zjq (List.getElem?_eq_getElem hx)) rfl
theorem UpI.step {N:Nat} {D:Nat→Nat} {U:List Nat} {f:Nat} {a b:NP} {r:List NP} {n:Nat} (h:UpI N D U (f+1) (a::b::r) n) :
    UpI N D ((U.set a.2 n).set b.2 n) f (zdd (a.1+b.1,n) r) (n+1)∧a.2<U.length∧b.2<U.length∧a.2≠b.2:=by
  obtain⟨hr,hlen,hf,hul,hold,hnow,-⟩:=h;have ham:=hr.lt a (by simp)
  have hbm:=hr.lt b (by simp)
  simp only[List.length_cons] at hlen hf;have hab:b.2≠a.2:=(NumsP.cons.1 hr.nums).1 b (by simp)
  have hl:(zdd (a.1+b.1,n) r).length=r.length+1:=zcs _ _
  have hDn:D n=zbs f (zdd (a.1+b.1,n) r) (n+1) n:=by
    rw[hnow n (.inl (Nat.le_refl _)),zbs,if_neg (by omega)]
  have hau:a.2<U.length:=by omega
  have hbu:b.2<U.length:=by omega
  refine⟨⟨hr.step,by omega,by omega,by simp[hul],fun x hx hno=>?_,fun x hx=>?_,fun _=>⟨_,insP_mem.2 (.inl rfl),rfl⟩⟩,hau,hbu,fun e=>hab e.symm⟩
  · have hxn:x≠n:=fun e=>hno _ (insP_mem.2 (.inl rfl)) e.symm
    rw[List.getElem?_set,List.getElem?_set]
    by_cases h1:b.2=x
    · subst h1
      refine⟨n,by simp[hbu],by omega,by omega,?_⟩
      rw[hnow b.2 (.inr ⟨b,by simp,rfl⟩),zbs,if_pos (.inr rfl),hDn]
    · by_cases h2:a.2=x
      · subst h2
        refine⟨n,by simp[h1,hau],by omega,by omega,?_⟩
        rw[hnow a.2 (.inr ⟨a,by simp,rfl⟩),zbs,if_pos (.inl rfl),hDn]
      · obtain⟨p,h3,h4,h5,h6⟩:=hold x (by omega) (fun y hy=>by
          rcases List.mem_cons.1 hy with rfl | hy
          · exact h2
          · rcases List.mem_cons.1 hy with rfl | hy
            · exact h1
            · exact hno y (insP_mem.2 (.inr hy)))
        exact⟨p,by simp[h1,h2,h3],h4,by omega,h6⟩
  · have hxa:x≠a.2∧x≠b.2:=by
      rcases hx with hx | ⟨y,hy,rfl⟩
      · omega
      · rcases insP_mem.1 hy with rfl | hy
        · simp only;omega
        · exact⟨(NumsP.cons.1 hr.nums).1 y (by simp[hy]),(NumsP.cons.1 (NumsP.cons.1 hr.nums).2).1 y hy⟩
    have h1:D x=zbs (f+1) (a::b::r) n x:=hnow x (by
      rcases hx with hx | ⟨y,hy,rfl⟩
      · exact .inl (by omega)
      · rcases insP_mem.1 hy with rfl | hy
        · exact .inl (Nat.le_refl _)
        · exact .inr ⟨y,by simp[hy],rfl⟩)
    rw[h1,zbs,if_neg (by simp[hxa])]
theorem UpI.done {N:Nat} {D:Nat→Nat} {U:List Nat} {f:Nat} {s:List NP} {n:Nat} (h:UpI N D U f s n) (hn:n=2*N-1) (hN:2≤N) :
    D (2*N-2)=0∧∀ x,x<2*N-2→∃ p,U[x]?=some p∧x<p∧p≤2*N-2∧D x=D p+1:=by
  obtain⟨hr,hlen,hf,hul,hold,hnow,hlast⟩:=h
  obtain⟨z,rfl⟩:∃ z,s=[z]:=by
    match s,hlen with
    | [],hlen=>simp at hlen;omega
    | [z],_=>exact⟨z,rfl⟩
    | a::b::r,hlen=>simp at hlen;omega
  obtain⟨y,hy,hy2⟩:=hlast (by omega)
  clear hlast;obtain rfl:y=z:=by simpa using hy
  have hy3:y.2=2*N-2:=by omega
  refine⟨?_,fun x hx=>?_⟩
  · rw[←hy3,hnow y.2 (.inr ⟨y,by simp,rfl⟩)]
    cases f with
    | zero=>rfl
    | succ f=>rfl
  · obtain⟨p,h1,h2,h3,h4⟩:=hold x (by omega) (fun z hz=>by
      obtain rfl:z=y:=by simpa using hz
      omega)
    exact⟨p,h1,h2,by omega,h4⟩
theorem zsn (x:NP) (l:List NP):((zdd x l).map (·.1)).sum=x.1+(l.map (·.1)).sum:=by
  rw[zcf (fun y:NP=>y.1) (zbZ x l),List.map_cons,List.sum_cons]
theorem zmo (ws:List Nat) (k x:Nat) (h:ws[k]?=some x):(zaK ws).take (k+1)=(zaK ws).take k++[(x,k)]:=by
  rw[List.take_add_one];congr 1
  unfold zaK;rw[List.getElem?_zipIdx,h];simp
theorem zpb (ws:List Nat):((zaK ws).map (·.1)).sum=ws.sum:=by
  unfold zaK;rw[show (fun x:NP=>x.1)=Prod.fst from rfl,List.zipIdx_map_fst]
def mtf (p:List Nat) (k:Nat):List Nat:=p.getD k 0::(p.take k++p.drop (k+1))
def zjb (k:Nat):List Bool:=List.replicate k true++[false]
def zni:List Nat→List Nat→List Bool
  | _,[]=>[]
  | p,n::ns=>zjb (p.idxOf n)++zni (mtf p (p.idxOf n)) ns
def zuS (t:Nat) (p:List Nat):Prop:=p.length=6∧(p.take t).Perm (List.range t)∧p.drop t=List.range' t (6-t)
theorem zfK (t:Nat) (h:t≤6):zuS t (List.range 6):=by
  refine⟨by simp,?_,?_⟩
  · rw[List.take_range,Nat.min_eq_left h]
  · rw[List.range_eq_range',List.drop_range']
    congr 1
    omega
theorem znM {t:Nat} {p:List Nat} {k:Nat} (h:zuS t p) (ht:t≤6) (hk:k<t):zuS t (mtf p k):=by
  obtain⟨h1,h2,h3⟩:=h;have hk6:k<p.length:=by omega
  have hg:p.getD k 0=p[k]:=by rw[List.getD_eq_getElem?_getD,List.getElem?_eq_getElem hk6];rfl
  have hs:p.take t=p.take k++p[k]::(p.take t).drop (k+1):=by
    have:=List.take_append_drop k (p.take t);rw[List.take_take,Nat.min_eq_left (by omega)] at this
    rw[List.drop_eq_getElem_cons (by rw[List.length_take];omega)] at this
    rw[List.getElem_take] at this;exact this.symm
  have hd:p.drop (k+1)=(p.take t).drop (k+1)++p.drop t:=by
    conv=>lhs;rw[←List.take_append_drop t p]
    rw[List.drop_append_of_le_length (by rw[List.length_take];omega)]
  have hm:mtf p k=(p[k]::(p.take k++(p.take t).drop (k+1)))++p.drop t:=by
    unfold mtf;rw[hg,hd];simp
  have hl:(p[k]::(p.take k++(p.take t).drop (k+1))).length=t:=by
    simp only[List.length_cons,List.length_append,List.length_take,List.length_drop];omega
  refine⟨?_,?_,?_⟩
  · rw[hm,List.length_append,hl,List.length_drop]
    omega
  · rw[hm,List.take_append_of_le_length (by omega),List.take_of_length_le (by omega)]
    refine List.Perm.trans ?_ h2
    conv=>rhs;rw[hs]
    exact List.perm_middle.symm
  · rw[hm,List.drop_append_of_le_length (by omega),List.drop_of_length_le (by omega),List.nil_append,h3]
theorem zsk {t:Nat} {p:List Nat} {n:Nat} (h:zuS t p) (ht:t≤6) (hn:n<t):p.idxOf n<t∧p.getD (p.idxOf n) 0=n:=by
  obtain⟨h1,h2,h3⟩:=h;have hm:n∈p.take t:=h2.mem_iff.2 (List.mem_range.2 hn)
  have hi:p.idxOf n=(p.take t).idxOf n:=by
    conv=>lhs;rw[←List.take_append_drop t p]
    rw[List.idxOf_append,if_pos hm]
  have hlt:(p.take t).idxOf n<(p.take t).length:=List.idxOf_lt_length_of_mem hm;have hlt':p.idxOf n<p.length:=by rw[hi];rw[List.length_take] at hlt;omega
  refine⟨by rw[hi];rw[List.length_take] at hlt;omega,?_⟩
  rw[List.getD_eq_getElem?_getD,List.getElem?_eq_getElem hlt',Option.getD_some];exact List.getElem_idxOf hlt'
theorem zvY {t:Nat} {p:List Nat} {k:Nat} (h:zuS t p) (ht:t≤6) (hk:k<t):p.getD k 0<t∧p.idxOf (p.getD k 0)=k:=by
  obtain⟨h1,h2,h3⟩:=h;have hk6:k<p.length:=by omega
  have hg:p.getD k 0=(p.take t)[k]'(by rw[List.length_take];omega):=by
    rw[List.getD_eq_getElem?_getD,List.getElem?_eq_getElem hk6,List.getElem_take];rfl
  have hmem:(p.take t)[k]'(by rw[List.length_take];omega)∈p.take t:=List.getElem_mem _
  refine⟨by rw[hg];exact List.mem_range.1 (h2.mem_iff.1 hmem),?_⟩
  have hnd:(p.take t).Nodup:=h2.nodup_iff.2 List.nodup_range
  conv=>lhs;arg 2;rw[←List.take_append_drop t p]
  rw[hg,List.idxOf_append,if_pos hmem];exact hnd.idxOf_getElem k _
def zcZ (t:Nat):Nat→List Bool→Except Int (Nat × List Bool)
  | _,[]=>.error 2
  | k,false::r=>.ok (k,r)
  | k,true::r=>if k+1=t then .error 3 else zcZ t (k+1) r
def zpr {α:Type} (l:List Nat):Except Int (List Nat × α)→Except Int (List Nat × α)
  | .error e=>.error e
  | .ok (m,x)=>.ok (l++m,x)
theorem zso {α:Type} (r:Except Int (List Nat × α)):zpr [] r=r:=by
  cases r with
  | error e=>rfl
  | ok p=>rfl
theorem zpZ {α:Type} (l m:List Nat) (r:Except Int (List Nat × α)):zpr l (zpr m r)=zpr (l++m) r:=by
  cases r with
  | error e=>rfl
  | ok p=>simp[zpr]
def ziV (t:Nat):Nat→List Nat→List Bool→Except Int (List Nat × List Bool)
  | 0,_,b=>.ok ([],b)
  | c+1,p,b =>
    match zcZ t 0 b with
    | .error e=>.error e
    | .ok (k,r)=>zpr [p.getD k 0] (ziV t c (mtf p k) r)
theorem zl6 (t k:Nat):∀ (d:Nat) (r:List Bool),k+d<t→zcZ t d (zjb k++r) = .ok (d+k,r):=by
  induction k with
  | zero=>intro d r _;rfl
  | succ k ih =>
    intro d r h;have e:zjb (k+1)++r=true::(zjb k++r):=by simp[zjb,List.replicate_succ]
    rw[e,zcZ,if_neg (by omega),ih _ _ (by omega)]
    congr 2
    omega
theorem onesP_cut (t:Nat):∀ (b q:List Bool) (d k:Nat) (r:List Bool),zcZ t d (b++q) = .ok (k,r)→(∃ r',r=r'++q∧zcZ t d b=.ok (k,r'))∨(r.length<q.length∧zcZ t d b=.error 2):=by
  intro b
  induction b with
  | nil =>
    intro q d k r h
    right
    refine⟨?_,rfl⟩;rw[List.nil_append] at h;exact lt_of q _ k r h
  | cons x b ih =>
    intro q d k r h;cases x with
    | false =>
      simp only[List.cons_append,zcZ,Except.ok.injEq,Prod.mk.injEq] at h;obtain⟨rfl,rfl⟩:=h;exact .inl ⟨b,rfl,rfl⟩
    | true =>
      simp only[List.cons_append,zcZ] at h ⊢
      by_cases he:d+1=t
      · rw[if_pos he] at h;cases h
      · rw[if_neg he] at h ⊢
        exact ih _ _ _ _ h
where
  lt_of:∀ (q:List Bool) (d k:Nat) (r:List Bool),zcZ t d q=.ok (k,r)→r.length<q.length:=by
    intro q
    induction q with
    | nil=>intro d k r h;simp[zcZ] at h
    | cons x q ih =>
      intro d k r h;cases x with
      | false =>
        simp only[zcZ,Except.ok.injEq,Prod.mk.injEq] at h;obtain⟨rfl,rfl⟩:=h;simp
      | true =>
        simp only[zcZ] at h
        by_cases he:d+1=t
        · rw[if_pos he] at h;cases h
        · rw[if_neg he] at h
          have:=ih _ _ _ h;simp only[List.length_cons];omega
theorem zpG (t:Nat) (ht:t≤6) (ns:List Nat):∀ (p:List Nat) (r:List Bool),zuS t p→(∀ n∈ns,n<t)→ziV t ns.length p (zni p ns++r) = .ok (ns,r):=by
  induction ns with
  | nil=>intro p r _ _;rfl
  | cons n ns ih =>
    intro p r hp hn;obtain⟨h1,h2⟩:=zsk hp ht (hn n (by simp))
    rw[zni,List.length_cons,ziV,List.append_assoc,zl6 t _ 0 _ (by omega)]
    simp only[Nat.zero_add];rw[h2,ih _ r (znM hp ht h1) fun m hm=>hn m (by simp[hm])]
    rfl
theorem selP_cut (t:Nat) (c:Nat):∀ (p:List Nat) (b q:List Bool) (l:List Nat) (r:List Bool),ziV t c p (b++q) = .ok (l,r)→(∃ r',r=r'++q∧ziV t c p b=.ok (l,r'))∨(r.length<q.length∧ziV t c p b=.error 2):=by
  induction c with
  | zero =>
    intro p b q l r h;simp only[ziV,Except.ok.injEq,Prod.mk.injEq] at h;obtain⟨rfl,rfl⟩:=h;exact .inl ⟨b,rfl,rfl⟩
  | succ c ih =>
    intro p b q l r h;rw[ziV] at h ⊢;cases ho:zcZ t 0 (b++q) with
    | error e=>rw[ho] at h;cases h
    | ok z =>
      obtain⟨k,r1⟩:=z;rw[ho] at h;simp only at h;cases hs:ziV t c (mtf p k) r1 with
      | error e=>rw[hs] at h;cases h
      | ok z =>
        obtain⟨l1,r2⟩:=z;rw[hs] at h;simp only[zpr,Except.ok.injEq,Prod.mk.injEq] at h;obtain⟨rfl,rfl⟩:=h;rcases onesP_cut t _ _ _ _ _ ho with ⟨r',rfl,h1⟩ | ⟨h1,h2⟩
        · rw[h1]
          simp only;rcases ih _ _ _ _ _ hs with ⟨r3,rfl,h3⟩ | ⟨h3,h4⟩
          · exact .inl ⟨r3,rfl,by rw[h3];rfl⟩
          · exact .inr ⟨h3,by rw[h4];rfl⟩
        · rw[h2]
          have:r2.length≤r1.length:=len_le c _ _ _ _ hs;exact .inr ⟨by omega,rfl⟩
where
  len_le:∀ (c:Nat) (p:List Nat) (b:List Bool) (l:List Nat) (r:List Bool),ziV t c p b=.ok (l,r)→r.length≤b.length:=by
    intro c
    induction c with
    | zero =>
      intro p b l r h;simp only[ziV,Except.ok.injEq,Prod.mk.injEq] at h;obtain⟨rfl,rfl⟩:=h;exact Nat.le_refl _
    | succ c ih =>
      intro p b l r h;rw[ziV] at h;cases ho:zcZ t 0 b with
      | error e=>rw[ho] at h;cases h
      | ok z =>
        obtain⟨k,r1⟩:=z;rw[ho] at h;simp only at h;cases hs:ziV t c (mtf p k) r1 with
        | error e=>rw[hs] at h;cases h
        | ok z =>
          obtain⟨l1,r2⟩:=z;rw[hs] at h;simp only[zpr,Except.ok.injEq,Prod.mk.injEq] at h;obtain⟨rfl,rfl⟩:=h;have h1:=ih _ _ _ _ hs;have h2:=onesP_cut.lt_of t _ _ _ _ ho;omega
theorem ztO (k:Nat):(zjb k).length=k+1:=by simp[zjb]
theorem zvd (k:Nat) (h:k≤5):B.low (2 ^ (k+1)-2) (k+1)=zjb k:=by
  have:∀ k:Fin 6,B.low (2 ^ (k.val+1)-2) (k.val+1)=zjb k.val:=by decide
  exact this ⟨k,by omega⟩
def zlF (p:List Nat) (t:Nat):Array Value:=((p.map fun n:Nat=>Value.int .i64 (n:Int))++[Value.int .i64 (t:Int)]).toArray
def zhc (w:World) (b:Nat) (p:List Nat) (t:Nat):Prop:=w.heap[b]?=some (.cells (zlF p t) 157 (0,0))
theorem zmQ {w:World} {b:Nat} {cs:Array Value}:Only b w (w.setRow b cs):=⟨rfl,rfl,rfl,by simp[World.setRow],fun j hj hk=>by simp[World.setRow,Array.getElem?_modify,Ne.symm hk]⟩
theorem ze2 (p:List Nat) (t j:Nat) (hp:p.length=6) (hj:j<6):(zlF p t)[j]?=some (.int .i64 ((p.getD j 0:Nat))):=by
  have h:j<p.length:=by omega
  simp[zlF,List.getElem?_append_left,List.getD_eq_getElem?_getD,h]
theorem zpY (p:List Nat) (t:Nat):(zlF p t).size=p.length+1:=by simp[zlF]
theorem zhz {w:World} {ops:Array Oper} {rest:List Oper} {o:Oper} {a:Act} {Q:Exit→Act→World→Prop} (hgd:o.guard=none) (d s:Operand)
    (ho:o.op=.call { callee:=.builtin .copy,args:=#[d,s],argTypes:=#[67,67] }) (b k:Nat) (p:List Nat) (t:Nat)
    (hd:a.eval d=.slice (some ⟨b,1,none⟩) 5 5) (hs:a.eval s=.slice (some ⟨b,0,none⟩) k 6) (hp:p.length=6) (hk:k<6) (hE:zhc w b p t)
    (h:∀ w2,zhc w2 b (p.take 1++p.take k++p.drop (1+k)) t→Only b w w2→wpList Tryz.prog ops Q rest (a.put o.dst (.int .i64 (k:Nat))) w2) :
    wpList Tryz.prog ops Q (o::rest) a w:=by
  obtain⟨i0,hi,hz0,hz1,hz2⟩:=info_parts zcq;refine wpList_plain hgd fun K hK=>?_;have hl:((p.take k).map fun n:Nat=>Value.int .i64 (n:Int)).length=k:=by simp;omega
  have hrun:=run_copy_row (P:=Tryz.prog) w 67 67 o.type 3 b 1 5 5 ⟨b,0,none⟩ k 6 (zlF p t) 157 ((p.take k).map fun n:Nat=>Value.int .i64 (n:Int)) Tryz.underlying67 (by rw[hi];simp[hz1]) hE
    (by rw[hl];exact (Nat.min_eq_left (by omega)).symm) (fun j v hj=>by
      rw[List.getElem?_map,List.getElem?_take] at hj;split at hj
      · rename_i hjk
        rw[zgQ,zaa hE,Nat.zero_add,ze2 p t j hp (by omega),←hj,List.getD_eq_getElem?_getD,List.getElem?_eq_getElem (show j<p.length by omega)]
        rfl
      · simp at hj) (by rw[hl,zpY,hp];omega) (fun v hv=>by
      simp only[List.mem_map] at hv;obtain⟨n,_,rfl⟩:=hv;rfl)
  rw[hl] at hrun;unfold Oper.wp execOp;simp only[ho,resolve,invoke,builtin,Sem.run_bind,Sem.run_pure,Result.andThen_ok,List.map_toArray,List.map_cons,List.map_nil,hd,hs,hrun];refine hK _ _ (h _ ?_ zmQ)
  have hrow:((zlF p t).toList.take 1++(p.take k).map (fun n:Nat=>Value.int .i64 (n:Int))++(zlF p t).toList.drop (1+k)).toArray=zlF (p.take 1++p.take k++p.drop (1+k)) t:=by
    unfold zlF;rw[List.take_append_of_le_length (by simp;omega),List.drop_append_of_le_length (by simp;omega)]
    simp
  rw[hrow];unfold zhc;simp[World.setRow,Array.getElem?_modify,show w.heap[b]?=_ from hE]
def ofC (i t:Nat):Array Value:=zlF ((List.range 6).map fun j=>if j<i then j else 0) t
theorem zus (w:World) (t:Nat) (ht:t≤6):Calls Tryz.prog 84 #[.int .i64 (t:Nat)] w fun e w'=>e=.returned (.pointer (some ⟨w.heap.size,0,none⟩))∧w'=w.alloc (.cells (zlF (List.range 6) t) 157):=by
  go_enter Tryz.func84,Tryz.ntmps84
  go_wp2_with fail
  go_loopw [8] (fun iv wr=>∃ i:Nat,i≤6∧iv=.int .i64 i∧wr=w.alloc (.cells (ofC i t) 157)) (fun iv _=>7-(intOf iv).toNat)
  case atStart=>exact⟨0,by omega,rfl,by simp[ofC,zlF,List.range,List.range.loop]⟩
  case round =>
    obtain⟨i,hi,rfl,rfl⟩:=hrel;have h6:i=0∨i=1∨i=2∨i=3∨i=4∨i=5∨i=6:=by omega
    have hB:Below w.heap.size w (w.alloc (.cells (zlF (List.range 6) t) 157)):=(Below.refl _ _).alloc (Nat.le_refl _) _;have e0:ofC 0 t=#[.int .i64 0,.int .i64 0,.int .i64 0,.int .i64 0,.int .i64 0,.int .i64 0,.int .i64 (t:Nat)]:=rfl;have e1:ofC 1 t=#[.int .i64 0,.int .i64 0,.int .i64 0,.int .i64 0,.int .i64 0,.int .i64 0,.int .i64 (t:Nat)]:=rfl;have e2:ofC 2 t=#[.int .i64 0,.int .i64 1,.int .i64 0,.int .i64 0,.int .i64 0,.int .i64 0,.int .i64 (t:Nat)]:=rfl;have e3:ofC 3 t=#[.int .i64 0,.int .i64 1,.int .i64 2,.int .i64 0,.int .i64 0,.int .i64 0,.int .i64 (t:Nat)]:=rfl;have e4:ofC 4 t=#[.int .i64 0,.int .i64 1,.int .i64 2,.int .i64 3,.int .i64 0,.int .i64 0,.int .i64 (t:Nat)]:=rfl;have e5:ofC 5 t=#[.int .i64 0,.int .i64 1,.int .i64 2,.int .i64 3,.int .i64 4,.int .i64 0,.int .i64 (t:Nat)]:=rfl;have e6:ofC 6 t=#[.int .i64 0,.int .i64 1,.int .i64 2,.int .i64 3,.int .i64 4,.int .i64 5,.int .i64 (t:Nat)]:=rfl;rcases h6 with rfl | rfl | rfl | rfl | rfl | rfl | rfl
    · have E:=Lib.hid e1
      rw[e0];clear e0 e1 e2 e3 e4 e5 e6
      go_wp2
      go_roundw
      case rel=>exact⟨1,by omega,rfl,by rw[E.out]⟩
      case measure=>simp[intOf]
    · have E:=Lib.hid e2
      rw[e1];clear e0 e1 e2 e3 e4 e5 e6
      go_wp2
      go_roundw
      case rel=>exact⟨2,by omega,rfl,by rw[E.out]⟩
      case measure=>simp[intOf]
    · have E:=Lib.hid e3
      rw[e2];clear e0 e1 e2 e3 e4 e5 e6
      go_wp2
      go_roundw
      case rel=>exact⟨3,by omega,rfl,by rw[E.out]⟩
      case measure=>simp[intOf]
    · have E:=Lib.hid e4
      rw[e3];clear e0 e1 e2 e3 e4 e5 e6
      go_wp2
      go_roundw
      case rel=>exact⟨4,by omega,rfl,by rw[E.out]⟩
      case measure=>simp[intOf]
    · have E:=Lib.hid e5
      rw[e4];clear e0 e1 e2 e3 e4 e5 e6
      go_wp2
      go_roundw
      case rel=>exact⟨5,by omega,rfl,by rw[E.out]⟩
      case measure=>simp[intOf]
    · have E:=Lib.hid e6
      rw[e5];clear e0 e1 e2 e3 e4 e5 e6
      go_wp2
      go_roundw
      case rel=>exact⟨6,by omega,rfl,by rw[E.out]⟩
      case measure=>simp[intOf]
    · rw[e6]
      clear e0 e1 e2 e3 e4 e5 e6
      go_wp2
      go_ret
      exact⟨rfl,rfl⟩
theorem zts (t:Int) (W:World):Calls Tryz.prog 81 #[.int .i64 t] W fun e w'=>e=.returned (.bool (decide (2≤t) && decide (t≤6)))∧W=w':=by
  rcases h1:decide (2≤t) with _ | _ <;> rcases h2:decide (t≤6) with _ | _ <;>
  · go_enter Tryz.func81,Tryz.ntmps81
    go_wp2
    go_ret
    exact⟨rfl,rfl⟩
theorem zrj (w:World) (b:Nat) (p:List Nat) (t k:Nat) (hp:p.length=6) (hk:k<6) (hE:zhc w b p t) :
    Calls Tryz.prog 86 #[.pointer (some ⟨b,0,none⟩),.int .i64 (k:Nat)] w fun e w'=>e=.returned (.int .i64 ((p.getD k 0:Nat)))∧Only b w w'∧zhc w' b (mtf p k) t:=by
  have hcell:∀ j,j<6→w.cell? ⟨b,j,none⟩=some (.int .i64 ((p.getD j 0:Nat))):=fun j hj=>by rw[zaa hE j,ze2 p t j hp hj]
  have hck:=hcell k hk;obtain⟨x,hx⟩:∃ x,p.getD k 0=x:=⟨_,rfl⟩;rw[hx] at hck ⊢;have hk0:(0:Int)≤(k:Int):=by omega
  have hk6:(k:Int)<6:=by omega
  have hk6':(k:Int)≤6:=by omega
  have HE:=Lib.hid hE;have Hx:=Lib.hid hx;clear hcell hE hx
  go_enter Tryz.func86,Tryz.ntmps86
  go_wp2_with fail
  go_still_tail 7,(by kernel_rfl)
  refine zhz rfl (.tmp 13) (.tmp 17) rfl b k p t rfl rfl hp hk HE.out ?_;intro w2 hR hO;have hR2:=Lib.hid hR;have hO2:Only b w w2:=(Only.of (Below.refl _ w).drew).trans hO
  have hc0:w2.cell? ⟨b,0,none⟩=some (.int .i64 (p.getD 0 0:Nat)):=by
    rw[zaa hR 0,ze2 _ _ _ (by simp;omega) (by omega)]
    cases p with
    | nil=>simp at hp
    | cons a p=>rfl
  have hf0:=zac hR 0;clear hR hO
  go_wp2_with fail
  go_ret
  refine⟨rfl,hO2.set _ _,?_⟩;have h1:=zaf hR2.out 0 (.int .i64 (x:Nat));unfold zhc;rw[h1];congr 2
  unfold zlF mtf;rw[Hx.out];cases p with
  | nil=>simp at hp
  | cons a p=>simp[Nat.add_comm]
end Go.Proofs.YtoejfkeofbdalaaGreatDoor
