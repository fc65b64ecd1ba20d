import Derived.Test.YtoejfkeofbdalaaGreatDoorM19
import Derived.Laws.IdiomCopy
import Derived.Lib.ConvBytes
import Derived.Laws.IdiomStrings
set_option linter.unusedVariables false
set_option maxRecDepth 100000
set_option maxHeartbeats 8000000
namespace Go.Proofs.YtoejfkeofbdalaaGreatDoor
open Go.RowKit
def BytesAt (w:World) (g:Nat) (U:List UInt8):Prop:=∀ j p,U[j]?=some p→w.cell? ⟨g,j,none⟩=some (.int .u8 (p.toNat:Int))∧w.frozen? ⟨g,j,none⟩=false
theorem frozen?_of_block {w w':World} {a:Addr} (h:w'.heap[a.block]?=w.heap[a.block]?):w'.frozen? a=w.frozen? a:=by
  simp only[World.frozen?,h]
theorem BytesAt.blk {w w':World} {g:Nat} {U:List UInt8} (h:BytesAt w g U) (hb:w'.heap[g]?=w.heap[g]?):BytesAt w' g U:=fun j p hj=>by
  rw[World.cell?_of_block (w:=w) hb,frozen?_of_block (w:=w) (a:=⟨g,j,none⟩) hb];exact h j p hj
theorem BytesAt.set {w:World} {g:Nat} {U:List UInt8} (h:BytesAt w g U) (x:Nat) (p:UInt8):BytesAt (w.setCell ⟨g,x,none⟩ (.int .u8 (p.toNat:Int))) g (U.set x p):=fun j q hj=>by
  rw[World.frozen?_setCell]
  by_cases e:x=j
  · subst e
    have hl:x<U.length:=by
      have:=(List.getElem?_eq_some_iff.1 hj).1
      rwa [List.length_set] at this
    rw[List.getElem?_set_self hl] at hj;injection hj with hj
    subst hj;have h1:=h x _ (List.getElem?_eq_getElem hl);refine⟨?_,h1.2⟩;exact World.cell?_setCell_same' _ _ _ (by rw[h1.1];rfl)
  · rw[List.getElem?_set_ne e] at hj
    have h1:=h j q hj;refine⟨?_,h1.2⟩;rw[World.cell?_setCell_other _ _ _ _ (fun h=>e (congrArg Addr.off h))];exact h1.1
theorem BytesAt.cells {w:World} {g:Nat} {U:List UInt8} (h:BytesAt w g U) (o:Nat) (V:List UInt8) (ho:o+V.length≤U.length):BytesAt (w.setCells g o (byteCells V)) g (U.take o++V++U.drop (o+V.length)):=fun j q hj=>by
  have hc:∀ j,j<(byteCells V).length→(w.cell? ⟨g,o+j,none⟩).isSome=true:=fun j hj=>by
    rw[zaw] at hj;rw[(h (o+j) _ (List.getElem?_eq_getElem (by omega))).1]
    rfl
  rw[World.frozen?_setCells];have hjl:=(List.getElem?_eq_some_iff.1 hj).1;have hlu:(U.take o++V++U.drop (o+V.length)).length=U.length:=by simp;omega
  rw[hlu] at hjl;refine⟨?_,(h j _ (List.getElem?_eq_getElem hjl)).2⟩
  by_cases h1:j<o
  · rw[World.cell?_setCells_out g _ o w _ (fun _ _=>.inl h1)]
    rw[List.append_assoc,List.getElem?_append_left (by simp;omega),List.getElem?_take_of_lt h1] at hj
    exact (h j q hj).1
  · by_cases h2:j<o+V.length
    · have h3:=World.cell?_setCells_in g (byteCells V) o w hc (j-o) (by rw[zaw];omega)
      rw[show o+(j-o)=j by omega] at h3
      rw[h3];rw[List.getElem?_append_left (by simp;omega),List.getElem?_append_right (by simp;omega)] at hj
      have h4:=getElem?_byteC V (j-o);rw[List.length_take,Nat.min_eq_left (by omega)] at hj
      rw[hj,List.getElem?_eq_getElem (by rw[zaw];omega)] at h4
      exact h4
    · rw[World.cell?_setCells_out g _ o w _ (fun _ _=>.inr (by rw[zaw];show o+V.length≤j;omega))]
      rw[List.getElem?_append_right (by simp;omega),List.getElem?_drop] at hj
      refine (h j q ?_).1;rw[←hj];congr 1
      simp;omega
theorem zeZ (g:Nat):∀ (vs:List Value) (o:Nat) (w:World),Only g w (w.setCells g o vs)
  | [],_,w=>Only.refl g w
  | v::vs,o,w=>((Only.refl g w).set o v).trans (zeZ g vs (o+1) _)
def zoj (A:List UInt8) (k:Nat):List UInt8:=A.getD k 0::(A.take k++A.drop (k+1))
theorem zhN (A:List UInt8) (k:Nat) (h:k<A.length):(zoj A k).length=A.length:=by simp[zoj];omega
theorem zkb:(Tryz.prog.info? 5).map (·.size)=some 1:=by kernel_rfl
theorem zfW:Tryz.prog.elem 89=5:=by kernel_rfl
theorem zf6:Tryz.prog.underlying 89=some (.slice (Tryz.prog.elem 89)):=by rw[zfW];exact Tryz.underlying89
theorem zhM (w:World):(sizeOf 5).run Tryz.prog w=.ok 1 w:=by kernel_rfl
theorem zmH (g n cap:Nat) (hn:1≤n) (hc:n≤cap):∃ q,(cap≠1→q=some ⟨g,1,none⟩)∧∀ W,(Instr.slice 89 (.slice (some ⟨g,0,none⟩) n cap) (some (.int .i64 1)) none none).run Tryz.prog W=.ok (.slice q (n-1) (cap-1)) W:=by
  refine⟨if cap=1 then some ⟨g,0,none⟩ else some ⟨g,1,none⟩,fun h=>if_neg h,fun W=>?_⟩
  rw[run_slice_l W _ _ _ _ zf6 _ _ (by omega) (by omega),zfW,zhM]
  simp only[Result.andThen_ok,sliced];congr 2
theorem zsF (g n cap k:Nat) (hk:k≤cap):∀ W,(Instr.slice 89 (.slice (some ⟨g,0,none⟩) n cap) none (some (.int .i64 (k:Int))) none).run Tryz.prog W=.ok (.slice (some ⟨g,0,none⟩) k cap) W:=fun W=>by
  rw[run_slice_h W _ _ _ _ zf6 _ _ (by omega) (by omega),zfW,zhM]
  simp only[Result.andThen_ok,sliced];congr 2
  by_cases h:cap=0
  · simp[h]
  · simp[Addr.add]
theorem zf2 {w:World} {ops:Array Oper} {rest:List Oper} {o:Oper} {a:Act} {Q:Exit→Act→World→Prop} (hgd:o.guard=none) (d s:Operand)
    (ho:o.op=.call { callee:=.builtin .copy,args:=#[d,s],argTypes:=#[89,89] }) (g n cap k:Nat) (q:Option Addr) (A:List UInt8)
    (hd:a.eval d=.slice q (n-1) (cap-1)) (hs:a.eval s=.slice (some ⟨g,0,none⟩) k cap) (hA:A.length=n) (hk:k<n) (hc:n≤cap) (hq:cap≠1→q=some ⟨g,1,none⟩) (hE:BytesAt w g A)
    (h:∀ w2,BytesAt w2 g (A.take 1++A.take k++A.drop (1+k))→Only g w w2→wpList Tryz.prog ops Q rest (a.put o.dst (.int .i64 (k:Nat))) w2) :
    wpList Tryz.prog ops Q (o::rest) a w:=by
  refine wpList_plain hgd fun K hK=>?_
  by_cases hc1:cap=1
  · have hk0:k=0:=by omega
    have hrun:=run_copy_none (P:=Tryz.prog) w 89 89 o.type 5 q (some ⟨g,0,none⟩) (n-1) (cap-1) k cap Tryz.underlying89 zkb (by subst hk0;exact Nat.zero_min _)
    unfold Oper.wp execOp;simp only[ho,resolve,invoke,builtin,Sem.run_bind,Sem.run_pure,Result.andThen_ok,List.map_toArray,List.map_cons,List.map_nil,hd,hs,hrun]
    have h0:=h w (by
      subst hk0;rw[List.take_zero,List.append_nil,List.take_append_drop];exact hE) (Only.refl g w)
    subst hk0;exact hK _ _ h0
  · have hl:(byteCells (A.take k)).length=k:=by rw[zaw,List.length_take];omega
    have hrun:=run_copy_cells (P:=Tryz.prog) w 89 89 o.type 5 g 1 (n-1) (cap-1) ⟨g,0,none⟩ k cap (byteCells (A.take k)) Tryz.underlying89 zkb
      (by rw[hl];exact (Nat.min_eq_left (by omega)).symm) (fun j v hj=>by
        rw[getElem?_byteC,List.getElem?_take] at hj;split at hj
        · rename_i hjk
          rw[List.getElem?_eq_getElem (show j<A.length by omega)] at hj
          rw[zgQ,Nat.zero_add,(hE j _ (List.getElem?_eq_getElem (show j<A.length by omega))).1,←hj]
          rfl
        · simp at hj) (fun j hj=>by
        rw[hl] at hj;rw[(hE (1+j) _ (List.getElem?_eq_getElem (by omega))).1]
        rfl) (fun j hj=>by
        rw[hl] at hj;exact (hE (1+j) _ (List.getElem?_eq_getElem (by omega))).2) (zfE _)
    rw[hl,←hq hc1] at hrun;unfold Oper.wp execOp;simp only[ho,resolve,invoke,builtin,Sem.run_bind,Sem.run_pure,Result.andThen_ok,List.map_toArray,List.map_cons,List.map_nil,hd,hs,hrun];have h1:=hE.cells 1 (A.take k) (by rw[List.length_take];omega)
    rw[List.length_take,Nat.min_eq_left (by omega)] at h1
    exact hK _ _ (h _ h1 (zeZ g _ 1 w))
theorem zkY (w:World) (g n cap k:Nat) (A:List UInt8) (hA:A.length=n) (hk:k<n) (hc:n≤cap) (hm:cap≤9223372036854775807) (hg:g<w.heap.size) (hE:BytesAt w g A) :
    Calls Tryz.prog 91 #[.agg #[.slice (some ⟨g,0,none⟩) n cap],.int .i64 (k:Nat)] w fun e w'=>e=.returned (.int .u8 ((A.getD k 0).toNat:Int))∧BytesAt w' g (zoj A k)∧Only g w w':=by
  obtain⟨q,hq,hs1⟩:=zmH g n cap (by omega) hc
  have hs2:=zsF g n cap k (by omega)
  obtain⟨x,hx⟩:∃ x,A[k]?=some x:=⟨_,List.getElem?_eq_getElem (by omega)⟩
  have hxd:A.getD k 0=x:=by rw[List.getD_eq_getElem?_getD,hx];rfl
  rw[hxd];have hgb:w.heap.size≠g:=by omega
  have hE1:BytesAt (w.alloc (.cells #[.slice (some ⟨g,0,none⟩) n cap] 161)) g A:=hE.blk (Below.heap_alloc w _ g hg);have HE:=Lib.hid hE1;have HX:=Lib.hid hx;have HA:=Lib.hid hA;have HXD:=Lib.hid hxd;have HQ:=Lib.hid hq;clear hE hE1 hx hA hxd hq;have hck:=(HE.out k x HX.out).1;have hk0:(0:Int)≤(k:Int):=by omega
  go_enter Tryz.func91,Tryz.ntmps91
  go_wp2_with fail
  have hbx:(w.alloc (.cells #[.slice (some ⟨g,0,none⟩) n cap] 161)).cell? ⟨w.heap.size,0,none⟩=some (.slice (some ⟨g,0,none⟩) n cap):=(zaa (zae w _ _ rfl) 0).trans rfl;have hO1:Only g w (w.alloc (.cells #[.slice (some ⟨g,0,none⟩) n cap] 161)):=Only.of ((Below.refl _ w).alloc (Nat.le_refl _) _);have hwz:w.heap.size<(w.alloc (.cells #[.slice (some ⟨g,0,none⟩) n cap] 161)).heap.size:=by simp
  obtain⟨W,hW⟩:∃ W,w.alloc (.cells #[.slice (some ⟨g,0,none⟩) n cap] 161)=W:=⟨_,rfl⟩;rw[hW] at HE hck hbx hO1 hwz ⊢;have HO1:=Lib.hid hO1;have HBX:=Lib.hid hbx;clear hW hO1
  go_still_tail 7,(by kernel_rfl)
  refine zf2 rfl (.tmp 13) (.tmp 17) rfl g n cap k q A rfl rfl HA.out hk hc HQ.out HE.out ?_;intro w2 hR hO;have HR:=Lib.hid hR;have HO:Hid (Only g W w2):=(Only.of (Below.refl _ W).drew).trans hO;have hlR:(A.take 1++A.take k++A.drop (1+k)).length=n:=by simp[HA.out];omega
  obtain⟨y,hy⟩:∃ y,(A.take 1++A.take k++A.drop (1+k))[0]?=some y:=⟨_,List.getElem?_eq_getElem (by omega)⟩
  have hc0:=(hR 0 y hy).1;have hf0:=(hR 0 y hy).2;have hb2:w2.cell? ⟨w.heap.size,0,none⟩=some (.slice (some ⟨g,0,none⟩) n cap):=(World.cell?_of_block (w:=W) (a:=⟨w.heap.size,0,none⟩) (HO.out.block _ hwz (by omega))).trans HBX.out
  have hset:=hR.set 0 x
  have hfin:(A.take 1++A.take k++A.drop (1+k)).set 0 x=zoj A k:=by
    unfold zoj;rw[HXD.out];cases A with
    | nil=>have:=HA.out;simp at this;omega
    | cons a A=>simp[Nat.add_comm]
  rw[hfin] at hset;have HS:=Lib.hid hset;have HO2:=Lib.hid (HO.out.set 0 (.int .u8 (x.toNat:Int)));clear hR hO hs1 hs2 hlR hset hfin hbx hck hy
  go_wp2_with fail
  go_ret
  exact⟨rfl,HS.out,HO1.out.trans HO2.out⟩
theorem zuL:∀ W,(zeroValue 165).run Tryz.prog W=.ok (.agg (zfw [])) W:=fun _=>by kernel_rfl
theorem zjf (A:List UInt8) (x:UInt8):zfH A x.toNat=decide (x∈A):=by
  rw[Bool.eq_iff_iff];simp only[zfH,List.any_eq_true,beq_iff_eq,decide_eq_true_eq]
  constructor
  · rintro⟨y,hy,e⟩
    rw[←UInt8.toNat_inj.1 e];exact hy
  · exact fun h=>⟨x,h,rfl⟩
theorem ziP (s:ByteArray) (w:World) (hs:s.size≤1000000) :
    Calls Tryz.prog 90 #[.string s] w fun e w'=>e=.returned (.bool (decide s.data.toList.Nodup))∧Below w.heap.size w w':=by
  have hz:=zuL;obtain⟨Z,hZ⟩:∃ Z,zfw []=Z:=⟨_,rfl⟩;rw[hZ] at hz;have HZ:=Lib.hid hZ;clear hZ
  go_enter Tryz.func90,Tryz.ntmps90
  go_wp2_with fail
  have hZb:(w.alloc (.cells Z 165)).heap[w.heap.size]?=some (.cells Z 165 (0,0)):=zae _ _ _ rfl;have HZB:=Lib.hid hZb;clear hZb
  go_loopw [7] (fun i wr=>∃ k:Nat,k≤s.size∧i=.int .i64 k∧Hid ((s.data.toList.take k).Nodup)∧Hid (wr.heap[w.heap.size]?=some (.cells (zfw (s.data.toList.take k)) 165 (0,0)))∧Hid (Below w.heap.size w wr)) (fun i _=>s.size+1-(intOf i).toNat)
  case atStart=>exact⟨0,Nat.zero_le _,rfl,List.nodup_nil,by show _=_;rw[List.take_zero,HZ.out];exact HZB.out,(Below.refl _ _).alloc (Nat.le_refl _) _⟩
  case round =>
    clear HZB;obtain⟨k,hk,rfl,HN,Hh,HB⟩:=hrel
    by_cases hlt:k<s.size
    · have hx:=(s[k]).toNat_lt
      have hkl:k<s.data.toList.length:=by simpa using hlt
      have hc:=(zaa Hh.out (s[k]).toNat).trans (zeg _ _ hx);have hf:=zac Hh.out (s[k]).toNat;have hts:s.data.toList.take (k+1)=s.data.toList.take k++[s[k]]:=List.take_succ_eq_append_getElem hkl
      have Ht:Hid (zfw (s.data.toList.take (k+1))=(zfw (s.data.toList.take k)).setIfInBounds (s[k]).toNat (.bool true)):=by
        show _=_
        rw[znm,hts]
      have hset:=Lib.hid (zaf Hh.out (s[k]).toNat (.bool true));have HTS:=Lib.hid hts;rw[zjf] at hc
      by_cases hb:s[k]∈s.data.toList.take k
      · rw[decide_eq_true hb] at hc
        have hno:¬ s.data.toList.Nodup:=fun h=>by
          rw[←List.take_append_drop (k+1) s.data.toList,hts] at h;have h1:=(List.nodup_append.1 h).1;have h2:=(List.nodup_append.1 h1).2.2 _ hb _ (List.mem_singleton.2 rfl);exact h2 rfl
        have HNO:=Lib.hid (decide_eq_false hno);clear hb hno hts
        go_wp2_with fail
        go_ret
        exact⟨by rw[HNO.out];rfl,HB.out⟩
      · rw[decide_eq_false hb] at hc
        have HN2:Hid ((s.data.toList.take (k+1)).Nodup):=by
          show List.Nodup _
          rw[hts]
          exact List.nodup_append.2 ⟨HN.out,by simp,fun a ha b hb'=>by
            rw[List.mem_singleton.1 hb'];exact fun e=>hb (e ▸ ha)⟩
        clear hb hts
        go_wp2_with fail
        go_roundw
        case rel=>exact⟨k+1,by omega,by go_num,HN2,by show _=_;rw[Ht.out];exact hset.out,HB.out.setCell (p:=⟨w.heap.size,_,none⟩) (Nat.le_refl _) _⟩
        case measure=>simp[intOf];omega
    · obtain rfl:k=s.size:=by omega
      have HNF:Hid (decide s.data.toList.Nodup=true):=by
        have:=HN.out;rw[List.take_of_length_le (by simp)] at this
        exact decide_eq_true this
      go_wp2_with fail
      go_ret
      exact⟨by rw[HNF.out];rfl,HB.out⟩
theorem ziw (w:World) (s:ByteArray) (hs:s.size≤1000000):∃ (WC:World) (cap:Nat),(convert 9 89 (.string s)).run Tryz.prog w=.ok (.slice (some ⟨w.heap.size,0,none⟩) s.size cap) WC∧s.size≤cap∧cap≤9223372036854775807∧BytesAt WC w.heap.size s.data.toList∧WC.heap.size=w.heap.size+1∧Below w.heap.size w WC:=by
  refine⟨_,_,Lib.run_convert_string_bytes w 9 89 5 s Tryz.underlying9 Tryz.underlying89 Tryz.underlying5,grownCap_ge _ _ _ _,?_,fun j p hj=>?_,Lib.bytesWorld_size _ _ _,⟨rfl,rfl,rfl,by rw[Lib.bytesWorld_size];omega,fun k hk=>Lib.bytesWorld_at_old _ _ _ k hk⟩⟩
  · have:=grownCap_le_maxLen w s.size 0 5 (by unfold maxLen;omega)
    unfold maxLen at this;omega
  · have hl:j<s.size:=by simpa using (List.getElem?_eq_some_iff.1 hj).1
    refine⟨?_,?_⟩
    · rw[Lib.bytesWorld_cell w 5 s j hl,List.getD_eq_getElem?_getD,hj]
      rfl
    · have hn:=Lib.bytesWorld_at_new w 5 s
      have hsz:j<(Lib.bytesCells w 5 s).size:=by simp[Lib.bytesCells];omega
      simp[World.frozen?,hn];omega
def zgb (st:Option (List UInt8 × List UInt8)) (k:Int):Option (List UInt8 × List UInt8) :=
  st.bind fun p=>if k<0∨(p.1.length:Int)≤k then none else some (zoj p.1 k.toNat,p.2++[p.1.getD k.toNat 0])
def zlG (A:List UInt8) (l:List Int):Option (List UInt8 × List UInt8):=l.foldl zgb (some (A,[]))
def zvj:Option (List UInt8 × List UInt8)→List UInt8 × Int
  | none=>([],5)
  | some p=>(p.2,0)
def zdp (A:List UInt8) (l:List Int):List UInt8 × Int:=if ¬ A.Nodup then ([],1) else zvj (zlG A l)
theorem zla (A:List UInt8) (l:List Int) (k:Int):zlG A (l++[k])=zgb (zlG A l) k:=by simp[zlG]
theorem zol (l:List Int):l.foldl zgb none=none:=by
  induction l with
  | nil=>rfl
  | cons k l ih=>exact ih
theorem zkB {A:List UInt8} {l:List Int} {k:Nat} (h:zlG A (l.take k)=none):zlG A l=none:=by
  unfold zlG at h ⊢;rw[←List.take_append_drop k l,List.foldl_append,h];exact zol _
theorem zau {w w':World} {d base e size n:Nat} {v:Value} {xs:List Value} (h:w.ownsRow base e size v n xs) (ho:Only d w w') (hd:d<base):w'.ownsRow base e size v n xs:=by
  refine⟨h.1,?_⟩;rcases h.2 with h0 | ⟨g,cap,cur,e1,e2,e3,e4⟩
  · exact .inl h0
  · exact .inr ⟨g,cap,cur,e1,e2,ho.other e3 (by omega),e4⟩
theorem zgU (n:Nat) (hn:n≤17592186044416):∃ cs:Array Value,cs.size=n∧∀ W,(Instr.makeSlice 89 (.int .i64 0) (.int .i64 (n:Int))).run Tryz.prog W=.ok (.slice (some ⟨W.heap.size,0,none⟩) 0 n) (W.alloc (.cells cs 5)):=by
  obtain⟨i0,hi,hz0,hz1,hz2⟩:=info_parts zfs;refine⟨madeCells #[.int .u8 0] (n*1),?_,fun W=>?_⟩
  · rw[←Array.length_toList,toList_madeCells_one,Nat.mul_one];simp
  · have:=run_make (P:=Tryz.prog) W 89 5 i0 (.int .u8 0) Tryz.underlying89 hi hz0 .i64 .i64 0 n (by omega) (by omega) (by rw[hz2];omega) (by omega)
    rw[hz1,Int.toNat_natCast] at this;exact this
theorem zqN {w:World} {base g n:Nat} {cs:Array Value} (h:w.heap[g]?=some (.cells cs 5 (0,0))) (hs:cs.size=n) (hb:base≤g) (hm:n≤maxLen):OwnBytes w base (.slice (some ⟨g,0,none⟩) 0 n) [] :=
  ⟨by simp[byteCells],.inr ⟨g,n,cs,rfl,hb,h,Nat.zero_le _,hm,by omega,by simp[byteCells]⟩⟩
theorem zkf (s:ByteArray) (v:Value) (l:List Int) (w:World) (hv:IsInts w w.heap.size v l) (h0:0<s.size) (hs:s.size≤1000000) (hl:l.length≤1000000) :
    Calls Tryz.prog 29 #[.string s,v] w fun e w'=>e=.returned (.tuple #[.string ⟨(zdp s.data.toList l).1.toArray⟩,.int .i64 (zdp s.data.toList l).2])∧Below w.heap.size w w':=by
  obtain⟨q,c,rfl,hc1,hc2⟩:=hv.shape;obtain⟨N,hN⟩:∃ N,l.length=N:=⟨_,rfl⟩;rw[hN] at hv hl hc1 ⊢;have HN:=Lib.hid hN;have HV:=Lib.hid hv;have CR:=Lib.hid (ziP s w hs)
  by_cases hnd:s.data.toList.Nodup
  · rw[decide_eq_true hnd] at CR
    have hF:zdp s.data.toList l=zvj (zlG s.data.toList l):=by
      unfold zdp;rw[if_neg (fun h=>h hnd)]
    rw[hF];obtain⟨A,hA⟩:∃ A,s.data.toList=A:=⟨_,rfl⟩;rw[hA];have hAl:A.length=s.size:=by rw[←hA];simp
    have HA:=Lib.hid hA;clear hA;obtain⟨cs0,hcs0,hmk⟩:=zgU N (by omega)
    have HC0:=Lib.hid hcs0;clear hv hN hnd hF hcs0 hc1
    go_enter Tryz.func29,Tryz.ntmps29
    go_wp2_with fail
    refine CR.out.mono ?_;rintro e w1 ⟨rfl,hB1⟩;have HB1:=Lib.hid hB1;have HV1:=Lib.hid (zwb HV.out hB1);clear hB1 CR
    go_wp2_with fail
    obtain⟨WC,cap,hcv,hcap,hcap2,hat,hsz,hB2⟩:=ziw w1 s hs;rw[hcv];have HAT:=Lib.hid hat;have HSZ:=Lib.hid hsz;have HB2:=Lib.hid hB2;have hg1:w1.heap.size<WC.heap.size:=by omega
    clear hcv hat hsz hB2;obtain⟨g,hg⟩:∃ g,w1.heap.size=g:=⟨_,rfl⟩;have HW1:Hid (IsInts WC WC.heap.size (.slice q N c) l):=zwb HV1.out HB2.out;have HBw:Hid (Below w.heap.size w WC):=HB1.out.trans (HB2.out.mono HB1.out.size);have hwg:w.heap.size≤g:=by rw[←hg];exact HB1.out.size
    rw[hg] at HAT hg1 ⊢;rw[HA.out] at HAT;clear hg HB1 HV1 HB2 HSZ;obtain⟨n,hn⟩:∃ n,s.size=n:=⟨_,rfl⟩;rw[hn] at hcap hAl h0 hs ⊢;have HAL:=Lib.hid hAl;clear hn hAl;have hwz:=HBw.out.size;have HB0:Hid (Below w.heap.size w ((WC.alloc (.cells #[.slice (some ⟨g,0,none⟩) n cap] 161)).alloc (.cells cs0 5))):=(HBw.out.alloc hwz _).alloc (by simp;omega) _
    have hAT0:BytesAt ((WC.alloc (.cells #[.slice (some ⟨g,0,none⟩) n cap] 161)).alloc (.cells cs0 5)) g A:=(HAT.out.blk (Below.heap_alloc _ _ g hg1)).blk (Below.heap_alloc _ _ g (by simp;omega))
    have hOw0:OwnBytes ((WC.alloc (.cells #[.slice (some ⟨g,0,none⟩) n cap] 161)).alloc (.cells cs0 5)) (WC.heap.size+1) (.slice (some ⟨WC.heap.size+1,0,none⟩) 0 N) []:=zqN (zww _ _ _) HC0.out (Nat.le_refl _) (by simp[maxLen];omega)
    have hbx0:((WC.alloc (.cells #[.slice (some ⟨g,0,none⟩) n cap] 161)).alloc (.cells cs0 5)).heap[WC.heap.size]?=some (.cells #[.slice (some ⟨g,0,none⟩) n cap] 161 (0,0)):=zah _ (zae _ _ _ rfl);have HAT0:=Lib.hid hAT0;have HOW0:=Lib.hid hOw0;have HBX0:=Lib.hid hbx0;clear hAT0 hOw0 hbx0 HAT HC0
    go_wp2_with fail
    go_loopw [7,21] (fun ov iv wr=>∃ (k:Nat) (q2:Option Addr) (c2:Nat) (B O:List UInt8),k≤N∧iv=.int .i64 k∧ov=.slice q2 k c2∧Hid (zlG A (l.take k)=some (B,O))∧Hid (B.length=n)∧Hid (O.length=k)∧Hid (BytesAt wr g B)∧Hid (OwnBytes wr (WC.heap.size+1) (.slice q2 k c2) O)∧Hid (wr.heap[WC.heap.size]?=some (.cells #[.slice (some ⟨g,0,none⟩) n cap] 161 (0,0)))∧Hid (Below w.heap.size w wr)∧Hid (WC.heap.size+1≤wr.heap.size)) (fun _ iv _=>N+1-(intOf iv).toNat)
    case atStart=>exact⟨0,_,_,A,[],Nat.zero_le _,rfl,rfl,rfl,HAL.out,rfl,HAT0.out,HOW0.out,HBX0.out,HB0.out,by show _≤_;simp⟩
    case round =>
      clear HAT0 HOW0 HBX0 HB0 hmk;obtain⟨k,q2,c2,B,O,hk,rfl,rfl,HF,HBL,HOL,HAT,HOW,HBX,HB,HZ⟩:=hrel;have hbx:wr.cell? ⟨WC.heap.size,0,none⟩=some (.slice (some ⟨g,0,none⟩) n cap):=(zaa HBX.out 0).trans rfl
      by_cases hlt:k<N
      · obtain⟨x,hx⟩:∃ x,l[k]?=some x:=⟨_,List.getElem?_eq_getElem (by rw[HN.out];exact hlt)⟩
        obtain⟨g1,o1,hq,hgg,hx1⟩:=(zwb HV.out HB.out).at k (by rw[HN.out];exact hlt)
        subst hq;rw[hx] at hx1;simp only[Option.getD_some] at hx1;have hts:l.take (k+1)=l.take k++[x]:=by rw[List.take_add_one,hx];rfl
        have HTS:Hid (zlG A (l.take (k+1))=zgb (some (B,O)) x):=by
          show _=_
          rw[hts,zla,HF.out]
        clear hx hts
        by_cases hx0:x<0
        · have d1:decide (x<0)=true:=decide_eq_true hx0
          have hno:zlG A l=none:=zkB (k:=k+1) (by
            rw[HTS.out];simp[zgb,hx0])
          have HNO:=Lib.hid hno;clear hno hx0
          go_wp2_with fail
          go_ret2
          exact⟨by rw[HNO.out];rfl,HB.out⟩
        · have d1:decide (x<0)=false:=decide_eq_false hx0
          obtain⟨j,hj⟩:∃ j:Nat,x=(j:Int):=⟨x.toNat,by omega⟩
          subst hj
          by_cases hjn:n≤j
          · have d2:decide ((n:Int)≤(j:Int))=true:=decide_eq_true (by omega)
            have d3:decide (n≤j)=true:=decide_eq_true hjn
            have hno:zlG A l=none:=zkB (k:=k+1) (by
              rw[HTS.out];simp[zgb,HBL.out];omega)
            have HNO:=Lib.hid hno;clear hno hjn
            go_wp2_with fail
            go_ret2
            exact⟨by rw[HNO.out];rfl,HB.out⟩
          · have hjl:j<n:=by omega
            have d2:decide ((n:Int)≤(j:Int))=false:=decide_eq_false (by omega)
            have d3:decide (n≤j)=false:=decide_eq_false hjn
            have hst:zlG A (l.take (k+1))=some (zoj B j,O++[B.getD j 0]):=by
              rw[HTS.out];simp[zgb,HBL.out];omega
            have HST:=Lib.hid hst;have CT:=Lib.hid (zkY wr g n cap j B HBL.out hjl hcap hcap2 (by have:=HZ.out;omega) HAT.out)
            obtain⟨y,hy⟩:∃ y,B.getD j 0=y:=⟨_,rfl⟩;rw[hy] at CT HST;have hyl:=UInt8.toNat_lt y;clear hst hy hjn HTS
            go_wp2_with fail
            refine CT.out.mono ?_;rintro e w2 ⟨rfl,hat2,ho2⟩;have HAT2:=Lib.hid hat2;have HO2:=Lib.hid ho2;have HOW2:Hid (OwnBytes (w2.alloc (.cells #[.int .u8 (y.toNat:Int)] 5)) (WC.heap.size+1) (.slice q2 k c2) O):=OwnBytes.alloc (zau HOW.out ho2 (by omega)) _
            have HZ2:Hid (WC.heap.size+1≤w2.heap.size):=Nat.le_trans HZ.out ho2.size;have HBX2:Hid (w2.heap[WC.heap.size]?=some (.cells #[.slice (some ⟨g,0,none⟩) n cap] 161 (0,0))):=ho2.other HBX.out (by omega)
            have HB2:Hid (Below w.heap.size w w2):=ho2.bel HB.out hwg (Nat.le_refl _);have hz2:=HZ2.out;have hwz2:=HB2.out.size;clear CT hat2 ho2 HAT HOW HBX HB HZ hbx
            go_wp2_with
              (at_builtin
               refine za9 rfl _ _ rfl (WC.heap.size+1) (.slice q2 k c2) O rfl HOW2.out w2.heap.size y.toNat hyl rfl (zae _ _ _ rfl) (by rw[HOL.out];omega) (by simp;omega) ?_
               intro q3 c3 w3 hown3 hg3 hat3;rw[HOL.out] at hown3 ⊢;rw[UInt8.ofNat_toNat] at hown3;have HOW3:=Lib.hid hown3;have hgw:g<(w2.alloc (.cells #[.int .u8 (y.toNat:Int)] 5)).heap.size:=by simp;omega
               have hne:∀ r,(Value.slice q2 k c2).ownBlock=some r→WC.heap.size+1≤r:=fun r e=>zcG HOW2.out e;have HAT3:Hid (BytesAt w3 g (zoj B j)):=(HAT2.out.blk (Below.heap_alloc _ _ g (by omega))).blk (hg3.block g hgw (fun e=>by have:=hne g e.symm;omega))
               have HBX3:Hid (w3.heap[WC.heap.size]?=some (.cells #[.slice (some ⟨g,0,none⟩) n cap] 161 (0,0))):=zwf hg3 (zah _ HBX2.out) (fun e=>by have:=hne _ e.symm;omega)
               have HB3:Hid (Below w.heap.size w w3):=zwm hg3 (HB2.out.alloc hwz2 _) (fun r e=>by have:=hne r e;omega)
               have HZ3:Hid (WC.heap.size+1≤w3.heap.size):=Nat.le_trans hz2 (Nat.le_trans (by simp) hg3.size)
               clear hown3 hg3 hat3 hgw hne)
            go_roundw
            case rel=>exact⟨k+1,_,_,zoj B j,O++[y],by omega,by go_num,rfl,HST.out,by show _=_;rw[zhN _ _ (by rw[HBL.out];exact hjl)];exact HBL.out,by show _=_;rw[List.length_append,HOL.out];rfl,HAT3,HOW3,HBX3,HB3,HZ3⟩
            case measure=>simp[intOf];omega
      · obtain rfl:k=N:=by omega
        have hF:zlG A l=some (B,O):=by
          have:=HF.out;rw[List.take_of_length_le (by rw[HN.out];exact Nat.le_refl _)] at this
          exact this
        have HFF:=Lib.hid hF;have how:=HOW.out
        have hcv:(convert 89 9 (.slice q2 k c2)).run Tryz.prog wr=.ok (.string ⟨O.toArray⟩) wr:=zbb O (by
          have h:=how;unfold OwnBytes at h;rw[HOL.out] at h;exact h)
        clear hF how
        go_wp2_with fail
        go_ret2
        exact⟨by rw[HFF.out];rfl,HB.out⟩
  · rw[decide_eq_false hnd] at CR
    have hF:zdp s.data.toList l=([],1):=by unfold zdp;rw[if_pos hnd]
    rw[hF];clear hv hN hnd hF hc1
    go_enter Tryz.func29,Tryz.ntmps29
    go_wp2_with fail
    refine CR.out.mono ?_;rintro e w1 ⟨rfl,hB1⟩
    go_wp2_with fail
    go_ret2
    exact⟨rfl,hB1⟩
def Holds (w:World) (b:Nat) (l:List Bool):Prop:=w.heap[b]?=some (.cells #[.string (txt l),.int .i64 (l.length:Nat)] 50 (0,0))
theorem zpw (w:World) (b:Nat) (l:List Bool) (m:List Bool) (h:Holds w b l) (hm:m.length=16) (hl:l.length≤1000) :
    Calls Tryz.prog 120 #[.int .u64 (B.num m:Nat),.pointer (some ⟨b,0,none⟩)] w fun e w'=>e=.returned (.tuple #[])∧Only b w w'∧Holds w' b (l++m):=by
  have C:Hid (∀ W,Calls Tryz.prog 19 #[.agg #[.string (txt l),.int .i64 (l.length:Nat)],.int .u64 (B.num m:Nat),.int .i64 16] W fun e w' =>
      e=.returned (.tuple #[.agg #[.string (txt (l++m)),.int .i64 ((l++m).length:Nat)],.int .i64 0])∧Below W.heap.size W w'):=fun W =>
    ziT W l (B.num m) 16 (l++m) (by rw[zvZ m hm]) (by omega) (by have:=znH m hm;omega) (by omega)
  have H:=Lib.hid h;have c0:=(zaa h 0).trans rfl;have c1:=(zaa h 1).trans rfl;generalize hx:B.num m=x at *
  have Hx:=Lib.hid hx;generalize hr:l++m=r at *
  clear h hx hr
  go_enter Tryz.func120,Tryz.ntmps120
  go_wp2_with fail
  refine (C.out _).mono ?_;rintro e w1 ⟨rfl,hB⟩;have H1:Holds w1 b l:=zwc hB H.out;have f0:=zac H1 0;have f1:=zac H1 1;have d0:=(zaa H1 0).trans rfl;have d1:=(zaa H1 1).trans rfl;have hlt:=zab H1
  go_wp2_with fail
  go_end0
  refine⟨rfl,((Only.of hB).set _ _).set _ _,?_⟩;exact zwg H1 _ _
theorem zq8 (l:List UInt8) (k:Nat):((B.num (zeS l k):Int) != 0)=zbg l k:=by
  have h:=zdL (zeS l k);unfold zbg;cases hb:(zeS l k).any id with
  | false =>
    have:=h.2 hb;rw[this];rfl
  | true =>
    have:B.num (zeS l k)≠0:=fun e=>by rw[h.1 e] at hb;cases hb
    simp only[bne_iff_ne];omega
theorem zs3 (l:List UInt8) (k:Nat):B.num (zcg l (k+1))=2*B.num (zcg l k)+(zbg l k).toNat:=by rw[zor,B.num_snoc]
theorem zmT (l:List UInt8) (k:Nat) (hk:k≤16):B.num (zcg l k)<131072:=by
  have:=B.num_lt (zcg l k);rw[zbB] at this;exact Nat.lt_of_lt_of_le this (Nat.le_trans (Nat.pow_le_pow_right (by omega) hk) (by decide))
theorem zf0 (l:List UInt8) (n:Nat) (hn:n≤16):(za0 l n).length≤256:=by
  rw[zcQ];have:=zhl (zbg l) n;omega
theorem zut (w:World) (s:ByteArray) (hs:s.size≤1000000) :
    Calls Tryz.prog 60 #[.string s] w fun e w'=>e=.returned (.agg #[.string (txt (zgC s.data.toList)),.int .i64 ((zgC s.data.toList).length:Nat)])∧Below w.heap.size w w':=by
  have C:Hid (∀ W,Calls Tryz.prog 95 #[.string s] W fun e w'=>e=.returned (.agg (zfw s.data.toList))∧Below W.heap.size W w'):=fun W=>ztI s W hs;generalize s.data.toList=l at *
  have CR:Hid (∀ (k:Nat) W,k<16→Calls Tryz.prog 121 #[.agg (zfw l),.int .i64 (k:Nat)] W fun e w'=>e=.returned (.int .u64 (B.num (zeS l k):Nat))∧Below W.heap.size W w'):=fun k W hk=>zt7 W l k hk;obtain⟨S,hS⟩:∃ S,zfw l=S:=⟨_,rfl⟩;rw[hS] at C CR;have hSs:S.size=256:=by rw[←hS];exact zcp _
  have hS1:S.all (·.oneCell')=true:=by rw[←hS];exact znr _
  have hi:(Tryz.prog.info? 166).map (·.size)=some S.size:=by rw[hSs];exact zjR
  have Hi:=Lib.hid hi;have HS1:=Lib.hid hS1;have HSs:=Lib.hid hSs;have hz:=zns;obtain⟨Z,hZ⟩:∃ Z,zfw []=Z:=⟨_,rfl⟩;rw[hZ] at hz;have hZs:Z.size=S.size:=by rw[←hZ,hSs];exact zcp _
  have HZs:=Lib.hid hZs;clear hS hSs hi hS1 hZ hZs
  go_enter Tryz.func60,Tryz.ntmps60
  go_wp2_with fail
  refine (C.out _).mono ?_;rintro e w1 ⟨rfl,hB1⟩;have E1:=Lib.hid (((Env.nil w).box #[.string ⟨#[]⟩,.int .i64 0] 50 w.heap.size rfl).step hB1);clear hB1 C
  go_wp2_with
    (refine zaT rfl 166 _ _ rfl w1.heap.size S Z _ rfl rfl (zae _ _ _ rfl) HZs.out Hi.out HS1.out ?_
     intro w2 hg2 hs2 hk2 hb2;have E2:=Lib.hid (E1.out.fresh (hb2 _ _ (Nat.le_refl _) ((Below.refl _ _).alloc (Nat.le_refl _) _)) hg2);clear hg2 hs2 hk2 hb2)
  have hbb:w1.heap.size≠w.heap.size:=by have:=E1.out.lt 0 rfl;omega
  go_loopw [5,12] (fun av iv wr=>∃ k:Nat,k≤16∧iv=.int .i64 k∧av=.int .u64 (B.num (zcg l k):Nat)∧Env w wr [] [(w1.heap.size,S,166),(w.heap.size,#[.string ⟨#[]⟩,.int .i64 0],50)]) (fun _ iv _=>16-(intOf iv).toNat)
  case atStart=>exact⟨0,Nat.zero_le _,rfl,rfl,E2.out⟩
  case round =>
    obtain⟨k,hk,rfl,rfl,hE⟩:=hrel;have HE:=Lib.hid hE;clear hE E1 E2
    by_cases hlt:k<16
    · have hn2:=zmT l k hk
      have hnr:=zq8 l k;have hnum:=zs3 l k;have C1:=Lib.hid (CR.out k wr hlt);obtain⟨x,hx⟩:∃ x,B.num (zcg l k)=x:=⟨_,rfl⟩;obtain⟨b,hbe⟩:∃ b,zbg l k=b:=⟨_,rfl⟩;obtain⟨r,hre⟩:∃ r,B.num (zeS l k)=r:=⟨_,rfl⟩;rw[hx] at hn2 hnum ⊢;rw[hre] at hnr C1;rw[hbe] at hnum hnr;have hs:IntKind.u64.wrap ((x:Int)*2)=(x:Int)*2:=by rw[IntKind.wrap_u64];omega
      have Hor:=Lib.hid (ztL x (by omega))
      have Hnum:=Lib.hid hnum;clear hnum hx hbe hre;cases b with
      | true =>
        go_wp2_with
          (first
            | (refine wpList_load_row rfl 166 _ rfl w1.heap.size rfl _ S _ _ (HE.out.blk 0 rfl) Tryz.underlying166 rfl Hi.out ?_)
            | (go_at_call 121
               refine C1.out.mono ?_;rintro e w3 ⟨rfl,hB3⟩;have E3:=Lib.hid (HE.out.step hB3);clear hB3))
        go_roundw
        case rel=>exact⟨k+1,by omega,by go_num,by rw[Hnum.out,Hor.out];rfl,E3.out⟩
        case measure=>simp[intOf];omega
      | false =>
        go_wp2_with
          (first
            | (refine wpList_load_row rfl 166 _ rfl w1.heap.size rfl _ S _ _ (HE.out.blk 0 rfl) Tryz.underlying166 rfl Hi.out ?_)
            | (go_at_call 121
               refine C1.out.mono ?_;rintro e w3 ⟨rfl,hB3⟩;have E3:=Lib.hid (HE.out.step hB3);clear hB3))
        go_roundw
        case rel=>exact⟨k+1,by omega,by go_num,by rw[Hnum.out,Int.mul_comm];simp,E3.out⟩
        case measure=>simp[intOf];omega
    · obtain rfl:k=16:=by omega
      go_wp2_with fail
      refine (zpw _ w.heap.size [] (zcg l 16) (HE.out.blk 1 rfl) (zbB _ _) (by simp)).mono ?_
      rintro e w3 ⟨rfl,hO,hH⟩
      have E3:Env w w3 [] [(w1.heap.size,S,166),(w.heap.size,#[.string (txt (zcg l 16++za0 l 0)),.int .i64 ((zcg l 16++za0 l 0).length:Nat)],50)]:=by
        refine⟨⟨hO.bel HE.out.bel (Nat.le_refl _) (Nat.le_refl _),fun p hp=>by simp at hp⟩,fun p hp=>?_⟩
        rcases List.mem_cons.1 hp with rfl | hp
        · exact hO.other (HE.out.blk 0 rfl) hbb
        · rcases List.mem_cons.1 hp with rfl | hp
          · simpa [za0,Holds] using hH
          · simp at hp
      have E3:=Lib.hid E3;clear hO hH
      go_wp2_with fail
      clear HE;obtain⟨wo,rfl⟩:∃ wo:World,wo=wr:=⟨_,rfl⟩
      go_loopw [27] (fun iv wr=>∃ k:Nat,k≤16∧iv=.int .i64 k∧Env w wr [] [(w1.heap.size,S,166),(w.heap.size,#[.string (txt (zcg l 16++za0 l k)),.int .i64 ((zcg l 16++za0 l k).length:Nat)],50)]) (fun iv _=>16-(intOf iv).toNat)
      case atStart=>exact⟨0,Nat.zero_le _,rfl,E3.out⟩
      case round =>
        obtain⟨k,hk,rfl,hE⟩:=hrel;have HE:=Lib.hid hE;clear hE E3
        by_cases hlt:k<16
        · have hnr:=zq8 l k
          have C1:=Lib.hid (CR.out k wr hlt);have hml:=zf0 l k hk;have hmr:za0 l (k+1)=za0 l k++if zbg l k then zeS l k else []:=rfl
          have HMR:=Lib.hid hmr;clear hmr;obtain⟨r,hre⟩:∃ r,B.num (zeS l k)=r:=⟨_,rfl⟩;have HR:=Lib.hid hre;rw[hre] at hnr C1;clear hre;cases hb:zbg l k with
          | true =>
            rw[hb] at hnr;have Hb:=Lib.hid hb;clear hb;have hW:=HE.out.blk 1 rfl
            go_wp2_with
              (first
                | (refine wpList_load_row rfl 166 _ rfl w1.heap.size rfl _ S _ _ (HE.out.blk 0 rfl) Tryz.underlying166 rfl Hi.out ?_)
                | (go_at_call 121
                   refine C1.out.mono ?_;rintro e w4 ⟨rfl,hB4⟩;have E4:=Lib.hid (HE.out.step hB4);have C2:=zpw w4 w.heap.size (zcg l 16++za0 l k) (zeS l k) (E4.out.blk 1 rfl) (zbx _ _) (by rw[List.length_append,zbB];omega)
                   rw[HR.out] at C2;have C2:=Lib.hid C2;clear hB4)
                | (go_at_call 120
                   refine C2.out.mono ?_;rintro e w5 ⟨rfl,hO,hH⟩
                   have E5:Env w w5 [] [(w1.heap.size,S,166),(w.heap.size,#[.string (txt (zcg l 16++za0 l (k+1))),.int .i64 ((zcg l 16++za0 l (k+1)).length:Nat)],50)]:=by
                     refine⟨⟨hO.bel E4.out.bel (Nat.le_refl _) (Nat.le_refl _),fun p hp=>by simp at hp⟩,fun p hp=>?_⟩
                     rcases List.mem_cons.1 hp with rfl | hp
                     · exact hO.other (E4.out.blk 0 rfl) hbb
                     · rcases List.mem_cons.1 hp with rfl | hp
                       · rw[HMR.out,Hb.out,if_pos rfl,←List.append_assoc]
                         exact hH
                       · simp at hp
                   have E5:=Lib.hid E5;clear hO hH))
            go_roundw
            case rel=>exact⟨k+1,by omega,by go_num,E5.out⟩
            case measure=>simp[intOf];omega
          | false =>
            rw[hb] at hnr;have Hb:=Lib.hid hb;clear hb
            go_wp2_with
              (first
                | (refine wpList_load_row rfl 166 _ rfl w1.heap.size rfl _ S _ _ (HE.out.blk 0 rfl) Tryz.underlying166 rfl Hi.out ?_)
                | (go_at_call 121
                   refine C1.out.mono ?_;rintro e w4 ⟨rfl,hB4⟩;have E4:=Lib.hid (HE.out.step hB4);clear hB4))
            go_roundw
            case rel=>exact⟨k+1,by omega,by go_num,by rw[HMR.out,Hb.out,if_neg (by simp),List.append_nil];exact E4.out⟩
            case measure=>simp[intOf];omega
        · obtain rfl:k=16:=by omega
          have hE:=HE.out;obtain⟨M,hM⟩:∃ M,zcg l 16++za0 l 16=M:=⟨_,rfl⟩;rw[hM] at hE;have HM:=Lib.hid (show zgC l=M from hM)
          have HE:=Lib.hid hE;clear hM hE;have k0:=HE.out.cellv 1 rfl 0 _ rfl;have k1:=HE.out.cellv 1 rfl 1 _ rfl;have f0:=HE.out.frozen 1 rfl 0;have f1:=HE.out.frozen 1 rfl 1;have xl:=HE.out.lt 1 rfl
          go_wp2_with fail
          rw[HM.out];refine bodyPost_ret (results_cell_row rfl _ _ w.heap.size 50 #[.string (txt M),.int .i64 (M.length:Nat)] (0,0) _ rfl (zwg (HE.out.blk 1 rfl) _ _) Tryz.underlying50 rfl (by kernel_rfl)) rfl ⟨rfl,?_⟩
          exact (HE.out.bel.setCell (p:=⟨w.heap.size,0,none⟩) (Nat.le_refl _) _).setCell (p:=⟨w.heap.size,1,none⟩) (Nat.le_refl _) _
end Go.Proofs.YtoejfkeofbdalaaGreatDoor
