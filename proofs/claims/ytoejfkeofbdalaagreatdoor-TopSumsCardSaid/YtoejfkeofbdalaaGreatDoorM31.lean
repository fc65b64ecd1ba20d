import Derived.Test.YtoejfkeofbdalaaGreatDoorM26
import Derived.Test.YtoejfkeofbdalaaGreatDoorM29
import Derived.Test.YtoejfkeofbdalaaGreatDoorM24
import Derived.Shelf.Bytes.IndexByte
set_option linter.unusedVariables false
set_option maxRecDepth 100000
set_option maxHeartbeats 8000000
namespace Go.Proofs.YtoejfkeofbdalaaGreatDoor
open Go.RowKit
def u8I (A:List UInt8):List Int:=A.map fun b=>(b.toNat:Int)
theorem zmN (A:List UInt8):Lib.bytesOf (u8I A)=A:=by
  unfold Lib.bytesOf u8I;rw[List.map_map]
  conv=>rhs;rw[←List.map_id A]
  exact List.map_congr_left fun b _=>by simp
theorem zow (w:World) (g n cap:Nat) (A:List UInt8) (c:UInt8) (hA:A.length=n) (hE:BytesAt w g A) :
    Calls Tryz.prog 261 #[.slice (some ⟨g,0,none⟩) n cap,.int .u8 (c.toNat:Int)] w fun e w'=>e=.returned (.int .i64 (Lib.indexByte A c))∧w=w':=by
  have hc:∀ i,i<n→w.cell? ⟨g,0+i,none⟩=some (.int .u8 ((u8I A).getD i 0)):=fun i hi=>by
    rw[Nat.zero_add,(hE i _ (List.getElem?_eq_getElem (by omega))).1]
    simp[u8I,List.getD_eq_getElem?_getD,List.getElem?_eq_getElem (show i<A.length by omega)]
  have hl:(u8I A).length=n:=by simp[u8I,hA]
  have hrun:=Lib.run_indexByteSlice (P:=Tryz.prog) w g 0 n cap (u8I A) hl hc (c.toNat:Int);rw[zmN] at hrun;have hcc:((c.toNat:Int).toNat.toUInt8)=c:=by simp
  rw[hcc] at hrun;have HR:=Lib.hid hrun;clear hrun hc hl hcc
  go_enter Tryz.func261,Tryz.ntmps261
  go_wp2
  rw[run_callFunc_extern Tryz.func291 (by kernel_rfl) (by kernel_rfl) (by kernel_rfl) (e:=Extern.BytealgIndexByte.indexByte) (by kernel_rfl),HR.out]
  simp only[Result.andThen];rw[Oper.upon_value]
  go_wp2
  go_ret
  exact⟨rfl,rfl⟩
theorem zkT (A:List UInt8) (c:UInt8):Lib.indexByte A c=if c∈A then ((A.idxOf c:Nat):Int) else -1:=by
  induction A with
  | nil=>rfl
  | cons b A ih =>
    unfold Lib.indexByte
    by_cases h:b=c
    · subst h;simp
    · have h1:(b == c)=false:=by rw[beq_eq_false_iff_ne];exact h
      rw[h1,if_neg (by simp),ih,List.idxOf_cons,h1]
      by_cases hc:c∈A
      · rw[if_pos hc,if_neg (by simp),if_pos (List.mem_cons_of_mem _ hc)]
        simp
      · rw[if_neg hc,if_pos (by simp),if_neg (by
          intro hm;rcases List.mem_cons.1 hm with e | e
          · exact h e.symm
          · exact hc e)]
theorem zuM (w:World) (b g n cap base k:Nat) (A:List UInt8) (c:UInt8) (vp:Value) (ps:List Int) (hA:A.length=n) (hcm:c∈A) (hk:A.idxOf c=k) (hcap:n≤cap) (hcap2:cap≤9223372036854775807) (hE:BytesAt w g A)
    (hb:w.heap[b]?=some (.cells #[.slice (some ⟨g,0,none⟩) n cap,vp] 278 (0,0))) (hgb:g<b) (hbb:b<base) (hbs:base≤w.heap.size) (ho:OwnInts w base vp ps) (hp:ps.length≤1000000) :
    Calls Tryz.prog 226 #[.pointer (some ⟨b,0,none⟩),.int .u8 (c.toNat:Int)] w fun e w'=>e=.returned (.bool true)∧BytesAt w' g (zoj A k) ∧
      (∃ q c2,w'.heap[b]?=some (.cells #[.slice (some ⟨g,0,none⟩) n cap,.slice q (ps.length+1) c2] 278 (0,0))∧OwnInts w' base (.slice q (ps.length+1) c2) (ps++[(k:Int)]))∧Below g w w':=by
  have hkn:k<n:=by rw[←hk,←hA];exact List.idxOf_lt_length_iff.2 hcm
  have CI:=Lib.hid (zow w g n cap A c hA hE);rw[zkT,if_pos hcm,hk] at CI;have d1:decide ((k:Int)<0)=false:=decide_eq_false (by omega)
  have hb0:w.cell? ⟨b,0,none⟩=some (.slice (some ⟨g,0,none⟩) n cap):=(zaa hb 0).trans rfl;have hb1:w.cell? ⟨b,1,none⟩=some vp:=(zaa hb 1).trans rfl;obtain⟨q0,c0,rfl⟩:=ho.shape;have HA:=Lib.hid hA;have HE:=Lib.hid hE;have HB:=Lib.hid hb;have HO:=Lib.hid ho;obtain⟨N,hN⟩:∃ N,ps.length=N:=⟨_,rfl⟩;rw[hN] at HO hb1 HB hp ⊢;have HN:=Lib.hid hN;clear hA hE hb ho hk hcm hN
  go_enter Tryz.func226,Tryz.ntmps226
  go_wp2_with fail
  refine CI.out.mono ?_;rintro e w_ ⟨rfl,rfl⟩
  go_wp2_with
    (at_builtin
     refine zar rfl _ _ rfl base (.slice q0 N c0) ps rfl (HO.out.alloc _) (w.heap.size+1) _ [(k:Int)] rfl (IsInts.new w [(k:Int)] _ _ _ rfl rfl rfl (by simp[maxLen])) (by rw[HN.out];simp;omega) (by simp;omega) ?_
     intro q' c' w1 hown1 hg1 hat1;rw[show ps.length + [(k:Int)].length=N+1 by rw[HN.out];rfl] at hown1 ⊢
     have Hown1:=Lib.hid hown1;have hne:∀ r,(Value.slice q0 N c0).ownBlock=some r→base≤r:=fun r e=>zaF HO.out e;have hblt:=zab HB.out;have HB1:Hid (w1.heap[b]?=some (.cells #[.slice (some ⟨g,0,none⟩) n cap,.slice q0 N c0] 278 (0,0))):=zwf hg1 (zah _ HB.out) (fun e=>by have:=hne _ e.symm;omega)
     have HE1:Hid (BytesAt w1 g A):=(HE.out.blk (Below.heap_alloc _ _ g (by omega))).blk (hg1.block g (by simp;omega) (fun e=>by have:=hne g e.symm;omega))
     have HL1:Hid (Below g w w1):=((Below.refl g w).alloc (by omega) _).grown hg1 (by simp;omega) (fun r e=>by have:=hne r e;omega)
     have hz1:w.heap.size≤w1.heap.size:=Nat.le_trans (by simp) hg1.size
     have hc0:w1.cell? ⟨b,0,none⟩=some (.slice (some ⟨g,0,none⟩) n cap):=(zaa HB1.out 0).trans rfl;have hc1:w1.cell? ⟨b,1,none⟩=some (.slice q0 N c0):=(zaa HB1.out 1).trans rfl;have hf1:=zac HB1.out 1;clear hown1 hg1 hat1 hne)
  have CT:=Lib.hid (zkY ((w1.setCell ⟨b,1,none⟩ (.slice q' (N+1) c'))) g n cap k A HA.out hkn hcap hcap2 (by rw[World.size_setCell];omega) (HE1.out.blk (Below.heap_setCell _ _ _ _ (by show g≠b;omega))))
  have hbs1:(w1.setCell ⟨b,1,none⟩ (.slice q' (N+1) c')).heap[b]?=some (.cells #[.slice (some ⟨g,0,none⟩) n cap,.slice q' (N+1) c'] 278 (0,0)):=(zaf HB1.out 1 _).trans rfl;have HBS:=Lib.hid hbs1;have HOS:Hid (OwnInts (w1.setCell ⟨b,1,none⟩ (.slice q' (N+1) c')) base (.slice q' (N+1) c') (ps++[(k:Int)])):=zau Hown1.out ((Only.refl b w1).set 1 _) hbb;have HLS:Hid (Below g w (w1.setCell ⟨b,1,none⟩ (.slice q' (N+1) c'))):=HL1.out.setCell (p:=⟨b,1,none⟩) (by show g≤b;omega) _
  have hbs0:(w1.setCell ⟨b,1,none⟩ (.slice q' (N+1) c')).cell? ⟨b,0,none⟩=some (.slice (some ⟨g,0,none⟩) n cap):=(zaa hbs1 0).trans rfl;clear hbs1
  go_wp2_with fail
  refine CT.out.mono ?_;rintro e w3 ⟨rfl,hat3,ho3⟩
  go_wp2_with fail
  go_ret
  exact⟨rfl,hat3,⟨_,_,ho3.other HBS.out (by omega),zau HOS.out ho3 (by omega)⟩,ho3.bel HLS.out (Nat.le_refl _) (by omega)⟩
def ziW (p:List UInt8 × List Nat) (c:UInt8):List UInt8 × List Nat:=(zoj p.1 (p.1.idxOf c),p.2++[p.1.idxOf c])
def zec (A T:List UInt8):List UInt8 × List Nat:=T.foldl ziW (A,[])
theorem zfq (A T:List UInt8) (c:UInt8):zec A (T++[c])=ziW (zec A T) c:=by simp[zec]
theorem zsN (A:List UInt8) (k:Nat) (h:k<A.length) (c:UInt8):c∈zoj A k↔c∈A:=by
  have hg:A.getD k 0=A[k]:=by rw[List.getD_eq_getElem?_getD,List.getElem?_eq_getElem h];rfl
  unfold zoj;rw[hg]
  conv=>rhs;rw[←List.take_append_drop k A,List.drop_eq_getElem_cons h]
  simp only[List.mem_cons,List.mem_append]
  constructor
  · rintro (h | h | h)
    · exact .inr (.inl h)
    · exact .inl h
    · exact .inr (.inr h)
  · rintro (h | h | h)
    · exact .inr (.inl h)
    · exact .inl h
    · exact .inr (.inr h)
theorem zfA (A:List UInt8) (T:List UInt8) (hT:∀ c∈T,c∈A):(zec A T).1.length=A.length∧(∀ c,c∈(zec A T).1↔c∈A)∧(zec A T).2.length=T.length:=by
  have h:∀ k,k≤T.length→(zec A (T.take k)).1.length=A.length∧(∀ c,c∈(zec A (T.take k)).1↔c∈A)∧(zec A (T.take k)).2.length=k:=by
    intro k
    induction k with
    | zero=>intro _;exact⟨rfl,fun _=>Iff.rfl,rfl⟩
    | succ k ih =>
      intro hk;obtain⟨h1,h2,h3⟩:=ih (by omega)
      have hs:T.take (k+1)=T.take k++[T[k]]:=List.take_succ_eq_append_getElem (by omega)
      rw[hs,zfq];have hm:T[k]∈(zec A (T.take k)).1:=(h2 _).2 (hT _ (List.getElem_mem _));have hl:=List.idxOf_lt_length_iff.2 hm;unfold ziW;refine⟨by rw[zhN _ _ hl];exact h1,fun c=>(zsN _ _ hl c).trans (h2 c),by simp[h3]⟩
  have:=h T.length (Nat.le_refl _)
  rwa [List.take_length] at this
theorem zme (k:Nat) (w:World) (a b:Value) (h:w.heap[k]?=some (.cells #[a,b] 278 (0,0))):(loadVar 278 ⟨k,0,none⟩).run Tryz.prog w=.ok (.agg #[a,b]) w:=by
  have c0:=(zaa h 0).trans rfl;have c1:=(zaa h 1).trans rfl
  go_simp
theorem zuC (s t:ByteArray) (w:World) (h0:0<s.size) (hs:s.size≤1000000) (ht:t.size≤1000000) (hnd:s.data.toList.Nodup) (hm:∀ c∈t.data.toList,c∈s.data.toList) :
    Calls Tryz.prog 166 #[.string s,.string t] w fun e w'=>∃ (g cap:Nat) (q:Option Addr) (c:Nat),e=.returned (.tuple #[.agg #[.slice (some ⟨g,0,none⟩) s.size cap,.slice q t.size c],.int .i64 0])∧IsInts w' w'.heap.size (.slice q t.size c) (ints (zec s.data.toList t.data.toList).2)∧Below w.heap.size w w':=by
  have CR:=Lib.hid fun W=>ziP s W hs;rw[decide_eq_true hnd] at CR;obtain⟨WC,cap,hcv,hcap,hcap2,hat,hsz,hB2⟩:=ziw (w.alloc (.cells #[.slice none 0 0,.slice none 0 0] 278)) s hs;have hkeep:=fun k (hk:k≤t.data.toList.length)=>zfA s.data.toList (t.data.toList.take k) (fun c hc=>hm c (List.mem_of_mem_take hc));have HK:=Lib.hid hkeep;have HM:=Lib.hid hm;obtain⟨n,hn⟩:∃ n,s.size=n:=⟨_,rfl⟩;have hAl:s.data.toList.length=n:=by rw[←hn];simp
  obtain⟨A,hA⟩:∃ A,s.data.toList=A:=⟨_,rfl⟩;rw[hA] at HK HM hat hAl ⊢;have HAT:=Lib.hid hat;have HAL:=Lib.hid hAl;have hwz:w.heap.size+1<WC.heap.size:=by rw[hsz];simp
  have hB3:Below w.heap.size w WC:=((Below.refl _ w).alloc (Nat.le_refl _) _).trans (hB2.mono (by simp))
  have HBC:=Lib.hid hB3;have hrb:WC.heap[w.heap.size]?=some (.cells #[.slice none 0 0,.slice none 0 0] 278 (0,0)):=zwc hB2 (zae _ _ _ rfl);have HRB:=Lib.hid hrb;have HCV:=Lib.hid hcv;rw[hn] at h0 hs hcap HCV ⊢;have HNN:=Lib.hid hn;clear hnd hm hkeep hat hAl hA hsz hB2 hB3 hrb hcv hn
  go_enter Tryz.func166,Tryz.ntmps166
  go_wp2_with fail
  rw[HCV.out]
  go_wp2_with fail
  have CR1:=Lib.hid (CR.out (WC.alloc (.cells #[.slice (some ⟨w.heap.size+1,0,none⟩) n cap,.slice none 0 0] 278)));refine CR1.out.mono ?_;rintro e w2 ⟨rfl,hB2⟩;have hb2:w2.heap[WC.heap.size]?=some (.cells #[.slice (some ⟨w.heap.size+1,0,none⟩) n cap,.slice none 0 0] 278 (0,0)):=zwc hB2 (zae _ _ _ rfl);have hr2:w2.heap[w.heap.size]?=some (.cells #[.slice none 0 0,.slice none 0 0] 278 (0,0)):=zwc hB2 (zah _ HRB.out)
  have hat2:BytesAt w2 (w.heap.size+1) A:=by
    have h1:=HAT.out;rw[World.size_alloc] at h1;exact (h1.blk (Below.heap_alloc _ _ _ (by omega))).blk (hB2.block _ (by rw[World.size_alloc];omega))
  have hwz2:=HBC.out.size;have hB3:Below w.heap.size w w2:=(HBC.out.alloc hwz2 _).trans (hB2.mono (by rw[World.size_alloc];omega))
  have hz2:WC.heap.size+1≤w2.heap.size:=by have:=hB2.size;rw[World.size_alloc] at this;omega
  have HB2:=Lib.hid hb2;have HR2:=Lib.hid hr2;have HAT2:=Lib.hid hat2;have HB3:=Lib.hid hB3;have HZ2:=Lib.hid hz2;clear hb2 hr2 hat2 hB3 hz2 hB2 CR1 CR HAT HBC HRB HCV
  go_wp2_with fail
  go_loopw [18] (fun iv wr=>∃ (k:Nat) (vp:Value),k≤t.size∧iv=.int .i64 k∧Hid (BytesAt wr (w.heap.size+1) (zec A (t.data.toList.take k)).1)∧Hid (wr.heap[WC.heap.size]?=some (.cells #[.slice (some ⟨w.heap.size+1,0,none⟩) n cap,vp] 278 (0,0)))∧Hid (OwnInts wr (WC.heap.size+1) vp (ints (zec A (t.data.toList.take k)).2))∧Hid (wr.heap[w.heap.size]?=some (.cells #[.slice none 0 0,.slice none 0 0] 278 (0,0)))∧Hid (Below w.heap.size w wr)∧Hid (WC.heap.size+1≤wr.heap.size)) (fun iv _=>t.size+1-(intOf iv).toNat)
  case atStart=>exact⟨0,_,Nat.zero_le _,rfl,HAT2.out,HB2.out,OwnInts.nil _ _,HR2.out,HB3.out,HZ2.out⟩
  case round =>
    clear HAT2 HB2 HR2 HB3 HZ2;obtain⟨k,vp,hk,rfl,HAT,HBX,HO,HR,HB,HZ⟩:=hrel;have hkl:t.data.toList.length=t.size:=by simp
    by_cases hlt:k<t.size
    · obtain⟨hk1,hk2,hk3⟩:=HK.out k (by omega)
      have hts:t.data.toList.take (k+1)=t.data.toList.take k++[t[k]]:=List.take_succ_eq_append_getElem (by omega)
      have hcm:t[k]∈(zec A (t.data.toList.take k)).1:=(hk2 _).2 (HM.out _ (by
        have:t[k]=t.data.toList[k]:=rfl;rw[this];exact List.getElem_mem _))
      have HST:Hid (zec A (t.data.toList.take (k+1))=ziW (zec A (t.data.toList.take k)) t[k]):=by show _=_;rw[hts,zfq]
      have hpl:(ints (zec A (t.data.toList.take k)).2).length=k:=by rw[zad,hk3,List.length_take];omega
      obtain⟨p,hp⟩:∃ p,zec A (t.data.toList.take k)=p:=⟨_,rfl⟩;rw[hp] at HAT HO hk1 hcm HST hpl;have CT:=zuM wr WC.heap.size (w.heap.size+1) n cap (WC.heap.size+1) (p.1.idxOf t[k]) p.1 t[k] vp (ints p.2) (by rw[hk1,HAL.out]) hcm rfl hcap hcap2 HAT.out HBX.out hwz (by omega) HZ.out HO.out (by omega)
      rw[hpl] at CT;have HCT:=Lib.hid CT;obtain⟨b,hb⟩:∃ b,t[k]=b:=⟨_,rfl⟩;rw[hb] at HCT HST;clear hk1 hk2 hk3 hts hcm hpl hp CT hkl
      go_wp2_with fail
      refine HCT.out.mono ?_;rintro e w3 ⟨rfl,hat3,⟨q3,c3,hb3,ho3⟩,hB3⟩;have HAT3:Hid (BytesAt w3 (w.heap.size+1) (zec A (t.data.toList.take (k+1))).1):=by rw[HST.out];exact hat3
      have HO3:Hid (OwnInts w3 (WC.heap.size+1) (.slice q3 (k+1) c3) (ints (zec A (t.data.toList.take (k+1))).2)):=by
        rw[HST.out]
        show OwnInts _ _ _ (ints (p.2++[p.1.idxOf b]))
        rw[show ints (p.2++[p.1.idxOf b])=ints p.2++[((p.1.idxOf b:Nat):Int)] by simp[ints]]
        exact ho3
      have HR3:Hid (w3.heap[w.heap.size]?=some (.cells #[.slice none 0 0,.slice none 0 0] 278 (0,0))):=(hB3.block _ (by omega)).trans HR.out
      have HBX3:=Lib.hid hb3;have HB3:Hid (Below w.heap.size w w3):=HB.out.trans (hB3.mono (by omega))
      have HZ3:Hid (WC.heap.size+1≤w3.heap.size):=Nat.le_trans HZ.out hB3.size;clear hat3 hb3 ho3 hB3 HCT HAT HO HR HBX HB HZ hb
      go_wp2_with fail
      go_roundw
      case rel=>exact⟨k+1,_,by omega,by go_num,HAT3,HBX3,HO3,HR3,HB3,HZ3⟩
      case measure=>simp[intOf];omega
    · obtain rfl:k=t.size:=by omega
      have hall:t.data.toList.take t.size=t.data.toList:=List.take_of_length_le (by omega)
      obtain⟨-,-,hk3⟩:=HK.out t.size (by omega)
      rw[hall] at HO hk3;obtain⟨q3,c3,hve⟩:=HO.out.shape;rw[zad,hk3,hkl] at hve;subst hve;have kb0:wr.cell? ⟨WC.heap.size,0,none⟩=some (.slice (some ⟨w.heap.size+1,0,none⟩) n cap):=(zaa HBX.out 0).trans rfl;have kb1:wr.cell? ⟨WC.heap.size,1,none⟩=some (.slice q3 t.size c3):=(zaa HBX.out 1).trans rfl;have kr0:wr.cell? ⟨w.heap.size,0,none⟩=some (.slice none 0 0):=(zaa HR.out 0).trans rfl;have kr1:wr.cell? ⟨w.heap.size,1,none⟩=some (.slice none 0 0):=(zaa HR.out 1).trans rfl;have fr0:=zac HR.out 0;have fr1:=zac HR.out 1;have hrs:=zab HR.out;have hres:=Lib.hid (zwg HR.out (.slice (some ⟨w.heap.size+1,0,none⟩) n cap) (.slice q3 t.size c3));have hBr:Hid (Below w.heap.size w ((wr.setCell ⟨w.heap.size,0,none⟩ (.slice (some ⟨w.heap.size+1,0,none⟩) n cap)).setCell ⟨w.heap.size,1,none⟩ (.slice q3 t.size c3))):=(HB.out.setCell (p:=⟨w.heap.size,0,none⟩) (Nat.le_refl _) _).setCell (p:=⟨w.heap.size,1,none⟩) (Nat.le_refl _) _
      have hIr:Hid (IsInts ((wr.setCell ⟨w.heap.size,0,none⟩ (.slice (some ⟨w.heap.size+1,0,none⟩) n cap)).setCell ⟨w.heap.size,1,none⟩ (.slice q3 t.size c3)) ((wr.setCell ⟨w.heap.size,0,none⟩ (.slice (some ⟨w.heap.size+1,0,none⟩) n cap)).setCell ⟨w.heap.size,1,none⟩ (.slice q3 t.size c3)).heap.size (.slice q3 t.size c3) (ints (zec A t.data.toList).2)) :=
        OwnInts.is (base:=WC.heap.size+1) (zau HO.out (((Only.refl w.heap.size wr).set 0 _).set 1 _) (by omega))
      clear hall hk3 hkl
      go_wp2_with fail
      refine bodyPost_ret (zaP rfl _ _ _ ⟨w.heap.size,0,none⟩ _ rfl (zme _ _ _ _ hres.out)) rfl ?_;exact⟨_,_,_,_,rfl,hIr.out,hBr.out⟩
theorem ztq (s t:ByteArray) (w:World) (h0:0<s.size) (hs:s.size≤1000000) (ht:t.size≤1000000) (hnd:s.data.toList.Nodup) (hm:∀ c∈t.data.toList,c∈s.data.toList) :
    Calls Tryz.prog 115 #[.string s,.string t] w fun e w'=>∃ (q:Option Addr) (c:Nat),e=.returned (.tuple #[.slice q t.size c,.int .i64 0])∧IsInts w' w'.heap.size (.slice q t.size c) (ints (zec s.data.toList t.data.toList).2)∧Below w.heap.size w w':=by
  have CT:=Lib.hid (zuC s t w h0 hs ht hnd hm);generalize ints (zec s.data.toList t.data.toList).2=R at *
  go_enter Tryz.func115,Tryz.ntmps115
  go_wp2_with fail
  refine CT.out.mono ?_;rintro e w1 ⟨g,cap,q,c,rfl,hv,hB⟩;have HV:=Lib.hid (zwb hv ((Below.refl _ w1).alloc (Nat.le_refl _) (.cells #[.slice (some ⟨g,0,none⟩) s.size cap,.slice q t.size c] 278)));have HB:=Lib.hid (hB.alloc hB.size (.cells #[.slice (some ⟨g,0,none⟩) s.size cap,.slice q t.size c] 278));clear hv hB CT
  go_wp2_with fail
  go_ret2
  exact⟨_,_,rfl,HV.out,HB.out⟩
end Go.Proofs.YtoejfkeofbdalaaGreatDoor
namespace Go.Proofs.YtoejfkeofbdalaaGreatDoor
theorem zqu (A T:List UInt8) (hm:∀ c∈T,c∈A):zlG A (ints (zec A T).2)=some ((zec A T).1,T):=by
  have h:∀ k,k≤T.length→zlG A (ints (zec A (T.take k)).2)=some ((zec A (T.take k)).1,T.take k):=by
    intro k
    induction k with
    | zero=>intro _;rfl
    | succ k ih =>
      intro hk;have ih:=ih (by omega)
      have hs:T.take (k+1)=T.take k++[T[k]]:=List.take_succ_eq_append_getElem (by omega)
      obtain⟨h1,h2,h3⟩:=zfA A (T.take k) (fun c hc=>hm c (List.mem_of_mem_take hc));rw[hs,zfq];obtain⟨p,hp⟩:∃ p,zec A (T.take k)=p:=⟨_,rfl⟩;rw[hp] at ih h1 h2 ⊢;have hc:T[k]∈p.1:=(h2 _).2 (hm _ (List.getElem_mem _));have hl:=List.idxOf_lt_length_iff.2 hc;unfold ziW;rw[show ints (p.2++[p.1.idxOf T[k]])=ints p.2++[((p.1.idxOf T[k]:Nat):Int)] by simp[ints],zla,ih]
      unfold zgb;simp only[Option.bind_some,Int.toNat_natCast];rw[if_neg (by omega)]
      have hg:p.1.getD (p.1.idxOf T[k]) 0=T[k]:=by
        rw[List.getD_eq_getElem?_getD,List.getElem?_eq_getElem hl];simp
      rw[hg]
  have:=h T.length (Nat.le_refl _)
  rwa [List.take_length] at this
theorem znX (A T:List UInt8) (hn:A.Nodup) (hm:∀ c∈T,c∈A):zdp A (ints (zec A T).2)=(T,0):=by
  unfold zdp;rw[if_neg (fun h=>h hn),zqu A T hm];rfl
end Go.Proofs.YtoejfkeofbdalaaGreatDoor
namespace Go.Proofs.YtoejfkeofbdalaaGreatDoor
open Go.RowKit Go.Shelf
attribute [local go_sem] Oper.semAt_some
theorem zoJ {β:Type} (q:Nat) (t:TypeId):Own (fun (s:β) W=>∃ u,W.heap[q]?=some (.cells #[u] t (0,0))):=fun s X Y row ⟨u,hs⟩ hg hrow=>⟨u,by
  refine (hg.block q (zab hs) (fun e'=>?_)).trans hs;obtain⟨o,ho,hc⟩:=hrow q e'.symm;rw[hs] at ho;cases ho
  cases hc⟩
theorem znf:∀ pre:List (List UInt8),(pre.flatMap zcU).length=zfu pre
  | []=>rfl
  | p::pre=>by
    have h:=znf pre;rw[List.flatMap_cons,List.length_append,h,zgd];rfl
theorem zsD (s:ByteArray) (w:World) (hs:s.size≤1000000) :
    Calls Tryz.prog 55 #[.string s] w fun e w'=>e=.returned (.string ⟨(za5 s.data.toList).toArray⟩)∧Below w.heap.size w w':=by
  have CP:=Lib.hid (fun W=>zfR s W);obtain⟨D,hD⟩:∃ D:Nat,8≤D:=⟨8,by omega⟩
  have h1D:1≤D:=by omega
  refine (callsIn_wide (n:=D)).1 ?_;refine callsIn_of_wp_marks Tryz.func55 rfl trivial ?_ rfl;simp only[Tryz.ntmps55,List.size_toArray,List.length_cons,List.length_nil,Nat.reduceAdd,Nat.reduceSub,Array.replicate_succ,Array.replicate_zero,List.push_toArray,List.append_toArray,List.nil_append,List.cons_append]
  gi_wp2_with fail
  refine⟨trivial,(callsIn_wide.2 (CP.out _)).mono ?_⟩;rintro e w1 ⟨rfl,rfl⟩
  gi_wp2_with fail
  obtain⟨g,hg⟩:∃ g,w.heap.size=g:=⟨_,rfl⟩;have hW1:((w.alloc (.cells #[.pointer none,.slice none 0 0] 134)).alloc (.cells #[.string s] 9)).heap[g]?=some (.cells #[.pointer none,.slice none 0 0] 134 (0,0)):=zah _ (zae _ _ _ hg.symm);have hW2:((w.alloc (.cells #[.pointer none,.slice none 0 0] 134)).alloc (.cells #[.string s] 9)).heap[g+1]?=some (.cells #[.string s] 9 (0,0)):=zae _ _ _ (by simp[hg])
  have hWs:((w.alloc (.cells #[.pointer none,.slice none 0 0] 134)).alloc (.cells #[.string s] 9)).heap.size=g+2:=by simp[hg]
  have hBW:Below g w ((w.alloc (.cells #[.pointer none,.slice none 0 0] 134)).alloc (.cells #[.string s] 9)):=by
    rw[←hg];exact ((Below.refl _ w).alloc (Nat.le_refl _) _).alloc (by simp) _
  rw[hg];generalize (w.alloc (.cells #[.pointer none,.slice none 0 0] 134)).alloc (.cells #[.string s] 9)=W0 at *
  refine zfn (n:=D) (ib:=g+1) h1D (gf:=164) (lb:=#[.pointer (some ⟨g+1,0,none⟩)]) rfl zdm (encs:=pcE) (fun _=>rfl) zrP (fun k=>k≠g+1)
    (zf4 (D-1) (by omega) (g+1) s hs (fun k=>k≠g+1) W0 hW2 (fun h=>h rfl)) (Below.refl _ _) (by omega)
    (fun pre W=>(Lib.IsBuilderF 134 5 g g (Lib.byteCells (pre.flatMap zcU)) W∧∃ u,W.heap[g+1]?=some (.cells #[u] 9 (0,0)))∧Below g w W)
    (fun _ _ _=>False)
    (OwnFrom.and (OwnFrom.and (Own.from (zsR (fun pre:List (List UInt8)=>Lib.byteCells (pre.flatMap zcU))) _) (Own.from (zoJ _ _) _)) (ownFrom_below (by omega) (by omega)))
    (fun pre A u ⟨⟨h1,v,h2⟩,h3⟩=>⟨⟨ztw h1 h2 (by decide) (by decide) u,u,zaf h2 0 u⟩,h3.setCell (p:=⟨g+1,0,none⟩) (by show g≤g+1;omega) u⟩)
    (fun _ _ _ _ _ h _ _=>h)
    ⟨⟨.inl ⟨Nat.le_refl _,_,hW1,⟨rfl,.inl ⟨rfl,rfl⟩⟩,by simp[Value.ownBlock]⟩,_,hW2⟩,hBW⟩
    (fun x a' W=>zrP x W∧a' = { tmps:=#[.string s,undef,.string ⟨#[]⟩,.pointer (some ⟨g,0,none⟩),.string ⟨x.toArray⟩,.string s,.func (.func 164) #[] #[.pointer (some ⟨g+1,0,none⟩)],.string ⟨x.toArray⟩,undef,undef,undef,undef,undef,undef,undef,undef,undef,undef,undef,undef,undef,undef,undef],defers:=[] })
    (fun x a' s W W' row h hgr hr=>h)
    ?assign ?body ?done ?stop
  case assign =>
    intro y pre x W K hi hok hlt hK;simp only[pcE]
    gi_wp2_with fail
    exact hK _ _ (KeepsFrom.refl _ _) (KeepC.refl _ _) hi ⟨hok,rfl⟩
  case body =>
    rintro y pre x a' W ⟨⟨hb,v,hv⟩,hB⟩ ⟨hok,rfl⟩ hlt hlen;have HB:=Lib.hid hb;have HV:=Lib.hid hv;have HBB:=Lib.hid hB;have hpc:=zcL s.data.toList;have hsl:s.data.toList.length=s.size:=by simp
    have hle:=zjx pre;have hfl:=znf pre;have hx2:=hok.2;obtain⟨L,hL⟩:∃ L,x.length=L:=⟨_,rfl⟩;rw[hL] at hx2;have hxl:(⟨x.toArray⟩:ByteArray).size=L:=hL;have hmn:min (L:Int) 4=((min L 4:Nat):Int):=by omega
    have hex:(⟨x.toArray⟩:ByteArray).extract 0 (min L 4)=⟨(x.take 4).toArray⟩:=by
      rw[zfi]
      show (⟨(x.take (min L 4)).toArray⟩:ByteArray)=_
      rw[←hL,Nat.min_comm,←List.take_take,List.take_length]
    have hsz:(⟨(x.take 4).toArray⟩:ByteArray).size≤4:=by
      show (x.take 4).length≤4
      rw[List.length_take];omega
    have hlb:(Lib.byteCells (pre.flatMap zcU)).length≤5000000:=by rw[Lib.byteCells_length,hfl];omega
    obtain⟨mn,hmn4⟩:∃ mn,min L 4=mn:=⟨_,rfl⟩;rw[hmn4] at hmn hex;have hmnl:mn≤L:=by omega
    have CW:=Lib.hid (Tryz.Builder_WriteString_k g g _ ⟨(x.take 4).toArray⟩ W hb (by omega) (by have:=HBB.out.size;omega))
    have HL:=Lib.hid hL;have HLB:=Lib.hid hlb;have HSZ:=Lib.hid hsz;have HOK:=Lib.hid hok;clear hb hv hB hpc hsl hle hfl hL hlb hsz hok hlen hW1 hW2 hBW;have hds:1≤D-1-1:=by omega
    gi_wp2_with fail
    refine⟨trivial,(CallsIn.inRound y (callsIn_wide.2 CW.out)).mono ?_⟩;rintro e W1 ⟨rfl,hb1,hB1,hO1⟩;have hcat:Lib.byteCells (pre.flatMap zcU)++Lib.strCells ⟨(x.take 4).toArray⟩=Lib.byteCells (pre.flatMap zcU++x.take 4):=by simp[Lib.byteCells,Lib.strCells]
    rw[hcat] at hb1;have hv1:W1.heap[g+1]?=some (.cells #[v] 9 (0,0)):=hO1 _ _ HV.out (by simp) (by intro c fz h;cases h)
    have hk1:KeepsFrom W0.heap.size W W1:=⟨hB1.size,fun k o _ hk ho=>hO1 k o hk (by intro h;cases h;omega) (by intro c fz h;subst h;cases ho)⟩
    by_cases h4:4≤L
    · have CB:=Lib.hid (Tryz.Builder_WriteByte_k g g _ ((L:Int)-4) W1 (.inr hb1) (by rw[←hcat,List.length_append,Lib.strCells_length];have:=HLB.out;have:=HSZ.out;omega) (by have:=HBB.out.size;have:=hB1.size;omega))
      have hwr:IntKind.u8.wrap ((L:Int)-4)=(L:Int)-4:=by simp[IntKind.wrap,IntKind.signed,IntKind.bits];omega
      have HK1:=Lib.hid hk1;have HO1:=Lib.hid hO1;have HB1:=Lib.hid hB1;clear hb1 hv1 hk1 hO1 hB1
      gi_wp2_with fail
      refine⟨trivial,(CallsIn.inRound y (callsIn_wide.2 CB.out)).mono ?_⟩;rintro e W2 ⟨rfl,hb2,hB2,hO2⟩
      have hp:(pre++[x]).flatMap zcU=(pre.flatMap zcU++x.take 4)++[UInt8.ofNat (L-4)]:=by
        rw[List.flatMap_append,List.flatMap_singleton,List.append_assoc];unfold zcU;rw[HL.out,if_pos h4]
      have hu8:(UInt8.ofNat (L-4)).toNat=L-4:=by
        rw[UInt8.toNat_ofNat'];omega
      have hcat2:Lib.byteCells (pre.flatMap zcU++x.take 4)++[.int .u8 ((L:Int)-4)]=Lib.byteCells ((pre++[x]).flatMap zcU):=by
        rw[hp,show (L:Int)-4=(((UInt8.ofNat (L-4)).toNat:Nat):Int) by rw[hu8];omega]
        simp[Lib.byteCells]
      rw[hcat2] at hb2;have hv1:W1.heap[g+1]?=some (.cells #[v] 9 (0,0)):=HO1.out _ _ HV.out (by simp) (by intro c fz h;cases h)
      have hv2:W2.heap[g+1]?=some (.cells #[v] 9 (0,0)):=hO2 _ _ hv1 (by simp) (by intro c fz h;cases h)
      have hk2:KeepsFrom W0.heap.size W1 W2:=⟨hB2.size,fun k o _ hk ho=>hO2 k o hk (by intro h;cases h;omega) (by intro c fz h;subst h;cases ho)⟩
      have HB2:=Lib.hid hb2;have HV2:=Lib.hid hv2;have HK2:=Lib.hid hk2;have HBB2:=Lib.hid hB2;clear hb2 hv1 hv2 hk2 hO2 hB2 hcat2 hu8 hp
      gi_wp2_with fail
      exact⟨HK1.out.trans HK2.out,fun b cs t fz hb h1=>by
        have:b=g+1:=Classical.not_not.1 hb;subst this;rw[HV.out] at h1;cases h1;exact HV2.out,⟨⟨.inr HB2.out,_,HV2.out⟩,(HBB.out.trans HB1.out).trans HBB2.out⟩⟩
    · have hp:(pre++[x]).flatMap zcU=pre.flatMap zcU++x.take 4:=by
        rw[List.flatMap_append,List.flatMap_singleton];unfold zcU;rw[HL.out,if_neg h4,List.append_nil]
      have HB1:=Lib.hid hb1;have HV1:=Lib.hid hv1;have HK1:=Lib.hid hk1;have HBB1:=Lib.hid hB1;clear hb1 hv1 hk1 hO1 hB1
      gi_wp2_with fail
      exact⟨HK1.out,fun b cs t fz hb h1=>by
        have:b=g+1:=Classical.not_not.1 hb;subst this;rw[HV.out] at h1;cases h1;exact HV1.out,⟨⟨by rw[hp];exact .inr HB1.out,_,HV1.out⟩,HBB.out.trans HBB1.out⟩⟩
  case done =>
    rintro E xs W hE rfl ⟨⟨hb,v,hv⟩,hB⟩ hd;have CS:=Lib.hid (Tryz.Builder_String_any_k g g ((zaz s.data.toList).flatMap zcU) W hb (by have:=hB.size;omega))
    have HBB:=Lib.hid hB;have HD:=Lib.hid hd;have hgE:w.heap.size≤E:=by omega
    have hgne:g<E:=by omega
    clear hW1 hW2 hWs hBW hb hv hB hd
    gi_wp2_with fail
    refine⟨trivial,(callsIn_wide.2 CS.out).mono ?_⟩;rintro e W1 ⟨rfl,-,hB1,hO1⟩;have hd1:W1.heap[E]?=some (.deferred (some [])):=hO1 _ _ HD.out (by intro h;cases h;omega) (by intro c fz h;cases h)
    have HBB1:=Lib.hid hB1;clear hO1 hB1
    gi_wp2_with fail
    refine⟨by simp,.inl ⟨_,_,rfl,run_takeDeferred hd1,?_⟩⟩
    refine⟨_,results_tmp rfl _ _ _,rfl,?_⟩;rw[hg];exact (HBB.out.trans HBB1.out).trans (belowK_b (w:=w) (Nat.le_of_eq hg.symm) _ E _ _ hgE hd1 rfl rfl)
  case stop=>exact fun _ _ _ _ _ _ h _=>h.elim
end Go.Proofs.YtoejfkeofbdalaaGreatDoor
namespace Go.Proofs.YtoejfkeofbdalaaGreatDoor
open Go.RowKit Go.Shelf
attribute [local go_sem] Oper.semAt_some
theorem zrd {P:Program} {f:FuncId} {args:Array Value} {w:World} {n:Nat} {v:Value}
    (h:Calls P f args (w.drewN n) fun e w'=>e=.returned v∧w.drewN n=w'):Calls P f args (w.drewN n) fun e w''=>e=.returned v∧∃ m,w''=w.drewN m :=
  h.mono fun _ _ ⟨he,hm⟩=>⟨he,n,hm.symm⟩
theorem zhX (g q c n:Nat) (most:Int) (l:List UInt8) (w:World) (hc:c<256) (hn:n≤255) (hl:l.length+n≤100000000) (hm:(l.length+n:Int)≤most) (hm1:most≤1000000000000)
    (hb:Lib.IsBuilderF 134 5 g g (Lib.byteCells l) w) (hq:w.heap[q]?=some (.cells #[.int .i64 most] 3 (0,0))) (hgw:g≤w.heap.size) :
    Calls Tryz.prog 323 #[.int .u8 c,.int .i64 n,.pointer (some ⟨g,0,none⟩),.pointer (some ⟨q,0,none⟩)] w fun e w'=>e=.returned (.tuple #[])∧Lib.IsBuilderF 134 5 g g (Lib.byteCells (l++List.replicate n (UInt8.ofNat c))) w'∧w'.heap[q]?=some (.cells #[.int .i64 most] 3 (0,0))∧Below g w w':=by
  have HB:=Lib.hid hb;have HQ:=Lib.hid hq;clear hb hq
  go_enter Tryz.func323,Tryz.ntmps323
  go_wp2_with fail
  go_loopw [7] (fun kv wr=>∃ k:Nat,k≤n∧kv=.int .i64 k∧Hid (Lib.IsBuilderF 134 5 g g (Lib.byteCells (l++List.replicate k (UInt8.ofNat c))) wr)∧Hid (wr.heap[q]?=some (.cells #[.int .i64 most] 3 (0,0)))∧Hid (Below g w wr)) (fun kv _=>n+1-(intOf kv).toNat)
  case atStart=>exact⟨0,Nat.zero_le _,rfl,by show Lib.IsBuilderF _ _ _ _ _ _;rw[List.replicate_zero,List.append_nil];exact HB.out,HQ.out,Below.refl _ _⟩
  case round =>
    obtain⟨k,hk,rfl,HB1,HQ1,HW1⟩:=hrel;have hlen:(Lib.byteCells (l++List.replicate k (UInt8.ofNat c))).length=l.length+k:=by rw[Lib.byteCells_length,List.length_append,List.length_replicate]
    obtain⟨m,rfl⟩:=Int.eq_ofNat_of_zero_le (show 0≤most by omega)
    have kq:=(zaa HQ1.out 0).trans rfl
    by_cases hlt:k<n
    · have CL:Hid (∀ W,W.heap=wr.heap→Calls Tryz.prog 324 #[.pointer (some ⟨g,0,none⟩)] W fun e w'=>e=.returned (.int .i64 (l.length+k:Nat))∧W=w'):=fun W hW=>by
        have:=Tryz.Builder_Len_f g g _ W (zcH HB1.out fun j c t fz _ _=>by rw[hW])
        rw[hlen] at this;exact this.mono fun e w' ⟨h1,h2⟩=>⟨h1,h2.symm⟩
      have hmx:(max (m:Int) 0)=(m:Int):=by omega
      have hgt:decide ((m:Int)<((l.length+k:Nat):Int))=false:=decide_eq_false (by omega)
      have hgt2:decide (m<l.length+k)=false:=decide_eq_false (by omega)
      obtain⟨Ln,hLn⟩:∃ Ln,l.length+k=Ln:=⟨_,rfl⟩;rw[hLn] at CL hgt hgt2
      go_wp2_with fail
      go_quiet ((go_at_call 324;exact zrd (CL.out _ rfl)))
      have CB:=Lib.hid (Tryz.Builder_WriteByte_k g g _ (c:Int) (wr.drewN nq) (zcH (W':=wr.drewN nq) HB1.out fun j c t fz _ _=>rfl) (by rw[hlen];omega) (by have:=HW1.out.size;show g≤wr.heap.size;omega))
      go_wp2_with fail
      go_at_call 73
      refine CB.out.mono ?_;rintro e W2 ⟨rfl,hb2,hB2,hO2⟩
      have hcat:Lib.byteCells (l++List.replicate k (UInt8.ofNat c))++[.int .u8 (c:Int)]=Lib.byteCells (l++List.replicate (k+1) (UInt8.ofNat c)):=by
        rw[List.replicate_succ',←List.append_assoc];have hu8:(UInt8.ofNat c).toNat=c:=by rw[UInt8.toNat_ofNat'];omega
        simp[Lib.byteCells,hu8]
      rw[hcat] at hb2
      have hq2:W2.heap[q]?=some (.cells #[.int .i64 (m:Int)] 3 (0,0)):=hO2 _ _ HQ1.out (by
        intro h;cases h;rcases HB1.out with h | h <;> obtain⟨_,v,hv,_⟩:=h <;> rw[HQ1.out] at hv <;> cases hv) (by intro c fz h;cases h)
      have HB2:=Lib.hid hb2;have HQ2:=Lib.hid hq2;have HW2:Hid (Below g w W2):=HW1.out.trans ((below_drewN (Below.refl _ _) nq).trans hB2);clear hb2 hq2 hB2 hO2 hcat
      go_wp2_with fail
      go_roundw
      case rel=>exact⟨k+1,by omega,by go_num,.inr HB2.out,HQ2.out,HW2.out⟩
      case measure=>simp[intOf];omega
    · obtain rfl:k=n:=by omega
      go_wp2_with fail
      exact bodyPost_end (results_none rfl _ _ _) rfl ⟨rfl,HB1.out,HQ1.out,HW1.out⟩
end Go.Proofs.YtoejfkeofbdalaaGreatDoor
