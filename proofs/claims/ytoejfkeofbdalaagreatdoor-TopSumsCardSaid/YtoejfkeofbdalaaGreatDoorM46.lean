import Derived.Test.YtoejfkeofbdalaaGreatDoorM45
set_option linter.unusedVariables false
set_option maxRecDepth 100000
set_option maxHeartbeats 8000000
namespace Go.Proofs.YtoejfkeofbdalaaGreatDoor
open Go.RowKit
inductive ShW where
  | str (s:List UInt8)
  | byt (s:List UInt8)
  | err (n:Nat)
def shV:ShW→Value
  | .str s=>.iface 9 (.string ⟨s.toArray⟩)
  | .byt s=>.iface 353 (.string ⟨s.toArray⟩)
  | .err n=>.iface 25 (.int .i64 (n:Nat))
def shT:ShW→List UInt8
  | .str s=>s
  | .byt s=>if s=[] then [45] else zeR s
  | .err n=>Lib.decDigits n
def zvI:ShW→Prop
  | .str s=>s.length≤100000
  | .byt s=>s.length≤100000
  | .err n=>n<100
def zp2 (w:World) (v:Value) (ws:List ShW):Prop:=Rd w w.heap.size 1 v ws.length (ws.map shV)
theorem zvG (v:Value) (w:World):(Instr.typeAssert (.iface 353 v) 20 353 true).run Tryz.prog w=.ok (.tuple #[v,.bool true]) w:=by kernel_rfl
theorem zv1 (v:Value) (w:World):(Instr.typeAssert (.iface 9 v) 20 353 true).run Tryz.prog w=.ok (.tuple #[.string ⟨#[]⟩,.bool false]) w:=by kernel_rfl
theorem zvW (v:Value) (w:World):(Instr.typeAssert (.iface 9 v) 20 3 true).run Tryz.prog w=.ok (.tuple #[.int .i64 0,.bool false]) w:=by kernel_rfl
theorem zv5 (v:Value) (w:World):(Instr.typeAssert (.iface 9 v) 20 53 true).run Tryz.prog w=.ok (.tuple #[.int .u32 0,.bool false]) w:=by kernel_rfl
theorem zvT (v:Value) (w:World):(Instr.typeAssert (.iface 9 v) 20 25 true).run Tryz.prog w=.ok (.tuple #[.int .i64 0,.bool false]) w:=by kernel_rfl
theorem zvV (v:Value) (w:World):(Instr.typeAssert (.iface 9 v) 20 9 true).run Tryz.prog w=.ok (.tuple #[v,.bool true]) w:=by kernel_rfl
theorem zv3 (v:Value) (w:World):(Instr.typeAssert (.iface 25 v) 20 353 true).run Tryz.prog w=.ok (.tuple #[.string ⟨#[]⟩,.bool false]) w:=by kernel_rfl
theorem zv0 (v:Value) (w:World):(Instr.typeAssert (.iface 25 v) 20 3 true).run Tryz.prog w=.ok (.tuple #[.int .i64 0,.bool false]) w:=by kernel_rfl
theorem zvQ (v:Value) (w:World):(Instr.typeAssert (.iface 25 v) 20 53 true).run Tryz.prog w=.ok (.tuple #[.int .u32 0,.bool false]) w:=by kernel_rfl
theorem zv4 (v:Value) (w:World):(Instr.typeAssert (.iface 25 v) 20 25 true).run Tryz.prog w=.ok (.tuple #[v,.bool true]) w:=by kernel_rfl
def zn7 (ws:List ShW):List UInt8:=Lib.join (ws.map shT) [32]++[10]
theorem zuI (w:World) (v:Value) (ws:List ShW) (hv:zp2 w v ws) (hok:∀ x∈ws,zvI x) (h0:ws≠[]) (hN:ws.length≤1000) (hlen:(Lib.join (ws.map shT) [32]).length≤10000000) :
    Calls Tryz.prog 199 #[v] w fun e w'=>e=.returned (.string ⟨(zn7 ws).toArray⟩)∧Below w.heap.size w w':=by
  obtain⟨q,c,rfl,-,-⟩:=Rd.isSlice hv;obtain⟨N,hNe⟩:∃ N,ws.length=N:=⟨_,rfl⟩;have hv2:=hv;unfold zp2 at hv2;rw[hNe] at hv2 hN ⊢;have hN0:0<N:=by rw[←hNe];exact List.length_pos_iff.2 h0
  have HV0:Hid (∀ W,Below w.heap.size w W→Rd W W.heap.size 1 (.slice q N c) N (ws.map shV)):=fun W h=>hv2.up h;have HV:=Lib.hid hv2;have HN:=Lib.hid hNe;have HOK:=Lib.hid hok;have HLEN:=Lib.hid hlen;clear hv hv2 hNe hok h0 hlen
  go_enter Tryz.func199,Tryz.ntmps199
  go_wp2_with fail
  go_loopw [13,3] (fun kv ov wr=>∃ k:Nat,k≤N∧kv=.int .i64 k∧∃ oq oc,ov=.slice oq k oc∧Hid (wr.ownsRow w.heap.size 9 1 ov k (zfU ((ws.take k).map shT)))∧Hid (Rd wr wr.heap.size 1 (.slice q N c) N (ws.map shV))∧Hid (Below w.heap.size w wr)) (fun kv _ _=>N+1-(intOf kv).toNat)
  case atStart=>exact⟨0,by omega,rfl,_,_,rfl,Lib.hid (World.ownsRow_nil _ _ _ _),HV,Lib.hid (Below.refl _ _)⟩
  case round =>
    clear HV;obtain⟨k,hk,rfl,oq,oc,rfl,HO,HV,HB⟩:=hrel
    by_cases hlt:k<N
    · have hd:decide ((k:Int)<(N:Int))=true:=decide_eq_true (by omega)
      have hkL:k<ws.length:=by rw[HN.out];exact hlt
      obtain⟨x,hx⟩:∃ x,ws[k]?=some x:=⟨_,List.getElem?_eq_getElem hkL⟩;have hxm:x∈ws:=List.mem_of_getElem? hx;have hxo:=HOK.out x hxm
      have htk:ws.take (k+1)=ws.take k++[x]:=by
        obtain⟨h2,h3⟩:=List.getElem?_eq_some_iff.1 hx;rw[List.take_succ_eq_append_getElem h2,h3]
      obtain⟨g,o,hq,hg,hc⟩:=HV.out.cellAt (by omega)
      have c0:=hc k (shV x) (by simp[hx])
      subst hq;have HTK:=Lib.hid htk;have hki:(k:Int)<(N:Int):=by omega
      have hk0:(0:Int)≤(k:Int):=by omega
      obtain⟨z,hz⟩:∃ z,wr.heap.size=z:=⟨_,rfl⟩;have hbz:=HB.out.size;clear hkL hx hxm htk hc;cases x with
      | str t =>
        obtain⟨T,hT⟩:∃ T:ByteArray,(⟨t.toArray⟩:ByteArray)=T:=⟨_,rfl⟩;simp only[shV] at c0;rw[hT] at c0;have t1:=zv1 (.string T) wr;have t2:=zvW (.string T) wr;have t3:=zv5 (.string T) wr;have t4:=zvT (.string T) wr;have t5:=zvV (.string T) wr;have HT:=Lib.hid hT;clear hT hxo
        go_wp2_with
          (at_builtin
           refine zav zfz (by rfl) _ _ (by rfl) w.heap.size _ k (zfU ((ws.take k).map shT)) (by rfl) (HO.out.alloc _) (z+1) 1 _ [.string T] (by rfl) (Rd.mono (zap (zae _ _ _ hz.symm) rfl (by rfl) (by simp[maxLen])) (by simp[hz])) (by intro c hc;simp at hc;subst hc;rfl) (by omega) (by omega) (by simp;omega) ?_
           intro q2 c2 w2 hown2 hg2 hat2;have hbL:=zk5 (Below.refl wr.heap.size wr) (.cells #[.string T] 9);have HB2:Hid (Below w.heap.size w w2):=(HB.out.trans (hbL.mono HB.out.size)).grown hg2 (by simp;omega) (fun r e=>zaF HO.out e)
           have HO2:=Lib.hid hown2;clear hown2 hg2 hat2 hbL)
        go_roundw
        case rel =>
          refine⟨k+1,by omega,by go_num,q2,c2,rfl,?_,HV0.out _ HB2.out,HB2⟩
          show World.ownsRow _ _ _ _ _ _ _
          rw[HTK.out,List.map_append,List.map_cons,List.map_nil,zc6];simp only[shT,HT.out];exact HO2.out
        case measure=>simp[intOf];omega
      | byt t =>
        by_cases ht:t=[]
        · subst ht
          simp only[shV] at c0;have t1:=zvG (.string ⟨#[]⟩) wr;clear hxo
          go_wp2_with
            (at_builtin
             refine zav zfz (by rfl) _ _ (by rfl) w.heap.size _ k (zfU ((ws.take k).map shT)) (by rfl) (HO.out.alloc _) (z+1) 1 _ [.string ⟨#[45]⟩] (by rfl) (Rd.mono (zap (zae _ _ _ hz.symm) rfl (by rfl) (by simp[maxLen])) (by simp[hz])) (by intro c hc;simp at hc;subst hc;rfl) (by omega) (by omega) (by simp;omega) ?_
             intro q2 c2 w2 hown2 hg2 hat2;have hbL:=zk5 (Below.refl wr.heap.size wr) (.cells #[.string ⟨#[45]⟩] 9);have HB2:Hid (Below w.heap.size w w2):=(HB.out.trans (hbL.mono HB.out.size)).grown hg2 (by simp;omega) (fun r e=>zaF HO.out e)
             have HO2:=Lib.hid hown2;clear hown2 hg2 hat2 hbL)
          go_roundw
          case rel =>
            refine⟨k+1,by omega,by go_num,q2,c2,rfl,?_,HV0.out _ HB2.out,HB2⟩
            show World.ownsRow _ _ _ _ _ _ _
            rw[HTK.out,List.map_append,List.map_cons,List.map_nil,zc6];simp only[shT,if_pos];exact HO2.out
          case measure=>simp[intOf];omega
        · obtain⟨T,hT⟩:∃ T:ByteArray,(⟨t.toArray⟩:ByteArray)=T:=⟨_,rfl⟩
          have hTs:T.size=t.length:=by rw[←hT];rfl
          have hTl:T.data.toList=t:=by rw[←hT]
          have hte:T.toList.isEmpty=false:=by
            rw[Lib.toList_data,hTl];cases t with
            | nil=>exact absurd rfl ht
            | cons a b=>rfl
          simp only[shV] at c0;rw[hT] at c0;have t1:=zvG (.string T) wr;have hxo2:t.length≤100000:=hxo;have CH:=Lib.hid (zuV T wr (by omega))
          rw[hTl] at CH;obtain⟨X,hX⟩:∃ X:ByteArray,(⟨(zeR t).toArray⟩:ByteArray)=X:=⟨_,rfl⟩;rw[hX] at CH;have HX:=Lib.hid hX;clear hT hTs hTl hX hxo hxo2
          go_wp2_with fail
          refine CH.out.mono ?_;rintro e w5 ⟨rfl,hB5⟩;have HO5:=Lib.hid (zag HO.out hB5);have HB5:=Lib.hid (zvS hB5 HB.out);obtain⟨z5,hz5⟩:∃ z5,w5.heap.size=z5:=⟨_,rfl⟩;have hbz5:=HB5.out.size;clear hB5 HO HB hz hbz t1 c0 CH HV
          go_wp2_with
            (at_builtin
             refine zav zfz (by rfl) _ _ (by rfl) w.heap.size _ k (zfU ((ws.take k).map shT)) (by rfl) (HO5.out.alloc _) (z5+1) 1 _ [.string X] (by rfl) (Rd.mono (zap (zae _ _ _ hz5.symm) rfl (by rfl) (by simp[maxLen])) (by simp[hz5])) (by intro c hc;simp at hc;subst hc;rfl) (by omega) (by omega) (by simp;omega) ?_
             intro q2 c2 w2 hown2 hg2 hat2;have hbL:=zk5 (Below.refl w5.heap.size w5) (.cells #[.string X] 9);have HB2:Hid (Below w.heap.size w w2):=(HB5.out.trans (hbL.mono HB5.out.size)).grown hg2 (by simp;omega) (fun r e=>zaF HO5.out e)
             have HO2:=Lib.hid hown2;clear hown2 hg2 hat2 hbL)
          go_roundw
          case rel =>
            refine⟨k+1,by omega,by go_num,q2,c2,rfl,?_,HV0.out _ HB2.out,HB2⟩
            show World.ownsRow _ _ _ _ _ _ _
            rw[HTK.out,List.map_append,List.map_cons,List.map_nil,zc6];simp only[shT,if_neg ht,HX.out];exact HO2.out
          case measure=>simp[intOf];omega
      | err n =>
        simp only[shV] at c0;have t1:=zv3 (.int .i64 (n:Nat)) wr;have t2:=zv0 (.int .i64 (n:Nat)) wr;have t3:=zvQ (.int .i64 (n:Nat)) wr;have t4:=zv4 (.int .i64 (n:Nat)) wr;have CI:=Lib.hid (Tryz.strconv_Itoa_small n hxo wr);obtain⟨X,hX⟩:∃ X:ByteArray,(⟨(Lib.decDigits n).toArray⟩:ByteArray)=X:=⟨_,rfl⟩;rw[hX] at CI;have HX:=Lib.hid hX;clear hxo hX
        go_wp2_with fail
        refine CI.out.mono ?_;rintro e w5 ⟨rfl,rfl⟩
        go_wp2_with
          (at_builtin
           refine zav zfz (by rfl) _ _ (by rfl) w.heap.size _ k (zfU ((ws.take k).map shT)) (by rfl) (HO.out.alloc _) (z+1) 1 _ [.string X] (by rfl) (Rd.mono (zap (zae _ _ _ hz.symm) rfl (by rfl) (by simp[maxLen])) (by simp[hz])) (by intro c hc;simp at hc;subst hc;rfl) (by omega) (by omega) (by simp;omega) ?_
           intro q2 c2 w2 hown2 hg2 hat2;have hbL:=zk5 (Below.refl w5.heap.size w5) (.cells #[.string X] 9);have HB2:Hid (Below w.heap.size w w2):=(HB.out.trans (hbL.mono HB.out.size)).grown hg2 (by simp;omega) (fun r e=>zaF HO.out e)
           have HO2:=Lib.hid hown2;clear hown2 hg2 hat2 hbL)
        go_roundw
        case rel =>
          refine⟨k+1,by omega,by go_num,q2,c2,rfl,?_,HV0.out _ HB2.out,HB2⟩
          show World.ownsRow _ _ _ _ _ _ _
          rw[HTK.out,List.map_append,List.map_cons,List.map_nil,zc6];simp only[shT,HX.out];exact HO2.out
        case measure=>simp[intOf];omega
    · obtain rfl:k=N:=by omega
      have htk:ws.take k=ws:=List.take_of_length_le (by rw[HN.out];exact Nat.le_refl _)
      rw[htk] at HO;obtain⟨g,o,hq,hg,hc⟩:=(Rd.own HO.out).cellAt hN0;subst hq;obtain⟨ws',hws⟩:∃ l:List ByteArray,(ws.map shT).map (fun t=>(⟨t.toArray⟩:ByteArray))=l:=⟨_,rfl⟩;have hwl:ws'.length=k:=by rw[←hws,List.length_map,List.length_map,HN.out]
      have hwt:ws'.map (·.data.toList)=ws.map shT:=by
        rw[←hws,List.map_map]
        conv=>rhs;rw[←List.map_id (ws.map shT)]
        apply List.map_congr_left
        intro t _;rfl
      obtain⟨q1,c1,hsl,hle,hmx⟩:=Rd.isSlice (Rd.own HO.out);cases hsl
      have CJ:=Tryz.strings_Join g o oc ws' ⟨#[32]⟩ wr (fun j t hj=>hc j _ (by
        rw[←hws] at hj;simp only[zfU,List.getElem?_map] at hj ⊢;cases h2:ws[j]? with
        | none=>rw[h2] at hj;simp at hj
        | some y =>
          rw[h2] at hj;simp at hj;subst hj;simp)) hg (by rw[hwl];omega) (by rw[hwl];exact hle) (by rw[hwt];have:=HLEN.out;show (Lib.join (ws.map shT) [32]).length≤_;omega)
      rw[hwt,hwl] at CJ;obtain⟨X,hX⟩:∃ X:ByteArray,(⟨(Lib.join (ws.map shT) [32]).toArray⟩:ByteArray)=X:=⟨_,rfl⟩
      have CJ2:Hid (Calls Tryz.prog 246 #[.slice (some ⟨g,o,none⟩) k oc,.string ⟨#[32]⟩] wr fun e w'=>e=.returned (.string X)∧Below wr.heap.size wr w'):=by
        rw[←hX];exact CJ
      have hXs:X.size≤10000000:=by rw[←hX];exact HLEN.out
      have HX:=Lib.hid hX;clear hws hwl hwt CJ hX hc hle hmx htk
      go_wp2_with fail
      refine CJ2.out.mono ?_;rintro e w5 ⟨rfl,hB5⟩;have HB5:=Lib.hid (zvS hB5 HB.out);clear hB5 CJ2 HO HV HB
      go_wp2_with fail
      go_ret
      refine⟨?_,HB5.out⟩;rw[←HX.out];have hb:(⟨(Lib.join (ws.map shT) [32]).toArray⟩:ByteArray)++(⟨#[10]⟩:ByteArray)=⟨(zn7 ws).toArray⟩:=ByteArray.ext (by rw[ByteArray.data_append];simp[zn7])
      rw[hb];rfl
theorem zqH (w:World) (v:Value) (ws:List ShW) (hv:zp2 w v ws) (hok:∀ x∈ws,zvI x) (h0:ws≠[]) (hN:ws.length≤1000) (hlen:(Lib.join (ws.map shT) [32]).length≤10000000) :
    Calls Tryz.prog 136 #[.int .i64 0,v] w fun e w'=>e=.returned (.string ⟨(zn7 ws).toArray⟩)∧Below w.heap.size w w':=by
  have CL:=Lib.hid (zuI w v ws hv hok h0 hN hlen);clear hv hok h0 hN hlen
  go_enter Tryz.func136,Tryz.ntmps136
  go_wp2_with fail
  refine CL.out.mono ?_;rintro e w5 ⟨rfl,hB5⟩;have HB5:=Lib.hid hB5;clear hB5 CL
  go_wp2_with fail
  go_ret
  exact⟨rfl,HB5.out⟩
theorem zr9 {n:Nat} (hn:n<100):Lib.atoi (Lib.decDigits n)=some (n:Int):=by
  have h:∀ i:Fin 100,Lib.atoi (if i.val<10 then [UInt8.ofNat (48+i.val)] else [UInt8.ofNat (48+i.val / 10),UInt8.ofNat (48+i.val % 10)])=some (i.val:Int):=by decide +kernel
  have h2:=h ⟨n,hn⟩
  by_cases h1:n<10
  · rw[Lib.decDigits_one h1]
    simpa [h1] using h2
  · rw[Lib.decDigits_two h1 hn]
    simpa [h1] using h2
theorem zvF (w:World) (p k n:Nat) (hn:n<100) (a b c d:Value) (hp:w.heap[p]?=some (.cells #[a,b,c,d] 241 (0,0))) (hk:k<3) :
    Calls Tryz.prog 135 #[.pointer (some ⟨p,0,none⟩),.int .i64 k,.int .u8 110,.string ⟨(Lib.decDigits n).toArray⟩] w fun e w'=>e=.returned (.bool true)∧∃ W,Below w.heap.size w W∧w'=W.setCell ⟨p,k,none⟩ (.int .i64 n):=by
  have hl2:(Lib.decDigits n).length≤2:=by
    by_cases h:n<10
    · rw[Lib.decDigits_one h];simp
    · rw[Lib.decDigits_two h hn];simp
  obtain⟨T,hT⟩:∃ T:ByteArray,(⟨(Lib.decDigits n).toArray⟩:ByteArray)=T:=⟨_,rfl⟩;have hTs:T.size≤2:=by rw[←hT];exact hl2
  have hTl:T.data.toList=Lib.decDigits n:=by rw[←hT]
  have CA:=Lib.hid (fun W=>Tryz.strconv_Atoi T n (by omega) (by rw[hTl];exact zr9 hn) W)
  have CI:=Lib.hid (fun W=>Tryz.strconv_Itoa_small n hn W);rw[hT] at CI ⊢;have d9:decide ((T.size:Int)≤9)=true:=decide_eq_true (by omega)
  have d0:decide ((n:Int)≥0)=true:=decide_eq_true (by omega)
  have d00:decide ((0:Int)≤n)=true:=decide_eq_true (by omega)
  clear hT hTl hl2
  go_enter Tryz.func135,Tryz.ntmps135
  go_wp2_with fail
  refine (CA.out w).mono ?_;rintro e w5 ⟨rfl,t,rfl⟩;have hB:Below w.heap.size w (Lib.bytesWorld w 5 t):=⟨rfl,rfl,rfl,by rw[Lib.bytesWorld_size];omega,fun k hk=>Lib.bytesWorld_at_old w 5 t k hk⟩
  generalize Lib.bytesWorld w 5 t=W at *
  have hp2:=zwc hB hp;have HB:=Lib.hid hB;have hf:=zac hp2 k;obtain⟨y,hy⟩:∃ y,(#[a,b,c,d]:Array Value)[k]?=some y:=⟨_,Array.getElem?_eq_getElem (by simp;omega)⟩
  have hc:=(zaa hp2 k).trans hy;clear hB hp CA hp2 hy
  go_wp2_with fail
  refine (CI.out _).mono ?_;rintro e w6 ⟨rfl,rfl⟩
  go_wp2_with fail
  go_ret
  exact⟨rfl,W,HB.out,rfl⟩
theorem zvv (w:World) (p k:Nat) (x:List UInt8) (h0:x≠[]) (hx:x.length≤100000) (a b c d:Value) (hp:w.heap[p]?=some (.cells #[a,b,c,d] 241 (0,0))) :
    Calls Tryz.prog 135 #[.pointer (some ⟨p,0,none⟩),.int .i64 k,.int .u8 104,.string ⟨(zeR x).toArray⟩] w fun e w'=>e=.returned (.bool true)∧∃ W,Below w.heap.size w W∧w'=W.setCell ⟨p,3,none⟩ (.string ⟨x.toArray⟩):=by
  have CU:=Lib.hid (zti x w h0 hx);have hl0:=zdb x;have hx0:=List.length_pos_iff.2 h0;obtain⟨T,hT⟩:∃ T:ByteArray,(⟨(zeR x).toArray⟩:ByteArray)=T:=⟨_,rfl⟩;obtain⟨X,hX⟩:∃ X:ByteArray,(⟨x.toArray⟩:ByteArray)=X:=⟨_,rfl⟩;have hTs:T.size=2*x.length:=by rw[←hT,←hl0];rfl
  have hTl:T.toList.length=2*x.length:=by rw[Lib.toList_data,←hTs];simp
  have q1:(T.toList == [45])=false:=by
    cases h:T.toList == [45] with
    | false=>rfl
    | true=>rw[eq_of_beq h] at hTl;simp at hTl;omega
  have q2:T.toList.isEmpty=false:=by
    cases h:T.toList with
    | nil=>rw[h] at hTl;simp at hTl;omega
    | cons a b=>rfl
  have q3:(T.toList == [])=false:=by
    cases h:T.toList with
    | nil=>rw[h] at hTl;simp at hTl;omega
    | cons a b=>rfl
  rw[hT,hX] at CU;rw[hT,hX];clear hT hX hl0 hx0 hTs hTl h0 hx
  go_enter Tryz.func135,Tryz.ntmps135
  go_wp2_with fail
  refine CU.out.mono ?_;rintro e W ⟨rfl,hB⟩;have hp2:=zwc hB hp;have HB:=Lib.hid hB;have hf:=zac hp2 3;have hc:=zaa hp2 3;simp at hc;clear hB hp CU hp2
  go_wp2_with fail
  go_ret
  exact⟨rfl,W,HB.out,rfl⟩
theorem zst (w:World) (db:Nat) (cs:Array Value) (hcs:0<cs.size) (hd:w.heap[db]?=some (.cells cs 145 (0,0))) (s:ByteArray) (hs:s.size≤1000) (lv:Nat) (h1:1≤lv) (h9:lv≤9) (a b:Value) :
    Calls Tryz.prog 181 #[.pointer (some ⟨db,0,none⟩),.agg #[.int .i64 lv,a,b,.string s]] w fun e w'=>e=.returned (.string ⟨(zn7 [.str [111,107]]).toArray⟩)∧∃ W,Below w.heap.size w W∧Below w.heap.size (W.setCell ⟨db,0,none⟩ (.string (txt (zhy lv s.data.toList)))) w':=by
  have CP:=Lib.hid (fun W=>zuR W s hs lv h1 h9);obtain⟨T,hT⟩:∃ T,txt (zhy lv s.data.toList)=T:=⟨_,rfl⟩;rw[hT] at CP ⊢;obtain⟨z,hz⟩:∃ z,w.heap.size=z:=⟨_,rfl⟩;have HBZ:=Lib.hid (zk5 (Below.refl w.heap.size w) (.cells #[.int .i64 lv,a,b,.string s] 241));clear hT h1 h9 hs
  go_enter Tryz.func181,Tryz.ntmps181
  go_wp2_with fail
  refine (CP.out _).mono ?_;rintro e W1 ⟨rfl,hB⟩;have hB1:Below w.heap.size w W1:=HBZ.out.trans (hB.mono (by simp))
  have hd2:=zwc hB1 hd;have HB1:=Lib.hid hB1;have hf:=zac hd2 0;obtain⟨y,hy⟩:∃ y,cs[0]?=some y:=⟨_,Array.getElem?_eq_getElem hcs⟩;have hc:=(zaa hd2 0).trans hy;obtain⟨z1,hz1⟩:∃ z,W1.heap.size=z:=⟨_,rfl⟩;clear hB hB1 hd hd2 hy
  go_wp2_with fail
  have hzs:(W1.setCell ⟨db,0,none⟩ (.string T)).heap.size=z1:=by simp[hz1]
  have hwz:w.heap.size≤z1:=by have:=HB1.out.size;omega
  refine (zqH _ _ [.str [111,107]] ?_ ?_ (by simp) (by simp) ?_).mono ?_
  · show Rd _ _ 1 _ 1 [_]
    exact Rd.mono (zap (zae _ _ _ hzs.symm) rfl (by rfl) (by simp[maxLen])) (by simp[hz1])
  · intro x hx
    simp at hx;subst hx;simp[zvI]
  · simp[Lib.join,shT]
  rintro e w5 ⟨rfl,hB5⟩
  have HB5:Hid (Below w.heap.size (W1.setCell ⟨db,0,none⟩ (.string T)) w5) :=
    ((Below.refl w.heap.size (W1.setCell ⟨db,0,none⟩ (.string T))).alloc (by omega) _).trans (hB5.mono (by simp;omega))
  clear hB5
  go_wp2_with fail
  go_ret
  exact⟨rfl,W1,HB1.out,HB5.out⟩
structure Readable (s:ByteArray) (L:List Strm):Prop where
  size:s.size≤1000000
  ne:L≠[]
  at0:zdI s.data.toList 0 L
  few:∀ S∈L,S.ts.length≤100000
  evsL:(evs 0 L).length≤1000000
  resL:(zc5 L).length≤1000000
  txL:∀ k,(zbh ((zc5 L).take k)).length≤100000
theorem zt8 (w:World) (db:Nat) (s:ByteArray) (L:List Strm) (cs:Array Value) (hcs:cs[0]?=some (.string s)) (hd:w.heap[db]?=some (.cells cs 145 (0,0))) (hR:Readable s L) (hgood:zbT L=true) (ag:Array Value) :
    Calls Tryz.prog 186 #[.pointer (some ⟨db,0,none⟩),.agg ag] w fun e w'=>e=.returned (.string ⟨(zn7 [.str [115,97,121],.byt (zbh (zc5 L))]).toArray⟩)∧Below w.heap.size w w':=by
  have CR:=Lib.hid (fun W=>zkr s W hR.size L hR.ne hR.at0 hR.few hR.evsL hR.resL (fun k=>Nat.le_trans (hR.txL k) (by omega)))
  have hE:ziF L=0:=by rw[ziF,if_pos hgood]
  have hlen:(zbh (zc5 L)).length≤100000:=by
    have:=hR.txL (zc5 L).length;rw[List.take_length] at this;exact this
  obtain⟨x,hx⟩:∃ x,zbh (zc5 L)=x:=⟨_,rfl⟩;obtain⟨T,hT⟩:∃ T:ByteArray,(⟨x.toArray⟩:ByteArray)=T:=⟨_,rfl⟩;rw[hE,hx,hT] at CR;rw[hx] at hlen ⊢;obtain⟨z,hz⟩:∃ z,w.heap.size=z:=⟨_,rfl⟩;have HBZ:=Lib.hid (zk5 (Below.refl w.heap.size w) (.cells ag 241));have hc:=(zaa hd 0).trans hcs;have hdz:=zab hd;have HT:=Lib.hid hT;have hc2:(w.alloc (.cells ag 241)).cell? ⟨db,0,none⟩=some (.string s):=(zaa (zwc (Below.refl w.heap.size w |>.alloc (Nat.le_refl _) _) hd) 0).trans hcs;clear hT hx hR hE hcs hd
  go_enter Tryz.func186,Tryz.ntmps186
  go_wp2_with fail
  refine (CR.out _).mono ?_;rintro e W1 ⟨rfl,hB⟩;have hB1:Below w.heap.size w W1:=HBZ.out.trans (hB.mono (by simp))
  have HB1:=Lib.hid hB1;obtain⟨z1,hz1⟩:∃ z,W1.heap.size=z:=⟨_,rfl⟩;clear hB hB1 CR
  go_wp2_with fail
  refine (zqH _ _ [.str [115,97,121],.byt x] ?_ ?_ (by simp) (by simp) ?_).mono ?_
  · show Rd _ _ 1 _ 2 [_,.iface _ (.string ⟨x.toArray⟩)]
    rw[HT.out];exact Rd.mono (zap (zae _ _ _ hz1.symm) rfl (by rfl) (by simp[maxLen])) (by simp[hz1])
  · intro y hy
    simp at hy;rcases hy with rfl | rfl
    · simp[zvI]
    · exact hlen
  · simp[Lib.join,shT]
    split
    · simp
    · rw[zdb];omega
  rintro e w5 ⟨rfl,hB5⟩;have HB5:Hid (Below w.heap.size w w5):=(zk5 HB1.out _).trans (hB5.mono (by have:=HB1.out.size;simp;omega))
  clear hB5
  go_wp2_with fail
  go_ret
  exact⟨rfl,HB5.out⟩
end Go.Proofs.YtoejfkeofbdalaaGreatDoor
