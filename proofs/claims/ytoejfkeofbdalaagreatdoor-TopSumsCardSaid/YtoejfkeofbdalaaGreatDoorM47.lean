import Derived.Test.YtoejfkeofbdalaaGreatDoorM46
set_option linter.unusedVariables false
set_option maxRecDepth 100000
set_option maxHeartbeats 8000000
namespace Go.Proofs.YtoejfkeofbdalaaGreatDoor
open Go.RowKit
theorem zib (w:World) (m:Int) (hm:w.cell? ⟨0,0,none⟩=some (.int .i64 m)) (s:ByteArray) (hs:s.size≤1000000) (ls:List ByteArray) (hls:Lib.splitB ⟨#[10]⟩ 1 ls.length s=ls++[⟨#[]⟩]) (hcnt:Lib.countB s ⟨#[10]⟩=ls.length) (hle:ls.length≤s.size) :
    Calls Tryz.prog 74 #[.string s,.string ⟨#[10]⟩] w fun e w'=>e=.returned (.slice (some ⟨w.heap.size,0,none⟩) (ls.length+1) (ls.length+1))∧w'=w.alloc (.cells ((ls++[(⟨#[]⟩:ByteArray)]).map Value.string).toArray 9):=by
  have CG:=Lib.hid (Tryz.strings_genSplit s ⟨#[10]⟩ 1 (-1) (ls.length+1) m w (by omega) hm (by decide) (by decide) (by decide) (by decide) (by rw[if_pos (by decide),hcnt];omega))
  rw[show ls.length+1-1=ls.length from rfl,hls] at CG
  rw[show Lib.cellsOf (ls++[(⟨#[]⟩:ByteArray)]) (ls.length+1)=((ls++[(⟨#[]⟩:ByteArray)]).map Value.string).toArray by rw[show ls.length+1=(ls++[(⟨#[]⟩:ByteArray)]).length by simp];exact Lib.cellsOf_full _,show (ls++[(⟨#[]⟩:ByteArray)]).length=ls.length+1 by simp] at CG
  obtain⟨N,hN⟩:∃ N,ls.length=N:=⟨_,rfl⟩;obtain⟨R,hR⟩:∃ R,((ls++[(⟨#[]⟩:ByteArray)]).map Value.string).toArray=R:=⟨_,rfl⟩;rw[hN,hR] at CG;rw[hN,hR];clear hls hcnt hle hm hN hR
  go_enter Tryz.func74,Tryz.ntmps74
  go_wp2_with fail
  refine CG.out.mono ?_;rintro e w1 ⟨rfl,rfl⟩
  go_wp2_with fail
  go_ret
  exact⟨rfl,rfl⟩
def zfO (o:Nat→List UInt8) (k:Nat):List UInt8:=(List.range k).flatMap o
theorem ziH (o:Nat→List UInt8) (k:Nat):zfO o (k+1)=zfO o k++o k:=by
  unfold zfO;rw[List.range_succ,List.flatMap_append];simp
theorem zks (o:Nat→List UInt8) (B:Nat) (h:∀ i,(o i).length≤B):∀ k,(zfO o k).length≤B*k
  | 0=>by simp[zfO]
  | k+1=>by
    have:=zks o B h k;have:=h k;rw[ziH,List.length_append,Nat.mul_succ];omega
theorem zrG {T e t0:TypeId} {B b q:Nat} {bs:List Value} {W W':World} {cs:Array Value} {z:Nat × Nat} (h:Lib.IsBuilderF T e B b bs W) (hq:W.heap[q]?=some (.cells cs t0 z)) (h1:t0≠T) (h2:t0≠e) (ho:Only q W W'):Lib.IsBuilderF T e B b bs W' :=
  zcH h fun k c t fz hk ht=>ho.block k (zab hk) fun e'=>by
    subst e';rw[hq] at hk;cases hk
    rcases ht with h | h
    · exact h1 h
    · exact h2 h
def deskZ:Array Value:=#[.string ⟨#[]⟩,.string ⟨#[]⟩,.string ⟨#[]⟩,.slice none 0 0,.int .i64 0,.int .i64 0,.slice none 0 0,.slice none 0 0,.int .i64 0,.bool false]
theorem zuv (w:World) (m:Int) (hm:w.cell? ⟨0,0,none⟩=some (.int .i64 m)) (s:ByteArray) (hs:s.size≤60000) (ls:List ByteArray) (hls:Lib.splitB ⟨#[10]⟩ 1 ls.length s=ls++[⟨#[]⟩]) (hcnt:Lib.countB s ⟨#[10]⟩=ls.length) (hle:ls.length≤s.size) (hn:ls.length≤300) (hlz:∀ x∈ls,x.size≤1000000)
    (DI:Nat→Nat→World→Prop) (o:Nat→List UInt8) (ho:∀ i,(o i).length≤1000000)
    (h0:∀ db W,Below w.heap.size w W→w.heap.size≤db→W.heap[db]?=some (.cells deskZ 145 (0,0))→DI 0 db W)
    (hdk:∀ i db W,DI i db W→∃ cs,W.heap[db]?=some (.cells cs 145 (0,0)))
    (hst:∀ i db b cs W W',DI i db W→W.heap[b]?=some (.cells cs 134 (0,0))→Lib.OthersKept 5 (some b) W W'→DI i db W')
    (C:∀ i (x:ByteArray),ls[i]?=some x→∀ db W,Below w.heap.size w W→w.heap.size≤db→DI i db W→Calls Tryz.prog 75 #[.pointer (some ⟨db,0,none⟩),.string ⟨(Lib.trimSuffix x.data.toList [10]).toArray⟩] W fun e w'=>e=.returned (.string ⟨(o i).toArray⟩)∧DI (i+1) db w'∧Only db W w') :
    Calls Tryz.prog 25 #[.string s] w fun e w'=>e=.returned (.tuple #[.string ⟨(zfO o ls.length).toArray⟩,.int .i64 0])∧Below w.heap.size w w':=by
  have CS:=Lib.hid (zib w m hm s (by omega) ls hls hcnt hle)
  have CT:=Lib.hid (fun (x:ByteArray) (h:x.size≤1000000) (W:World)=>Tryz.strings_TrimSuffix x ⟨#[10]⟩ W (by omega))
  have HC:=Lib.hid C;have HO:=Lib.hid ho;have H0:=Lib.hid h0;have HDK:=Lib.hid hdk;have HST:=Lib.hid hst;have HLZ:=Lib.hid hlz;have HOL:=Lib.hid (zks o 1000000 ho);clear C ho h0 hdk hst hlz hls hcnt hle hm;obtain⟨N,hN⟩:∃ N,ls.length=N:=⟨_,rfl⟩;rw[hN] at CS hn ⊢;obtain⟨R,hR⟩:∃ R,((ls++[(⟨#[]⟩:ByteArray)]).map Value.string).toArray=R:=⟨_,rfl⟩;rw[hR] at CS;obtain⟨z,hz⟩:∃ z,w.heap.size=z:=⟨_,rfl⟩;have HN:=Lib.hid hN;have HR:=Lib.hid hR
  have hRN:R[N]?=some (.string ⟨#[]⟩):=by
    rw[←hR,←hN];simp
  have hx1:=zae w (.cells R 9) z hz.symm;have hB1:=zk5 (Below.refl w.heap.size w) (.cells R 9);have cN:=(zaa hx1 N).trans hRN;have HX1:=Lib.hid hx1;have HB1:=Lib.hid hB1;have d1:decide ((s.size:Int) > 60000)=false:=decide_eq_false (by omega)
  have d2:decide (60000<(s.size:Int))=false:=decide_eq_false (by omega)
  have d3:decide (300<(N:Int))=false:=decide_eq_false (by omega)
  have w1:IntKind.i64.wrap ((N:Int)+1-1)=(N:Int):=(IntWalk.i64_in _ (by omega)).trans (by omega)
  have w2:IntKind.i64.wrap (((N+1:Nat):Int)-1)=(N:Int):=(IntWalk.i64_in _ (by omega)).trans (by omega)
  have hz2:z<(w.alloc (.cells R 9)).heap.size:=zab hx1;obtain⟨db,hdb⟩:∃ db,(w.alloc (.cells R 9)).heap.size=db:=⟨_,rfl⟩;clear hR hRN hx1 hB1
  go_enter Tryz.func25,Tryz.ntmps25
  go_wp2_with fail
  refine CS.out.mono ?_;rintro e W1 ⟨rfl,rfl⟩;rw[hz];generalize w.alloc (.cells R 9)=W1 at *
  clear CS
  go_upto_region 8 with (fail)
  obtain⟨bb,hbb⟩:∃ bb,(W1.alloc (.cells deskZ 145)).heap.size=bb:=⟨_,rfl⟩;have hbb2:bb=db+1:=by rw[←hbb];simp[hdb]
  have hxd:((W1.alloc (.cells deskZ 145)).alloc (.cells #[.pointer none,.slice none 0 0] 134)).heap[db]?=some (Obj.cells deskZ 145 (0,0)):=zah _ (zae _ _ _ hdb.symm);have hxb:((W1.alloc (.cells deskZ 145)).alloc (.cells #[.pointer none,.slice none 0 0] 134)).heap[bb]?=some (Obj.cells #[.pointer none,.slice none 0 0] 134 (0,0)):=zae _ _ _ hbb.symm;have hxz:((W1.alloc (.cells deskZ 145)).alloc (.cells #[.pointer none,.slice none 0 0] 134)).heap[z]?=some (Obj.cells R 9 (0,0)):=zah _ (zah _ HX1.out);have hBe:=zk5 (zk5 HB1.out (.cells deskZ 145)) (.cells #[.pointer none,.slice none 0 0] 134);have hsz:=zwL hBe;have HBL:Hid (Lib.IsBuilderF 134 5 bb bb (Lib.byteCells (zfO o 0)) ((W1.alloc (.cells deskZ 145)).alloc (.cells #[.pointer none,.slice none 0 0] 134))):=.inl ⟨Nat.le_refl _,_,hxb,⟨rfl,.inl ⟨rfl,rfl⟩⟩,by simp[Value.ownBlock]⟩
  have hwd:w.heap.size≤db:=by rw[←hdb];exact HB1.out.size
  have HDI:=Lib.hid (H0.out db _ hBe hwd hxd);have HX:=Lib.hid hxz;have HB:=Lib.hid hBe;have hzd:z<db:=by rw[←hdb];exact hz2
  have HW:Hid (w.heap.size≤db∧w.heap.size≤bb∧z<db∧z<bb):=⟨hwd,by omega,hzd,by omega⟩
  clear hzd;unfold deskZ at HBL HDI HX HB;rw[←hbb2];clear hbb2;clear hbb hxd hxb hxz hBe hsz hwd HX1 HB1 cN H0;generalize (W1.alloc (.cells #[.string ⟨#[]⟩,.string ⟨#[]⟩,.string ⟨#[]⟩,.slice none 0 0,.int .i64 0,.int .i64 0,.slice none 0 0,.slice none 0 0,.int .i64 0,.bool false] 145)).alloc (.cells #[.pointer none,.slice none 0 0] 134)=W2 at *
  go_wp2_with fail
  go_loopw [33] (fun kv wr=>∃ k:Nat,k≤N∧kv=.int .i64 k∧Hid (Lib.IsBuilderF 134 5 bb bb (Lib.byteCells (zfO o k)) wr)∧Hid (DI k db wr)∧Hid (wr.heap[z]?=some (Obj.cells R 9 (0,0)))∧Hid (Below w.heap.size w wr)) (fun kv _=>N+1-(intOf kv).toNat)
  case atStart=>exact⟨0,by omega,rfl,HBL,HDI,HX,HB⟩
  case round =>
    clear HBL HDI HX HB;obtain⟨k,hk,rfl,HBL,HDI,HX,HB⟩:=hrel
    by_cases hlt:k<N
    · have hd:decide ((k:Int)<(N:Int))=true:=decide_eq_true (by omega)
      obtain⟨x,hx⟩:∃ x,ls[k]?=some x:=⟨_,List.getElem?_eq_getElem (by rw[HN.out];exact hlt)⟩
      have ck:wr.cell? ⟨z,k,none⟩=some (.string x):=(zaa HX.out k).trans (by
        rw[←HR.out];have:k<ls.length:=by rw[HN.out];exact hlt
        rw[List.getElem?_toArray,List.getElem?_map,List.getElem?_append_left this,hx];rfl)
      have HT:=Lib.hid (CT.out x (HLZ.out x (List.mem_of_getElem? hx)) wr);have HCk:=Lib.hid (HC.out k x hx db wr HB.out HW.out.1 HDI.out);obtain⟨X,hX⟩:∃ X:ByteArray,(⟨(Lib.trimSuffix x.data.toList [10]).toArray⟩:ByteArray)=X:=⟨_,rfl⟩;obtain⟨T,hT⟩:∃ T:ByteArray,(⟨(o k).toArray⟩:ByteArray)=T:=⟨_,rfl⟩;have HTS:Hid (T.size=(o k).length):=by show _=_;rw[←hT];rfl
      rw[hX] at HT;rw[hX,hT] at HCk;have hk1:(k:Int)<(N:Int):=by omega
      have hk0:(0:Int)≤(k:Int):=by omega
      have HTT:=Lib.hid hT;clear hx hX hT
      go_wp2_with fail
      refine HT.out.mono ?_;rintro e w3 ⟨rfl,rfl⟩;clear HT
      go_wp2_with fail
      refine HCk.out.mono ?_;rintro e w4 ⟨rfl,hDI4,hO4⟩;obtain⟨cs,hcs⟩:=HDK.out _ _ _ HDI.out;have hbl4:=zrG HBL.out hcs (by decide) (by decide) hO4
      have hX4:=hO4.other HX.out (Nat.ne_of_lt HW.out.2.2.1);have hB4:=hO4.bel HB.out HW.out.1 (Nat.le_refl _);obtain⟨cb,hcb⟩:=zeM hbl4
      have hlen:(Lib.byteCells (zfO o k)).length+T.size≤140737488355328:=by
        have h1:=HOL.out k;have h2:=HO.out k;rw[Lib.byteCells_length,HTS.out];omega
      have CW:=Lib.hid (Tryz.Builder_WriteString_k bb bb _ T _ hbl4 hlen (by have:=zab hcb;omega))
      have HDI4:=Lib.hid (fun W' (hO:Lib.OthersKept 5 (some bb) w4 W')=>HST.out _ _ _ _ _ W' hDI4 hcb hO);have HX4:=Lib.hid hX4;have HB4:=Lib.hid hB4;clear HCk hcs hbl4 hX4 hB4 hDI4 hO4 hcb hlen HBL HDI HX HB ck w1 w2 d1 d2 d3 hz hdb hz2 hN hk1 hk0 hd
      go_wp2_with fail
      refine CW.out.mono ?_;rintro e w5 ⟨rfl,hb5,hB5,hO5⟩
      have HBL5:Hid (Lib.IsBuilderF 134 5 bb bb (Lib.byteCells (zfO o (k+1))) w5):=.inr (by
        have h1:Lib.byteCells (zfO o k)++Lib.strCells T=Lib.byteCells (zfO o (k+1)):=by
          rw[ziH,←HTT.out];simp[Lib.byteCells,Lib.strCells]
        rw[←h1];exact hb5)
      have HDI5:=Lib.hid (HDI4.out w5 hO5);have HX5:Hid (w5.heap[z]?=some (Obj.cells R 9 (0,0))):=hO5 z _ HX4.out (fun e=>by cases e;have:=HW.out.2.2.2;omega) (fun c fz e=>by cases e)
      have HB5:Hid (Below w.heap.size w w5):=HB4.out.trans (hB5.mono HW.out.2.1);clear hb5 hB5 hO5 HDI4 HX4 HB4 CW
      go_wp2_with fail
      go_roundw
      case rel=>exact⟨k+1,by omega,by go_num,HBL5,HDI5,HX5,HB5⟩
      case measure=>simp[intOf];omega
    · obtain rfl:k=N:=by omega
      have hbl:=HBL.out;obtain⟨cb,hcb⟩:=zeM hbl;have CF:=Lib.hid (Tryz.Builder_String_any_k bb bb (zfO o k) wr hbl (by have:=zab hcb;omega))
      clear hbl hcb w1 w2 d1 d2 d3 hz hdb hz2 HST HDK HC CT HOL HO HLZ hN HR
      go_wp2_with fail
      refine CF.out.mono ?_;rintro e w5 ⟨rfl,-,hB5,-⟩;have HB5:Hid (Below w.heap.size w w5):=HB.out.trans (hB5.mono HW.out.2.1);clear hB5 CF HBL HB HX HDI
      go_wp2_with fail
      go_ret2
      exact⟨rfl,HB5.out⟩
theorem zov (ps:List Part) (k:Nat):(zbh (ps.take k)).length≤(zbh ps).length:=by
  have h:zbh ps=zbh (ps.take k)++zbh (ps.drop k):=by
    unfold zbh;rw[←List.flatMap_append,List.take_append_drop]
  rw[h,List.length_append];omega
theorem zeG (i:Nat) (S:Strm):zbh (S.parts i)=S.ts.flatten:=by
  unfold zbh;rw[List.flatMap_def,Strm.parts_t]
theorem zgx (S:Strm):zc5 [S]=if S.good then S.parts 0 else []:=by
  unfold zc5;cases h:S.good <;> simp[zbT,zhS,h]
theorem zmb (l:List Nat) (h:∀ x∈l,x<4294967296):zhU l<4294967296:=by
  have:∀ (l:List Nat) (a:Nat),a<4294967296→(∀ x∈l,x<4294967296)→l.foldl zlh a<4294967296:=by
    intro l
    induction l with
    | nil=>intro a ha _;exact ha
    | cons x l ih=>intro a ha h;exact ih _ (znt a x ha (h x (by simp))) fun y hy=>h y (by simp[hy])
  exact this l 0 (by omega) h
theorem zsj (ts:List (List UInt8)):zhU (ts.map zby)<4294967296:=zmb _ fun x hx=>by
  obtain⟨t,-,rfl⟩:=List.mem_map.1 hx;exact zdE t
theorem zdB (lv:Nat) (ts:List (List UInt8)) (z:Nat) (h1:1≤lv) (h9:lv≤9) (hok:∀ t∈ts,zdw (40*lv) t) (hz:z<4294967296) (hn:ts.length≤1000) (hb:(za3 ts).length≤7900000) (ht:ts.flatten.length≤100000) :
    ∃ pad,Readable (txt (zbq lv ts z)) [⟨lv,ts,z,pad⟩]:=by
  obtain⟨pad,hA⟩:=zoK lv ts z h1 h9 hok hz
  have hl:(zc5 [⟨lv,ts,z,pad⟩]).length≤ts.length∧(zbh (zc5 [⟨lv,ts,z,pad⟩])).length≤ts.flatten.length:=by
    rw[zgx];split
    · rw[Strm.length_parts,zeG]
      exact⟨Nat.le_refl _,Nat.le_refl _⟩
    · exact⟨Nat.zero_le _,Nat.zero_le _⟩
  refine⟨pad,⟨?_,by simp,hA,?_,?_,by omega,fun k=>?_⟩⟩
  · rw[zgO,zaS]
    omega
  · intro S hS
    simp at hS;subst hS
    show ts.length≤_
    omega
  · have h2:(evs 0 [⟨lv,ts,z,pad⟩]).length≤ts.length+1:=by
      rw[evs];split <;> simp[evs,Strm.length_parts]
    omega
  · have:=zov (zc5 [⟨lv,ts,z,pad⟩]) k
    omega
theorem zh8 (lv:Nat) (x:List UInt8) (h1:1≤lv) (h9:lv≤9) (hx:x.length≤250) :
    ∃ L,Readable (txt (zhy lv x)) L∧zbT L=true∧zbh (zc5 L)=x∧zc5 L=zhS 0 L∧∃ pad,L=[⟨lv,zbD (40*lv:Nat) x,zhU ((zbD (40*lv:Nat) x).map zby),pad⟩]:=by
  have hok:=zli lv h1 x;have hlen:=zfg ((40*lv:Nat):Int) (by omega) _ x (Nat.le_refl _)
  have hj:=zoF ((40*lv:Nat):Int) (by omega) x
  have hbl:=zh0 (room:=40*lv) (by omega) _ hok
  unfold zhy;obtain⟨ts,hts⟩:∃ ts,zbD ((40*lv:Nat):Int) x=ts:=⟨_,rfl⟩;rw[hts] at hok hlen hj hbl ⊢;obtain⟨pad,hR⟩:=zdB lv ts (zhU (ts.map zby)) h1 h9 hok (zsj _) (by omega) (by omega) (by rw[hj];omega)
  have hg:zbT [(⟨lv,ts,zhU (ts.map zby),pad⟩:Strm)]=true:=by simp[zbT,Strm.good]
  refine⟨_,hR,hg,?_,by rw[zc5,if_pos hg],pad,rfl⟩
  rw[zgx,if_pos (by simp[Strm.good]),zeG]
  exact hj
theorem zpT (l:List UInt8):4*zaU l≤5*l.length:=by
  induction hn:l.length using Nat.strongRecOn generalizing l with
  | ind n ih =>
    by_cases h:l=[]
    · subst h;simp[zaU,zbu]
    · have h1:=zbW h
      have h3:=zeF l;have h4:(l.drop (zbE l)).length=l.length-zbE l:=by simp
      have h5:=ih _ (by omega) (l.drop (zbE l)) rfl
      have h7:4*zba (zbE l)≤5*zbE l:=by unfold zba;split <;> omega
      rw[zcK h];omega
theorem zlu {t:List UInt8} (h:t≠[]) (hl:t.length≤30):zdw 40 t:=⟨h,by have:=zpT t;omega⟩
theorem znp (S:Strm):zbh (zc5 [S])=(if S.good then S.ts.flatten else [])∧ziF [S]=(if S.good then 0 else 7):=by
  constructor
  · rw[zgx]
    split
    · exact zeG 0 S
    · rfl
  · unfold ziF
    cases h:S.good <;> simp[zbT,h]
def zuf (f:Nat) (p:Part):List Value:=[.int .i64 (p.at0:Nat),.int .i64 (p.room:Nat),.int .i64 (f:Nat),.int .i64 (p.t.length:Nat),.int .u32 (zby p.t:Nat)]
def zcb:Nat→List Part→List Value
  | _,[]=>[]
  | f,p::ps=>zuf f p++zcb (f+p.t.length) ps
theorem ze9:∀ (ps:List Part) (f:Nat) (p:Part),zcb f (ps++[p])=zcb f ps++zuf (f+(zbh ps).length) p
  | [],f,p=>by simp[zcb,zbh]
  | q::ps,f,p=>by
    rw[List.cons_append,zcb,ze9 ps,zcb,List.append_assoc];congr 3
    simp[zbh];omega
theorem zsH:ElemT 29 56 (.agg #[.int .i64 0,.int .i64 0,.int .i64 0,.int .i64 0,.int .u32 0]) 5 40:=⟨Tryz.underlying29,by kernel_rfl,rfl,by decide⟩
theorem zvb {w:World} {base n c:Nat} {q:Option Addr} {ps:List Part} (h:w.ownsRow base 87 4 (.slice q n c) n (zaR ps)) (hn:ps.length=n) (j:Nat) (hj:j<n) :
    ∃ g o p,q=some ⟨g,o,none⟩∧g<w.heap.size∧ps[j]?=some p∧w.cell? ⟨g,o+j*4,none⟩=some (.string ⟨p.t.toArray⟩)∧w.cell? ⟨g,o+j*4+1,none⟩=some (.int .u32 (zby p.t:Nat))∧w.cell? ⟨g,o+j*4+2,none⟩=some (.int .i64 (p.at0:Nat))∧w.cell? ⟨g,o+j*4+3,none⟩=some (.int .i64 (p.next:Nat)):=by
  obtain⟨g,o,hq,hg,hc⟩:=(Rd.own h).cellAt (by omega)
  have hp:ps[j]?=some (ps[j]'(by omega)):=List.getElem?_eq_getElem (by omega)
  have hcell:∀ i x,(zjw (ps[j]'(by omega)))[i]?=some x→(zaR ps)[j*4+i]?=some x:=by
    intro i x hi
    have hi5:i<4:=by
      have:=(List.getElem?_eq_some_iff.1 hi).1;simpa [zjw] using this
    have hs:zaR ps=zaR (ps.take j)++(zjw (ps[j]'(by omega))++zaR (ps.drop (j+1))):=by
      have h1:ps=ps.take j++(ps[j]'(by omega)::ps.drop (j+1)):=by simp
      unfold zaR
      conv=>lhs;rw[h1,List.flatMap_append,List.flatMap_cons]
    rw[hs,List.getElem?_append_right (by rw[zdH,List.length_take];omega),zdH,List.length_take,List.getElem?_append_left (by simp[zjw];omega)]
    rw[show j*4+i-min j ps.length*4=i by rw[Nat.min_eq_left (by omega)];omega]
    exact hi
  refine⟨g,o,_,hq,hg,hp,?_,?_,?_,?_⟩
  · exact hc (j*4+0) _ (hcell 0 _ rfl)
  · exact hc (j*4+1) _ (hcell 1 _ rfl)
  · exact hc (j*4+2) _ (hcell 2 _ rfl)
  · exact hc (j*4+3) _ (hcell 3 _ rfl)
theorem zp6 {w:World} {base n c:Nat} {q:Option Addr} {ps:List Part} (h:w.ownsRow base 3 1 (.slice q n c) n (zbM ps)) (hn:ps.length=n) (j:Nat) (p:Part) (hp:ps[j]?=some p) :
    ∃ g o,q=some ⟨g,o,none⟩∧g<w.heap.size∧w.cell? ⟨g,o+j,none⟩=some (.int .i64 (p.room:Nat)):=by
  have hj:=(List.getElem?_eq_some_iff.1 hp).1;obtain⟨g,o,hq,hg,hc⟩:=(Rd.own h).cellAt (by omega)
  exact⟨g,o,hq,hg,hc j _ (by simp[zbM,hp])⟩
theorem zs6 (s:ByteArray) (w:World) (hs:s.size≤1000000) (L:List Strm) (hL:L≠[]) (hA:zdI s.data.toList 0 L) (hLs:∀ S∈L,S.ts.length≤100000) (hev:(evs 0 L).length≤1000000) (hN:(zc5 L).length≤1000000) (htx:∀ k,(zbh ((zc5 L).take k)).length≤100000000) :
    Calls Tryz.prog 10 #[.string s] w fun e w'=>∃ v,e=.returned (.tuple #[v,.int .i64 (ziF L)])∧w'.ownsRow w.heap.size 56 5 v (zc5 L).length (zcb 0 (zc5 L))∧Below w.heap.size w w':=by
  have CB:=Lib.hid (fun W=>zm1 s W hs L hL hA hLs hev hN);have CR:=Lib.hid (fun W=>zo0 s W hs L hL hA hLs hev hN);cases hgd:zbT L with
  | false =>
    have hps:zc5 L=[]:=by unfold zc5;rw[hgd];rfl
    have her:ziF L=7:=by unfold ziF;rw[hgd];rfl
    rw[hps,her] at CB;rw[hps,her];clear CR hA hLs hev hN htx hL hps her hgd
    go_enter Tryz.func10,Tryz.ntmps10
    go_wp2_with fail
    refine (CB.out _).mono ?_;rintro e w1 ⟨v,rfl,hrow,hB1⟩;obtain⟨vq,vc,rfl⟩:=zaB hrow;have HB:=Lib.hid hB1;clear hrow hB1 CB
    go_wp2_with fail
    go_ret2
    exact⟨.slice none 0 0,rfl,World.ownsRow_nil _ _ _ _,HB.out⟩
  | true =>
    have her:ziF L=0:=by unfold ziF;rw[hgd];rfl
    obtain⟨ps,hps⟩:∃ ps,zc5 L=ps:=⟨_,rfl⟩;obtain⟨N,hNe⟩:∃ N,ps.length=N:=⟨_,rfl⟩;rw[hps,her,hNe] at CB CR;rw[hps] at hN htx ⊢;rw[her];rw[hNe] at hN ⊢;have HN:=Lib.hid hNe;have HTX:=Lib.hid htx;clear hA hLs hev hL hps her hNe htx hgd
    go_enter Tryz.func10,Tryz.ntmps10
    go_wp2_with fail
    refine (CB.out _).mono ?_;rintro e w1 ⟨v,rfl,hrow,hB1⟩;obtain⟨vq,vc,rfl⟩:=zaB hrow;have HB1:=Lib.hid hB1;have HR1:=Lib.hid hrow;clear hrow hB1 CB
    go_wp2_with fail
    refine (CR.out _).mono ?_;rintro e w2 ⟨v,rfl,hrow,hB2⟩;obtain⟨uq,uc,rfl⟩:=zaB hrow;have HB:=Lib.hid (HB1.out.trans (hB2.mono HB1.out.size));have HR:=Lib.hid (zag HR1.out hB2);have HU:=Lib.hid (zcF hrow HB1.out.size);clear hrow hB2 CR HB1 HR1
    go_wp2_with fail
    go_loopw [25,7,2] (fun kv fv ov wr=>∃ k:Nat,k≤N∧kv=.int .i64 k∧(∃ f:Nat,fv=.int .i64 f∧f≤100000000∧Hid (f=(zbh (ps.take k)).length)∧∃ oq oc,ov=.slice oq k oc∧Hid (wr.ownsRow w.heap.size 56 5 ov k (zcb 0 (ps.take k))))∧Hid (wr.ownsRow w.heap.size 87 4 (.slice vq N vc) N (zaR ps))∧Hid (wr.ownsRow w.heap.size 3 1 (.slice uq N uc) N (zbM ps))∧Hid (Below w.heap.size w wr)) (fun kv _ _ _=>N+1-(intOf kv).toNat)
    case atStart=>exact⟨0,by omega,rfl,⟨0,rfl,by omega,rfl,_,_,rfl,Lib.hid (World.ownsRow_nil _ _ _ _)⟩,HR,HU,HB⟩
    case round =>
      clear HR HU HB;obtain⟨k,hk,rfl,⟨f,rfl,hf,HF,oq,oc,rfl,HO⟩,HR,HU,HB⟩:=hrel
      by_cases hlt:k<N
      · have hd:decide ((k:Int)<(N:Int))=true:=decide_eq_true (by omega)
        obtain⟨g,o,p,hq,hg,hp,c0,c1,c2,c3⟩:=zvb HR.out HN.out k hlt;obtain⟨g4,o4,hq4,hg4,r0⟩:=zp6 HU.out HN.out k p hp;subst hq hq4;obtain⟨T,hT⟩:∃ T:ByteArray,(⟨p.t.toArray⟩:ByteArray)=T:=⟨_,rfl⟩;obtain⟨c,hc⟩:∃ c,zby p.t=c:=⟨_,rfl⟩;have hTs:T.size=p.t.length:=by rw[←hT];rfl
        have hf2:f+T.size≤100000000:=by
          have h1:=HTX.out (k+1);rw[zdV hp] at h1;have h2:(zbh (ps.take k++[p])).length=(zbh (ps.take k)).length+p.t.length:=by simp[zbh]
          rw[h2,←HF.out,←hTs] at h1;exact h1
        have hwf:IntKind.i64.wrap ((f:Int)+(T.size:Int))=((f+T.size:Nat):Int):=by rw[IntWalk.i64_in _ (by omega)];omega
        rw[hT] at c0;rw[hc] at c1;have hki:(k:Int)<(N:Int):=by omega
        have hk0:(0:Int)≤(k:Int):=by omega
        have HP:=Lib.hid hp;have HC:=Lib.hid hc;have HTS:=Lib.hid hTs;have HF2:=Lib.hid hf2;clear hp hc hT hTs hf2
        go_upto_region 9 with (fail)
        obtain⟨bb,hbb⟩:∃ bb,wr.heap.size=bb:=⟨_,rfl⟩;have hX:(wr.alloc (.cells #[.string T,.int .u32 (c:Nat),.int .i64 (p.at0:Nat),.int .i64 (p.next:Nat)] 87)).heap[bb]?=some (Obj.cells #[.string T,.int .u32 (c:Nat),.int .i64 (p.at0:Nat),.int .i64 (p.next:Nat)] 87 (0,0)):=zae _ _ _ hbb.symm;have hal:=zk5 (Below.refl wr.heap.size wr) (.cells #[.string T,.int .u32 (c:Nat),.int .i64 (p.at0:Nat),.int .i64 (p.next:Nat)] 87);have HO8:=Lib.hid (zag HO.out hal);have HR8:=Lib.hid (zag HR.out hal);have HU8:=Lib.hid (zag HU.out hal);have HB8:=Lib.hid (zvS hal HB.out);have HX8:=Lib.hid hX;have hr8:=(World.cell?_of_block (w:=wr) (hal.block g4 hg4)).trans r0;have hbz:=HB.out.size;rw[hbb] at hbz hg4 ⊢;obtain⟨z8,hz8⟩:∃ z8,(wr.alloc (.cells #[.string T,.int .u32 (c:Nat),.int .i64 (p.at0:Nat),.int .i64 (p.next:Nat)] 87)).heap.size=z8:=⟨_,rfl⟩;have hz9:z8=bb+1:=by rw[←hz8];simp[hbb]
        have hb1:bb<z8:=by omega
        have hb2:g4<z8:=by omega
        have hb3:w.heap.size≤z8:=by omega
        clear hz9 hX hal hbb HO HR HU HB c0 c1 c2 c3 r0 hg hg4;generalize wr.alloc (.cells #[.string T,.int .u32 (c:Nat),.int .i64 (p.at0:Nat),.int .i64 (p.next:Nat)] 87)=W8 at *
        have m0:=(zaa HX8.out 0).trans rfl;have m1:=(zaa HX8.out 1).trans rfl;have m2:=(zaa HX8.out 2).trans rfl
        have HkW:Hid (∀ w':World,Below W8.heap.size W8 w'→w'.cell? ⟨bb,0,none⟩=some (.string T)∧w'.cell? ⟨bb,1,none⟩=some (.int .u32 (c:Nat))∧w'.cell? ⟨bb,2,none⟩=some (.int .i64 (p.at0:Nat))∧w'.cell? ⟨g4,o4+k,none⟩=some (.int .i64 (p.room:Nat))):=fun w' h=>by
          have h2:=(h.block bb (zab HX8.out)).trans HX8.out;exact⟨(zaa h2 0).trans rfl,(zaa h2 1).trans rfl,(zaa h2 2).trans rfl,(World.cell?_of_block (w:=W8) (h.block g4 (by rw[hz8];exact hb2))).trans hr8⟩
        have hbW:Below W8.heap.size W8 W8:=Below.refl _ _
        go_region_held3 (fun w'=>w'.cell? ⟨bb,0,none⟩=some (.string T)∧w'.cell? ⟨bb,1,none⟩=some (.int .u32 (c:Nat))∧w'.cell? ⟨bb,2,none⟩=some (.int .i64 (p.at0:Nat))∧w'.cell? ⟨g4,o4+k,none⟩=some (.int .i64 (p.room:Nat)))
          ((first | exact HkW.out _ hbW | exact HkW.out _ (zwd hbW) | exact HkW.out _ (zk5 hbW _) | exact HkW.out _ (zwd (zk5 hbW _)) | exact HkW.out _ (zk5 (zwd hbW) _) | exact HS2.out | fail))
          ((first
            | (refine zca zsH (by rfl) _ _ (by rfl) w.heap.size _ k (zcb 0 (ps.take k)) (by rfl) (HO8.out.alloc _) (z8+1) 1 _ [.int .i64 (p.at0:Nat),.int .i64 (p.room:Nat),.int .i64 (f:Nat),.int .i64 (T.size:Nat),.int .u32 (c:Nat)] (by rfl) (Rd.mono (zap (zae _ _ _ hz8.symm) rfl (by rfl) (by simp[maxLen])) (by simp;omega)) (by intro c hc;simp at hc;rcases hc with rfl | rfl | rfl | rfl | rfl <;> rfl) (by omega) (by omega) (by simp;omega) ?_
               intro q2 c2 w2 hown2 hg2 hat2;have hbL:=zk5 (zwd hbW) (.cells #[.int .i64 (p.at0:Nat),.int .i64 (p.room:Nat),.int .i64 (f:Nat),.int .i64 (T.size:Nat),.int .u32 (c:Nat)] 56);have hO2:=zag HO8.out hbL;have HU9:=Lib.hid (zck (zag HU8.out hbL) hO2 (by decide) hg2)
               have HR9:=Lib.hid (zck (zag HR8.out hbL) hO2 (by decide) hg2)
               have hx2:=(hbL.block bb (zab HX8.out)).trans HX8.out
               have HX9:Hid (w2.heap[bb]?=some (Obj.cells #[.string T,.int .u32 (c:Nat),.int .i64 (p.at0:Nat),.int .i64 (p.next:Nat)] 87 (0,0))):=(hg2.block bb (zab hx2) (fun e=>by
                 obtain⟨cu,hcu⟩:=zaN hO2 e.symm;rw[hx2] at hcu;injection hcu with hcu
                 injection hcu with _ hcu
                 exact absurd hcu (by decide))).trans hx2
               have HB9:Hid (Below w.heap.size w w2):=(HB8.out.trans (hbL.mono HB8.out.size)).grown hg2 (by simp;omega) (fun r e=>zaF HO8.out e)
               have HO9:=Lib.hid hown2
               have HS2:Hid (w2.cell? ⟨bb,0,none⟩=some (.string T)∧w2.cell? ⟨bb,1,none⟩=some (.int .u32 (c:Nat))∧w2.cell? ⟨bb,2,none⟩=some (.int .i64 (p.at0:Nat))∧w2.cell? ⟨g4,o4+k,none⟩=some (.int .i64 (p.room:Nat))):=by
                 refine⟨(zaa HX9.out 0).trans rfl,(zaa HX9.out 1).trans rfl,(zaa HX9.out 2).trans rfl,?_⟩;obtain⟨g',o',hq',-,h'⟩:=zp6 HU9.out HN.out k p HP.out;cases hq'
                 exact h'
               clear hown2 hg2 hat2 hbL hO2 hx2)
            | fail))
        have n0:=HS2.out.1;clear HS2 m0 m1 m2 hr8 hbW HkW HO8 HR8 HU8 HB8 HX8 hz8 hb1 hb2 hb3
        try clear hHeld
        go_wp2_with fail
        go_roundw
        case rel =>
          refine⟨k+1,by omega,by go_num,⟨f+T.size,by first | rfl | go_num,HF2.out,?_,q2,c2,rfl,?_⟩,HR9,HU9,HB9⟩
          · show _=_
            rw[zdV HP.out,HF.out,HTS.out];simp[zbh]
          · show World.ownsRow _ _ _ _ _ _ _
            have h1:=HO9.out;rw[zdV HP.out,ze9,←HF.out,Nat.zero_add];simp only[zuf,HC.out,←HTS.out];exact h1
        case measure=>simp[intOf];omega
      · obtain rfl:k=N:=by omega
        have htk:ps.take k=ps:=List.take_of_length_le (by rw[HN.out];exact Nat.le_refl _)
        rw[htk] at HO;clear htk
        go_wp2_with fail
        go_ret2
        exact⟨_,rfl,HO.out,HB.out⟩
end Go.Proofs.YtoejfkeofbdalaaGreatDoor
