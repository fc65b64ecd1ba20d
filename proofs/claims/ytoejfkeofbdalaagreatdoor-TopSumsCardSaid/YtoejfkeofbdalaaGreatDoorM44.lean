import Derived.Test.YtoejfkeofbdalaaGreatDoorM43
set_option linter.unusedVariables false
set_option maxRecDepth 100000
set_option maxHeartbeats 8000000
namespace Go.Proofs.YtoejfkeofbdalaaGreatDoor
open Go.RowKit
theorem zeM {T e:TypeId} {B b:Nat} {bs:List Value} {w:World} (h:Lib.IsBuilderF T e B b bs w):∃ cs,w.heap[b]?=some (Obj.cells cs T (0,0)):=by
  rcases h with ⟨_,v,h,_⟩ | ⟨_,v,h,_⟩ <;> exact⟨_,h⟩
theorem zok {w w':World} {base e size n b:Nat} {T:TypeId} {v:Value} {xs:List Value} {cs:Array Value} (h:w.ownsRow base e size v n xs) (ho:Lib.OthersKept 5 (some b) w w') (hb:w.heap[b]?=some (Obj.cells cs T (0,0))) (hT:T≠e) (he:e≠5):w'.ownsRow base e size v n xs:=by
  refine⟨h.1,?_⟩;rcases h.2 with h0 | ⟨g,cap,cur,e1,e2,e3,e4⟩
  · exact .inl h0
  · exact .inr ⟨g,cap,cur,e1,e2,ho _ _ e3 (by intro h;cases h;rw[hb] at e3;injection e3 with e3;injection e3 with _ e3;exact hT e3) (by intro c fz h;cases h;exact he rfl),e4⟩
theorem zmw {w:World} {base n c:Nat} {q:Option Addr} {ps:List Part} (h:w.ownsRow base 136 5 (.slice q n c) n (zaD ps)) (hn:ps.length=n) (j:Nat) (hj:j<n) :
    ∃ g o p,q=some ⟨g,o,none⟩∧g<w.heap.size∧ps[j]?=some p∧w.cell? ⟨g,o+j*5,none⟩=some (.string ⟨p.t.toArray⟩)∧w.cell? ⟨g,o+j*5+1,none⟩=some (.int .u32 (zby p.t:Nat))∧w.cell? ⟨g,o+j*5+2,none⟩=some (.int .i64 (p.at0:Nat))∧w.cell? ⟨g,o+j*5+3,none⟩=some (.int .i64 (p.next:Nat))∧w.cell? ⟨g,o+j*5+4,none⟩=some (.int .i64 (p.room:Nat)):=by
  obtain⟨g,o,hq,hg,hc⟩:=(Rd.own h).cellAt (by omega)
  have hp:ps[j]?=some (ps[j]'(by omega)):=List.getElem?_eq_getElem (by omega)
  have hcell:∀ i x,(zcI (ps[j]'(by omega)))[i]?=some x→(zaD ps)[j*5+i]?=some x:=by
    intro i x hi
    have hi5:i<5:=by
      have:=(List.getElem?_eq_some_iff.1 hi).1;simpa [zcI] using this
    have hs:zaD ps=zaD (ps.take j)++(zcI (ps[j]'(by omega))++zaD (ps.drop (j+1))):=by
      have h1:ps=ps.take j++(ps[j]'(by omega)::ps.drop (j+1)):=by simp
      unfold zaD
      conv=>lhs;rw[h1,List.flatMap_append,List.flatMap_cons]
    rw[hs,List.getElem?_append_right (by rw[zdq,List.length_take];omega),zdq,List.length_take,List.getElem?_append_left (by simp[zcI];omega)]
    rw[show j*5+i-min j ps.length*5=i by rw[Nat.min_eq_left (by omega)];omega]
    exact hi
  refine⟨g,o,_,hq,hg,hp,?_,?_,?_,?_,?_⟩
  · exact hc (j*5+0) _ (hcell 0 _ rfl)
  · exact hc (j*5+1) _ (hcell 1 _ rfl)
  · exact hc (j*5+2) _ (hcell 2 _ rfl)
  · exact hc (j*5+3) _ (hcell 3 _ rfl)
  · exact hc (j*5+4) _ (hcell 4 _ rfl)
def zbh (ps:List Part):List UInt8:=ps.flatMap (·.t)
theorem zkr (s:ByteArray) (w:World) (hs:s.size≤1000000) (L:List Strm) (hL:L≠[]) (hA:zdI s.data.toList 0 L) (hLs:∀ S∈L,S.ts.length≤100000) (hev:(evs 0 L).length≤1000000) (hN:(zc5 L).length≤1000000) (htx:∀ k,(zbh ((zc5 L).take k)).length≤100000000) :
    Calls Tryz.prog 21 #[.string s] w fun e w'=>e=.returned (.tuple #[.string ⟨(zbh (zc5 L)).toArray⟩,.int .i64 (ziF L)])∧Below w.heap.size w w':=by
  have CA:=Lib.hid (fun W=>zjP s W hs L hL hA hLs hev);obtain⟨ps,hps⟩:∃ ps,zc5 L=ps:=⟨_,rfl⟩;obtain⟨er,her⟩:∃ er,ziF L=er:=⟨_,rfl⟩;obtain⟨N,hNe⟩:∃ N,ps.length=N:=⟨_,rfl⟩;rw[hps,her] at CA;rw[hps] at hN htx ⊢;rw[her];rw[hNe] at hN CA;have HN:=Lib.hid hNe;have HTX:=Lib.hid htx;clear hA hLs hev hL hps her hNe htx
  go_enter Tryz.func21,Tryz.ntmps21
  go_wp2_with fail
  refine (CA.out _).mono ?_;rintro e w1 ⟨v,rfl,hrow,hB1⟩;obtain⟨vq,vc,rfl⟩:=zaB hrow
  go_upto_region 3 with (fail)
  obtain⟨b,hb⟩:∃ b,w1.heap.size=b:=⟨_,rfl⟩;have hx:(w1.alloc (.cells #[.pointer none,.slice none 0 0] 134)).heap[b]?=some (Obj.cells #[.pointer none,.slice none 0 0] 134 (0,0)):=zae _ _ _ hb.symm;have HBL:Hid (Lib.IsBuilderF 134 5 b b (Lib.byteCells (zbh (ps.take 0))) (w1.alloc (.cells #[.pointer none,.slice none 0 0] 134))):=.inl ⟨Nat.le_refl _,_,hx,⟨rfl,.inl ⟨rfl,rfl⟩⟩,by simp[Value.ownBlock]⟩
  have hB2:=zk5 (Below.refl w1.heap.size w1) (.cells #[.pointer none,.slice none 0 0] 134);have HB:=Lib.hid (hB1.trans (hB2.mono hB1.size));have HR:=Lib.hid (zag hrow hB2);have HWB:Hid (w.heap.size≤b):=by show _≤_;rw[←hb];exact hB1.size
  rw[hb];clear hx hB2 hrow hB1 hb CA;generalize w1.alloc (.cells #[.pointer none,.slice none 0 0] 134)=W2 at *
  go_wp2_with fail
  go_loopw [16] (fun kv wr=>∃ k:Nat,k≤N∧kv=.int .i64 k∧Hid (Lib.IsBuilderF 134 5 b b (Lib.byteCells (zbh (ps.take k))) wr)∧Hid (wr.ownsRow (w.heap.size+2) 136 5 (.slice vq N vc) N (zaD ps))∧Hid (Below w.heap.size w wr)) (fun kv _=>N+1-(intOf kv).toNat)
  case atStart=>exact⟨0,by omega,rfl,HBL,HR,HB⟩
  case round =>
    clear HBL HR HB;obtain⟨k,hk,rfl,HBL,HR,HB⟩:=hrel
    by_cases hlt:k<N
    · have hd:decide ((k:Int)<(N:Int))=true:=decide_eq_true (by omega)
      obtain⟨g,o,p,hq,hg,hp,c0,c1,c2,c3,c4⟩:=zmw HR.out HN.out k hlt;subst hq;obtain⟨T,hT⟩:∃ T:ByteArray,(⟨p.t.toArray⟩:ByteArray)=T:=⟨_,rfl⟩;obtain⟨c,hc⟩:∃ c,zby p.t=c:=⟨_,rfl⟩;rw[hT] at c0;rw[hc] at c1;have hki:(k:Int)<(N:Int):=by omega
      have hk0:(0:Int)≤(k:Int):=by omega
      have HP:=Lib.hid hp;have HT:=Lib.hid hT;clear hp hc hT
      go_wp2_with fail
      have hal:=zk5 (Below.refl wr.heap.size wr) (.cells #[.string T,.int .u32 (c:Nat),.int .i64 (p.at0:Nat),.int .i64 (p.next:Nat),.int .i64 (p.room:Nat)] 136);have hbl:=zoe HBL.out hal;obtain⟨cs,hcs⟩:=zeM hbl;have hro:=zag HR.out hal;have hbe:=zvS hal HB.out
      have hcat:Lib.byteCells (zbh (ps.take k))++Lib.strCells T=Lib.byteCells (zbh (ps.take (k+1))):=by
        have h1:ps.take (k+1)=ps.take k++[p]:=by
          obtain⟨hlt2,he⟩:=List.getElem?_eq_some_iff.1 HP.out;rw[List.take_succ_eq_append_getElem hlt2,he]
        rw[h1];unfold zbh;rw[List.flatMap_append,←HT.out];simp[Lib.byteCells,Lib.strCells]
      have hlen:(Lib.byteCells (zbh (ps.take k))).length+T.size≤140737488355328:=by
        have h1:=HTX.out (k+1);have h2:=congrArg List.length hcat;rw[List.length_append,Lib.strCells_length,Lib.byteCells_length,Lib.byteCells_length] at h2;rw[Lib.byteCells_length];omega
      have CW:=Lib.hid (Tryz.Builder_WriteString_k b b _ T _ hbl hlen (by have:=zab hcs;omega))
      refine CW.out.mono ?_;rintro e w5 ⟨rfl,hb5,hB5,hO5⟩;have HBL5:Hid (Lib.IsBuilderF 134 5 b b (Lib.byteCells (zbh (ps.take (k+1)))) w5):=.inr (by rw[←hcat];exact hb5)
      have HR5:=Lib.hid (zok hro hO5 hcs (by decide) (by decide))
      have HB5:Hid (Below w.heap.size w w5):=hbe.trans (hB5.mono HWB.out);clear hal hbl hcs hro hbe hcat hlen hb5 hB5 hO5 CW HBL HR HB
      go_wp2_with fail
      go_roundw
      case rel=>exact⟨k+1,by omega,by go_num,HBL5,HR5,HB5⟩
      case measure=>simp[intOf];omega
    · obtain rfl:k=N:=by omega
      have htk:ps.take k=ps:=List.take_of_length_le (by rw[HN.out];exact Nat.le_refl _)
      have hbl:=HBL.out;rw[htk] at hbl;obtain⟨cs,hcs⟩:=zeM hbl;have CS:=Lib.hid (Tryz.Builder_String_any_k b b (zbh ps) wr hbl (by have:=zab hcs;omega))
      clear hbl hcs htk
      go_wp2_with fail
      refine CS.out.mono ?_;rintro e w5 ⟨rfl,-,hB5,-⟩;have HB5:Hid (Below w.heap.size w w5):=HB.out.trans (hB5.mono HWB.out);clear hB5 CS HBL HR HB
      go_wp2_with fail
      go_ret2
      exact⟨rfl,HB5.out⟩
def digT:List UInt8:=[48,49,50,51,52,53,54,55,56,57,97,98,99,100,101,102]
def ziY (k:Nat):UInt8:=digT.getD k 0
def zeR (l:List UInt8):List UInt8:=l.flatMap fun b=>[ziY (b.toNat / 16),ziY (b.toNat % 16)]
theorem zpQ (l:List UInt8) (b:UInt8):zeR (l++[b])=(zeR l++[ziY (b.toNat / 16)])++[ziY (b.toNat % 16)]:=by simp[zeR]
theorem zdb (l:List UInt8):(zeR l).length=2*l.length:=by
  induction l with
  | nil=>rfl
  | cons b l ih =>
    have:zeR (b::l)=[ziY (b.toNat / 16),ziY (b.toNat % 16)]++zeR l:=by simp[zeR]
    rw[this,List.length_append,ih];simp;omega
theorem ztW (k:Nat) (h:k<(⟨#[48,49,50,51,52,53,54,55,56,57,97,98,99,100,101,102]⟩:ByteArray).size):(((⟨#[48,49,50,51,52,53,54,55,56,57,97,98,99,100,101,102]⟩:ByteArray)[k]'h).toNat:Nat)=(ziY k).toNat:=by
  have h2:k<16:=h;have:k=0∨k=1∨k=2∨k=3∨k=4∨k=5∨k=6∨k=7∨k=8∨k=9∨k=10∨k=11∨k=12∨k=13∨k=14∨k=15:=by omega
  rcases this with rfl | rfl | rfl | rfl | rfl | rfl | rfl | rfl | rfl | rfl | rfl | rfl | rfl | rfl | rfl | rfl <;> rfl
theorem zuV (s:ByteArray) (w:World) (hs:s.size≤1000000) :
    Calls Tryz.prog 23 #[.string s] w fun e w'=>e=.returned (.string ⟨(zeR s.data.toList).toArray⟩)∧Below w.heap.size w w':=by
  go_enter Tryz.func23,Tryz.ntmps23
  go_upto_region 2 with (fail)
  obtain⟨b,hb⟩:∃ b,w.heap.size=b:=⟨_,rfl⟩;have hx:(w.alloc (.cells #[.pointer none,.slice none 0 0] 134)).heap[b]?=some (Obj.cells #[.pointer none,.slice none 0 0] 134 (0,0)):=zae _ _ _ hb.symm;have HBL:Hid (Lib.IsBuilderF 134 5 b b (Lib.byteCells (zeR (s.data.toList.take 0))) (w.alloc (.cells #[.pointer none,.slice none 0 0] 134))):=.inl ⟨Nat.le_refl _,_,hx,⟨rfl,.inl ⟨rfl,rfl⟩⟩,by simp[Value.ownBlock]⟩
  have HB:=Lib.hid (zk5 (Below.refl w.heap.size w) (.cells #[.pointer none,.slice none 0 0] 134));have HWB:Hid (w.heap.size≤b):=Nat.le_of_eq hb;rw[hb];clear hx hb;generalize w.alloc (.cells #[.pointer none,.slice none 0 0] 134)=W2 at *
  go_wp2_with fail
  go_loopw [7] (fun kv wr=>∃ k:Nat,k≤s.size∧kv=.int .i64 k∧Hid (Lib.IsBuilderF 134 5 b b (Lib.byteCells (zeR (s.data.toList.take k))) wr)∧Hid (Below w.heap.size w wr)) (fun kv _=>s.size+1-(intOf kv).toNat)
  case atStart=>exact⟨0,by omega,rfl,HBL,HB⟩
  case round =>
    clear HBL HB;obtain⟨k,hk,rfl,HBL,HB⟩:=hrel
    by_cases hlt:k<s.size
    · have hd:decide ((k:Int)<(s.size:Int))=true:=decide_eq_true (by omega)
      obtain⟨x,hx⟩:∃ x,s[k]'hlt=x:=⟨_,rfl⟩;have hxt:s.data.toList.take (k+1)=s.data.toList.take k++[x]:=by rw[←hx];rw[List.take_succ_eq_append_getElem (by simpa using hlt)];rfl
      have HX:=Lib.hid hxt;have hx256:=x.toNat_lt;have hc1:(0:Int)≤(x.toNat:Int) / 16:=by omega
      have hc2:(x.toNat:Int) / 16<16:=by omega
      clear hxt
      go_wp2_with fail
      rw[ztW (x.toNat / 16) (by show x.toNat / 16<16;omega)]
      have hbl:=HBL.out;obtain⟨cs,hcs⟩:=zeM hbl
      have hln:(zeR (s.data.toList.take k)).length≤2000000:=by
        rw[zdb,List.length_take];omega
      have CW:=Lib.hid (Tryz.Builder_WriteByte_k b b _ ((ziY (x.toNat / 16)).toNat:Nat) wr hbl (by rw[Lib.byteCells_length];omega) (by have:=zab hcs;omega))
      obtain⟨d1,hd1⟩:∃ d1,ziY (x.toNat / 16)=d1:=⟨_,rfl⟩;rw[hd1] at CW ⊢;refine CW.out.mono ?_;rintro e w5 ⟨rfl,hb5,hB5,-⟩;have hcat:Lib.byteCells (zeR (s.data.toList.take k))++[.int .u8 (d1.toNat:Nat)]=Lib.byteCells (zeR (s.data.toList.take k)++[d1]):=by simp[Lib.byteCells]
      rw[hcat] at hb5;have HBL5:=Lib.hid hb5;have HB5:Hid (Below w.heap.size w w5):=HB.out.trans (hB5.mono HWB.out);have HD1:=Lib.hid hd1;clear hbl hcs hcat hb5 hB5 CW HBL HB hd1 hc1 hc2
      go_wp2_with fail
      rw[ztW (x.toNat % 16) (by show x.toNat % 16<16;omega)]
      obtain⟨cs,hcs⟩:=zeM (.inr HBL5.out:Lib.IsBuilderF 134 5 b b _ w5);have CW:=Lib.hid (Tryz.Builder_WriteByte_k b b _ ((ziY (x.toNat % 16)).toNat:Nat) w5 (.inr HBL5.out) (by rw[Lib.byteCells_length,List.length_append];simp;omega) (by have:=zab hcs;omega))
      obtain⟨d2,hd2⟩:∃ d2,ziY (x.toNat % 16)=d2:=⟨_,rfl⟩;rw[hd2] at CW ⊢;refine CW.out.mono ?_;rintro e w6 ⟨rfl,hb6,hB6,-⟩
      have hcat:Lib.byteCells (zeR (s.data.toList.take k)++[d1])++[.int .u8 (d2.toNat:Nat)]=Lib.byteCells (zeR (s.data.toList.take (k+1))):=by
        rw[HX.out,zpQ,HD1.out,hd2];simp[Lib.byteCells]
      rw[hcat] at hb6;have HBL6:Hid (Lib.IsBuilderF 134 5 b b (Lib.byteCells (zeR (s.data.toList.take (k+1)))) w6):=.inr hb6;have HB6:Hid (Below w.heap.size w w6):=HB5.out.trans (hB6.mono HWB.out);clear hcs hcat hb6 hB6 CW HBL5 HB5 hd2 hln
      go_wp2_with fail
      go_roundw
      case rel=>exact⟨k+1,by omega,by go_num,HBL6,HB6⟩
      case measure=>simp[intOf];omega
    · obtain rfl:k=s.size:=by omega
      have htk:s.data.toList.take s.size=s.data.toList:=List.take_of_length_le (by simp)
      have hbl:=HBL.out;rw[htk] at hbl;obtain⟨cs,hcs⟩:=zeM hbl;have CS:=Lib.hid (Tryz.Builder_String_any_k b b (zeR s.data.toList) wr hbl (by have:=zab hcs;omega))
      clear hbl hcs htk
      go_wp2_with fail
      refine CS.out.mono ?_;rintro e w5 ⟨rfl,-,hB5,-⟩;have HB5:Hid (Below w.heap.size w w5):=HB.out.trans (hB5.mono HWB.out);clear hB5 CS HBL HB
      go_wp2_with fail
      go_ret
      exact⟨rfl,HB5.out⟩
theorem zrH (k:Nat) (h:k<16):Lib.indexByte [48,49,50,51,52,53,54,55,56,57,97,98,99,100,101,102] (ziY k)=(k:Int):=by
  have:k=0∨k=1∨k=2∨k=3∨k=4∨k=5∨k=6∨k=7∨k=8∨k=9∨k=10∨k=11∨k=12∨k=13∨k=14∨k=15:=by omega
  rcases this with rfl | rfl | rfl | rfl | rfl | rfl | rfl | rfl | rfl | rfl | rfl | rfl | rfl | rfl | rfl | rfl <;> decide
theorem zsf (l:List UInt8):∀ (i:Nat) (b:UInt8),l[i]?=some b→(zeR l)[2*i]?=some (ziY (b.toNat / 16))∧(zeR l)[2*i+1]?=some (ziY (b.toNat % 16)):=by
  induction l with
  | nil=>intro i b h;simp at h
  | cons a l ih =>
    intro i b h;have hc:zeR (a::l)=ziY (a.toNat / 16)::ziY (a.toNat % 16)::zeR l:=by simp[zeR]
    rw[hc];cases i with
    | zero =>
      simp at h;subst h;exact⟨rfl,rfl⟩
    | succ i =>
      have h2:=ih i b (by simpa using h)
      rw[show 2*(i+1)=2*i+1+1 by omega]
      simpa using h2
def zjw (p:Part):List Value:=[.string ⟨p.t.toArray⟩,.int .u32 (zby p.t:Nat),.int .i64 (p.at0:Nat),.int .i64 (p.next:Nat)]
def zaR (ps:List Part):List Value:=ps.flatMap zjw
theorem zj3 (ps:List Part) (p:Part):zaR (ps++[p])=zaR ps++zjw p:=by simp[zaR]
theorem zdH (ps:List Part):(zaR ps).length=ps.length*4:=by
  induction ps with
  | nil=>rfl
  | cons p ps ih =>
    have:zaR (p::ps)=zjw p++zaR ps:=by simp[zaR]
    rw[this,List.length_append,ih];simp[zjw];omega
theorem zsc:ElemT 82 87 (.agg #[.string ⟨#[]⟩,.int .u32 0,.int .i64 0,.int .i64 0]) 4 40:=⟨Tryz.underlying82,by kernel_rfl,rfl,by decide⟩
theorem zdV {ps:List Part} {k:Nat} {p:Part} (h:ps[k]?=some p):ps.take (k+1)=ps.take k++[p]:=by
  obtain⟨hlt2,he⟩:=List.getElem?_eq_some_iff.1 h;rw[List.take_succ_eq_append_getElem hlt2,he]
def zbM (ps:List Part):List Value:=ps.map fun p=>.int .i64 (p.room:Nat)
theorem zii (ps:List Part) (p:Part):zbM (ps++[p])=zbM ps++[.int .i64 (p.room:Nat)]:=by simp[zbM]
theorem zck {a b:World} {base base2 e e2 size size2 n m:Nat} {v u:Value} {xs ys:List Value} (h:a.ownsRow base e size v n xs) (hr:a.ownsRow base2 e2 size2 u m ys) (hne:e≠e2) (hg:a.grownBy b u.ownBlock):b.ownsRow base e size v n xs:=by
  refine World.ownsRow.kept h hg ?_;cases hv:v.ownBlock with
  | none=>exact .inl rfl
  | some g =>
    refine .inr fun e'=>?_;obtain⟨c,hc⟩:=zaN h hv;obtain⟨c2,hc2⟩:=zaN hr e'.symm;rw[hc] at hc2;injection hc2 with hc2
    injection hc2 with _ hc2
    exact hne hc2
theorem zm1 (s:ByteArray) (w:World) (hs:s.size≤1000000) (L:List Strm) (hL:L≠[]) (hA:zdI s.data.toList 0 L) (hLs:∀ S∈L,S.ts.length≤100000) (hev:(evs 0 L).length≤1000000) (hN:(zc5 L).length≤1000000) :
    Calls Tryz.prog 39 #[.string s] w fun e w'=>∃ v,e=.returned (.tuple #[v,.int .i64 (ziF L)])∧w'.ownsRow w.heap.size 87 4 v (zc5 L).length (zaR (zc5 L))∧Below w.heap.size w w':=by
  have CA:=Lib.hid (fun W=>zjP s W hs L hL hA hLs hev);obtain⟨ps,hps⟩:∃ ps,zc5 L=ps:=⟨_,rfl⟩;obtain⟨er,her⟩:∃ er,ziF L=er:=⟨_,rfl⟩;obtain⟨N,hNe⟩:∃ N,ps.length=N:=⟨_,rfl⟩;rw[hps,her] at CA;rw[hps] at hN ⊢;rw[her];rw[hNe] at hN CA ⊢;have HN:=Lib.hid hNe;clear hA hLs hev hL hps her hNe
  go_enter Tryz.func39,Tryz.ntmps39
  go_wp2_with fail
  refine (CA.out _).mono ?_;rintro e w1 ⟨v,rfl,hrow,hB1⟩;obtain⟨vq,vc,rfl⟩:=zaB hrow;have HB:=Lib.hid hB1;have HR:=Lib.hid hrow;clear hrow hB1 CA
  go_wp2_with fail
  go_loopw [14,2] (fun kv ov wr=>∃ k:Nat,k≤N∧kv=.int .i64 k∧∃ oq oc,ov=.slice oq k oc∧Hid (wr.ownsRow w.heap.size 87 4 ov k (zaR (ps.take k)))∧Hid (wr.ownsRow (w.heap.size+2) 136 5 (.slice vq N vc) N (zaD ps))∧Hid (Below w.heap.size w wr)) (fun kv _ _=>N+1-(intOf kv).toNat)
  case atStart=>exact⟨0,by omega,rfl,_,_,rfl,Lib.hid (World.ownsRow_nil _ _ _ _),HR,HB⟩
  case round =>
    clear HR HB;obtain⟨k,hk,rfl,oq,oc,rfl,HO,HR,HB⟩:=hrel
    by_cases hlt:k<N
    · have hd:decide ((k:Int)<(N:Int))=true:=decide_eq_true (by omega)
      obtain⟨g,o,p,hq,hg,hp,c0,c1,c2,c3,c4⟩:=zmw HR.out HN.out k hlt;subst hq;obtain⟨T,hT⟩:∃ T:ByteArray,(⟨p.t.toArray⟩:ByteArray)=T:=⟨_,rfl⟩;obtain⟨c,hc⟩:∃ c,zby p.t=c:=⟨_,rfl⟩;rw[hT] at c0;rw[hc] at c1;have hki:(k:Int)<(N:Int):=by omega
      have hk0:(0:Int)≤(k:Int):=by omega
      have HP:=Lib.hid hp;have HT:=Lib.hid hT;have HC:=Lib.hid hc;have hbz:=HB.out.size;obtain⟨z,hz⟩:∃ z,wr.heap.size=z:=⟨_,rfl⟩;have hgz:g<z:=by omega
      have hal:=zk5 (Below.refl wr.heap.size wr) (.cells #[.string T,.int .u32 (c:Nat),.int .i64 (p.at0:Nat),.int .i64 (p.next:Nat),.int .i64 (p.room:Nat)] 136);have HAL:=Lib.hid hal;clear hp hc hT hal
      go_wp2_with
        (at_builtin
         refine zav zsc (by rfl) _ _ (by rfl) w.heap.size _ k (zaR (ps.take k)) (by rfl) ((HO.out.alloc _).alloc _) (z+2) 1 _ [.string T,.int .u32 (c:Nat),.int .i64 (p.at0:Nat),.int .i64 (p.next:Nat)] (by rfl) (Rd.mono (zap (zae _ _ _ (by simp[hz])) rfl (by rfl) (by simp[maxLen])) (by simp[hz])) (by intro c hc;simp at hc;rcases hc with rfl | rfl | rfl | rfl <;> rfl) (by omega) (by omega) (by simp;omega) ?_
         intro q2 c2 w2 hown2 hg2 hat2;have hR2:=zag HR.out (zk5 HAL.out (.cells #[.string T,.int .u32 (c:Nat),.int .i64 (p.at0:Nat),.int .i64 (p.next:Nat)] 87));have hO2:=zag HO.out (zk5 HAL.out (.cells #[.string T,.int .u32 (c:Nat),.int .i64 (p.at0:Nat),.int .i64 (p.next:Nat)] 87));have HR2:=Lib.hid (zck hR2 hO2 (by decide) hg2)
         have HB2:Hid (Below w.heap.size w w2):=(HB.out.trans ((zk5 HAL.out (.cells #[.string T,.int .u32 (c:Nat),.int .i64 (p.at0:Nat),.int .i64 (p.next:Nat)] 87)).mono HB.out.size)).grown hg2 (by simp;omega) (fun r e=>zaF HO.out e)
         have HO2:=Lib.hid hown2;clear hown2 hg2 hat2 hR2 hO2)
      go_roundw
      case rel =>
        refine⟨k+1,by omega,by go_num,q2,c2,rfl,?_,HR2,HB2⟩
        show World.ownsRow _ _ _ _ _ _ _
        rw[zdV HP.out,zj3];simpa [zjw,HT.out,HC.out] using HO2.out
      case measure=>simp[intOf];omega
    · obtain rfl:k=N:=by omega
      have htk:ps.take k=ps:=List.take_of_length_le (by rw[HN.out];exact Nat.le_refl _)
      rw[htk] at HO;clear htk
      go_wp2_with fail
      go_ret2
      exact⟨_,rfl,HO.out,HB.out⟩
theorem zo0 (s:ByteArray) (w:World) (hs:s.size≤1000000) (L:List Strm) (hL:L≠[]) (hA:zdI s.data.toList 0 L) (hLs:∀ S∈L,S.ts.length≤100000) (hev:(evs 0 L).length≤1000000) (hN:(zc5 L).length≤1000000) :
    Calls Tryz.prog 40 #[.string s] w fun e w'=>∃ v,e=.returned (.tuple #[v,.int .i64 (ziF L)])∧w'.ownsRow w.heap.size 3 1 v (zc5 L).length (zbM (zc5 L))∧Below w.heap.size w w':=by
  have CA:=Lib.hid (fun W=>zjP s W hs L hL hA hLs hev);obtain⟨ps,hps⟩:∃ ps,zc5 L=ps:=⟨_,rfl⟩;obtain⟨er,her⟩:∃ er,ziF L=er:=⟨_,rfl⟩;obtain⟨N,hNe⟩:∃ N,ps.length=N:=⟨_,rfl⟩;rw[hps,her] at CA;rw[hps] at hN ⊢;rw[her];rw[hNe] at hN CA ⊢;have HN:=Lib.hid hNe;clear hA hLs hev hL hps her hNe
  go_enter Tryz.func40,Tryz.ntmps40
  go_wp2_with fail
  refine (CA.out _).mono ?_;rintro e w1 ⟨v,rfl,hrow,hB1⟩;obtain⟨vq,vc,rfl⟩:=zaB hrow;have HB:=Lib.hid hB1;have HR:=Lib.hid hrow;clear hrow hB1 CA
  go_wp2_with fail
  go_loopw [14,2] (fun kv ov wr=>∃ k:Nat,k≤N∧kv=.int .i64 k∧∃ oq oc,ov=.slice oq k oc∧Hid (wr.ownsRow w.heap.size 3 1 ov k (zbM (ps.take k)))∧Hid (wr.ownsRow (w.heap.size+2) 136 5 (.slice vq N vc) N (zaD ps))∧Hid (Below w.heap.size w wr)) (fun kv _ _=>N+1-(intOf kv).toNat)
  case atStart=>exact⟨0,by omega,rfl,_,_,rfl,Lib.hid (World.ownsRow_nil _ _ _ _),HR,HB⟩
  case round =>
    clear HR HB;obtain⟨k,hk,rfl,oq,oc,rfl,HO,HR,HB⟩:=hrel
    by_cases hlt:k<N
    · have hd:decide ((k:Int)<(N:Int))=true:=decide_eq_true (by omega)
      obtain⟨g,o,p,hq,hg,hp,c0,c1,c2,c3,c4⟩:=zmw HR.out HN.out k hlt;subst hq;obtain⟨T,hT⟩:∃ T:ByteArray,(⟨p.t.toArray⟩:ByteArray)=T:=⟨_,rfl⟩;obtain⟨c,hc⟩:∃ c,zby p.t=c:=⟨_,rfl⟩;rw[hT] at c0;rw[hc] at c1;have hki:(k:Int)<(N:Int):=by omega
      have hk0:(0:Int)≤(k:Int):=by omega
      have HP:=Lib.hid hp;have HT:=Lib.hid hT;have HC:=Lib.hid hc;have hbz:=HB.out.size;obtain⟨z,hz⟩:∃ z,wr.heap.size=z:=⟨_,rfl⟩;have hgz:g<z:=by omega
      have hal:=zk5 (Below.refl wr.heap.size wr) (.cells #[.string T,.int .u32 (c:Nat),.int .i64 (p.at0:Nat),.int .i64 (p.next:Nat),.int .i64 (p.room:Nat)] 136);have HAL:=Lib.hid hal;clear hp hc hT hal
      go_wp2_with
        (at_builtin
         refine zav (⟨Tryz.underlying67,zcq,rfl,by decide⟩:ElemT 67 3 (.int .i64 0) 1 8) (by rfl) _ _ (by rfl) w.heap.size _ k (zbM (ps.take k)) (by rfl) ((HO.out.alloc _).alloc _) (z+2) 1 _ [.int .i64 (p.room:Nat)] (by rfl) (Rd.mono (zap (zae _ _ _ (by simp[hz])) rfl (by rfl) (by simp[maxLen])) (by simp[hz])) (by intro c hc;simp at hc;subst hc;rfl) (by omega) (by omega) (by simp;omega) ?_
         intro q2 c2 w2 hown2 hg2 hat2;have hR2:=zag HR.out (zk5 HAL.out (.cells #[.int .i64 (p.room:Nat)] 3));have hO2:=zag HO.out (zk5 HAL.out (.cells #[.int .i64 (p.room:Nat)] 3));have HR2:=Lib.hid (zck hR2 hO2 (by decide) hg2)
         have HB2:Hid (Below w.heap.size w w2):=(HB.out.trans ((zk5 HAL.out (.cells #[.int .i64 (p.room:Nat)] 3)).mono HB.out.size)).grown hg2 (by simp;omega) (fun r e=>zaF HO.out e)
         have HO2:=Lib.hid hown2;clear hown2 hg2 hat2 hR2 hO2)
      go_roundw
      case rel =>
        refine⟨k+1,by omega,by go_num,q2,c2,rfl,?_,HR2,HB2⟩
        show World.ownsRow _ _ _ _ _ _ _
        rw[zdV HP.out,zii];exact HO2.out
      case measure=>simp[intOf];omega
    · obtain rfl:k=N:=by omega
      have htk:ps.take k=ps:=List.take_of_length_le (by rw[HN.out];exact Nat.le_refl _)
      rw[htk] at HO;clear htk
      go_wp2_with fail
      go_ret2
      exact⟨_,rfl,HO.out,HB.out⟩
theorem zil {w:World} {base:Nat} {v:Value} {xs:List UInt8} (h:OwnBytes w base v xs) (hn:0<xs.length) :
    ∃ g cap,v=.slice (some ⟨g,0,none⟩) xs.length cap∧base≤g∧g<w.heap.size∧(∀ j,j<xs.length→w.cell? ⟨g,j,none⟩=some (.int .u8 ((xs.getD j 0).toNat:Nat)))∧(∀ j,w.frozen? ⟨g,j,none⟩=false) ∧
      (∀ (j:Nat) (x:UInt8),OwnBytes (w.setCell ⟨g,j,none⟩ (.int .u8 (x.toNat:Nat))) base (.slice (some ⟨g,0,none⟩) xs.length cap) (xs.set j x)):=by
  rcases h.2 with ⟨rfl,h0⟩ | ⟨g,cap,cur,rfl,hb,hg,_⟩
  · have:=h.1
    rw[h0] at this;simp[byteCells] at this;subst this;simp at hn
  · refine⟨g,cap,rfl,hb,zab hg,fun j hj=>?_,fun j=>World.ownsRow.frozenAt h j,fun j x=>?_⟩
    · have h1:=World.ownsRow.cellAt h j (by omega)
      rw[h1];simp[byteCells,List.getElem?_map,List.getElem?_eq_getElem hj]
    · have h1:=World.ownsRow.stored h j (.int .u8 (x.toNat:Nat))
      have h2:byteCells (xs.set j x)=(byteCells xs).set j (.int .u8 (x.toNat:Nat)):=by simp[byteCells,List.map_set]
      show World.ownsRow _ _ _ _ _ _ _
      rw[h2,List.length_set];exact h1.1
def zid (x:List UInt8) (k j:Nat):UInt8:=if 2*j+1<k then x.getD j 0 else if 2*j<k then UInt8.ofNat ((x.getD j 0).toNat / 16) else 0
def zbG (x:List UInt8) (k:Nat):List UInt8:=(List.range x.length).map (zid x k)
theorem zeU (x:List UInt8) (k:Nat):(zbG x k).length=x.length:=by simp[zbG]
theorem zn4 (x:List UInt8) (k j:Nat) (h:j<x.length):(zbG x k).getD j 0=zid x k j:=by simp[zbG,List.getD_eq_getElem?_getD,h]
theorem zmu (x:List UInt8):zbG x 0=List.replicate x.length 0:=by
  apply List.ext_getElem
  · simp[zbG]
  · intro j h1 h2
    simp[zbG,zid]
theorem zo6 (x:List UInt8):zbG x (2*x.length)=x:=by
  apply List.ext_getElem
  · simp[zbG]
  · intro j h1 h2
    simp[zbG,zid,h2];omega
theorem zmr (x:List UInt8) (k j:Nat) (b:UInt8) (hj:k / 2=j) (hb:zid x (k+1) j=b):(zbG x k).set j b=zbG x (k+1):=by
  apply List.ext_getElem
  · simp[zbG]
  · intro i h1 h2
    rw[List.getElem_set];simp only[zbG,List.getElem_map,List.getElem_range]
    by_cases h:j=i
    · rw[if_pos h,←h,hb]
    · rw[if_neg h]
      unfold zid;have e1:(2*i+1<k+1)=(2*i+1<k):=propext (by omega)
      have e2:(2*i<k+1)=(2*i<k):=propext (by omega)
      simp only[e1,e2]
theorem zwa (a d:Nat) (ha:a<16) (hd:d<16):bits BinOp.or IntKind.u8 ((a:Int)*16 % 256) (d:Int)=((a*16+d:Nat):Int):=by
  have h:∀ (a d:Fin 16),bits BinOp.or IntKind.u8 ((a.val:Int)*16 % 256) (d.val:Int)=((a.val*16+d.val:Nat):Int):=by decide +kernel
  exact h ⟨a,ha⟩ ⟨d,hd⟩
theorem zti (x:List UInt8) (w:World) (h0:x≠[]) (hx:x.length≤100000) :
    Calls Tryz.prog 198 #[.string ⟨(zeR x).toArray⟩] w fun e w'=>e=.returned (.tuple #[.string ⟨x.toArray⟩,.int .i64 0])∧Below w.heap.size w w':=by
  obtain⟨n,hn⟩:∃ n,x.length=n:=⟨_,rfl⟩;have hn1:n≤100000:=by omega
  have hn0:0<n:=by rw[←hn];exact List.length_pos_iff.2 h0
  obtain⟨s,hs⟩:∃ s:ByteArray,(⟨(zeR x).toArray⟩:ByteArray)=s:=⟨_,rfl⟩;have hsz:s.size=2*n:=by rw[←hs,←hn,←zdb];rfl
  have hget:∀ k,(h:k<s.size)→(s[k]'h)=if k % 2=0 then ziY ((x.getD (k / 2) 0).toNat / 16) else ziY ((x.getD (k / 2) 0).toNat % 16):=by
    intro k hk;have h1:=zew s k hk;have h2:s.data.toList=zeR x:=by rw[←hs]
    have h3:k / 2<x.length:=by omega
    obtain⟨h4,h5⟩:=zsf x (k / 2) (x[k / 2]) (List.getElem?_eq_getElem h3);have h6:x.getD (k / 2) 0=x[k / 2]:=by rw[List.getD_eq_getElem?_getD,List.getElem?_eq_getElem h3];rfl
    rw[h2] at h1;rw[h6]
    by_cases he:k % 2=0
    · rw[if_pos he]
      rw[show 2*(k / 2)=k by omega,h1] at h4
      exact Option.some.inj h4
    · rw[if_neg he]
      rw[show 2*(k / 2)+1=k by omega,h1] at h5
      exact Option.some.inj h5
  rw[hs];obtain⟨S,hS⟩:∃ S,s.size=S:=⟨_,rfl⟩;have hSn:S=2*n:=by omega
  obtain⟨cs,hcs,hmk⟩:=zeo n (by omega)
  have hr1:((s.size:Nat):Int) % 2=0:=by omega
  have hr2:((s.size:Nat):Int).tmod 2=0:=by rw[Int.tmod_eq_emod_of_nonneg (by omega)];omega
  have hq1:((s.size:Nat):Int) / 2=(n:Int):=by omega
  have hq2:((s.size:Nat):Int).tdiv 2=(n:Int):=by rw[Int.tdiv_eq_ediv_of_nonneg (by omega)];omega
  have hwn:IntKind.i64.wrap (n:Int)=(n:Int):=IntWalk.i64_in _ (by omega)
  have HS:=Lib.hid hs;have HN:=Lib.hid hn;have HG:=Lib.hid hget;have HSZ:=Lib.hid hsz;have HCS:=Lib.hid hcs;clear hs hn hget hcs h0 hS hSn hsz
  go_enter Tryz.func198,Tryz.ntmps198
  go_wp2_with fail
  obtain⟨g,hg⟩:∃ g,w.heap.size=g:=⟨_,rfl⟩
  have hO:OwnBytes (w.alloc (.cells cs 5)) g (.slice (some ⟨g,0,none⟩) n n) (zbG x 0):=by
    have h1:cs.size=n:=by rw[←Array.length_toList,HCS.out];simp[byteCells]
    have h2:(zbG x 0).length=n:=by rw[zeU,HN.out]
    show World.ownsRow _ _ _ _ _ _ _
    rw[h2];refine⟨?_,.inr ⟨g,n,cs,rfl,Nat.le_refl _,zae _ _ _ hg.symm,Nat.le_refl _,by unfold maxLen;omega,by rw[h1];omega,?_⟩⟩
    · simp[byteCells,h2]
    · rw[zmu,HN.out,HCS.out]
      first | simp[byteCells] | (rw[List.take_of_length_le (by simp[byteCells])])
  have HO:=Lib.hid hO;have HB:=Lib.hid (zk5 (Below.refl w.heap.size w) (.cells cs 5));have HGW:Hid (w.heap.size=g):=hg;rw[hg];clear hO hg hmk;generalize w.alloc (.cells cs 5)=W1 at *
  go_loopw [17] (fun kv wr=>∃ k:Nat,k≤s.size∧kv=.int .i64 k∧Hid (OwnBytes wr g (.slice (some ⟨g,0,none⟩) n n) (zbG x k))∧Hid (Below w.heap.size w wr)) (fun kv _=>s.size+1-(intOf kv).toNat)
  case atStart=>exact⟨0,by omega,rfl,HO,HB⟩
  case round =>
    clear HO HB;obtain⟨k,hk,rfl,HO,HB⟩:=hrel
    by_cases hlt:k<s.size
    · have hd:decide ((k:Int)<(s.size:Int))=true:=decide_eq_true (by omega)
      have hgk:=HG.out k hlt;obtain⟨j,hj⟩:∃ j,k / 2=j:=⟨_,rfl⟩;have hjn:j<n:=by have:=HSZ.out;omega
      obtain⟨b,hb⟩:∃ b,x.getD j 0=b:=⟨_,rfl⟩;rw[hj,hb] at hgk;have hb256:=b.toNat_lt
      obtain⟨d,hdd⟩:∃ d,d<16∧(s[k]'hlt)=ziY d∧(k % 2=0∧d=b.toNat / 16∨k % 2=1∧d=b.toNat % 16):=by
        by_cases he:k % 2=0
        · rw[if_pos he] at hgk
          exact⟨_,by omega,hgk,.inl ⟨he,rfl⟩⟩
        · rw[if_neg he] at hgk
          exact⟨_,by omega,hgk,.inr ⟨by omega,rfl⟩⟩
      obtain⟨hd16,hsk,hcase⟩:=hdd;obtain⟨y,hy⟩:∃ y,s[k]'hlt=y:=⟨_,rfl⟩
      have CI:Hid (∀ W,Calls Tryz.prog 244 #[.string ⟨#[48,49,50,51,52,53,54,55,56,57,97,98,99,100,101,102]⟩,.int .u8 (y.toNat:Nat)] W fun e w'=>e=.returned (.int .i64 (d:Nat))∧w'=W):=fun W=>by
        have h1:=Tryz.strings_IndexByte ⟨#[48,49,50,51,52,53,54,55,56,57,97,98,99,100,101,102]⟩ (y.toNat:Nat) W;have h2:((y.toNat:Nat):Int).toNat.toUInt8=y:=by simp
        rw[h2,←hy,hsk] at h1;rw[show Lib.indexByte (⟨#[48,49,50,51,52,53,54,55,56,57,97,98,99,100,101,102]⟩:ByteArray).data.toList (ziY d)=(d:Int) from zrH d hd16] at h1
        rw[←hy,hsk];exact h1
      have hln:(zbG x k).length=n:=by rw[zeU,HN.out]
      obtain⟨g2,cap,hv,hbg,hgw,hcell,hfz,hset⟩:=zil HO.out (by omega)
      rw[hln] at hv hset;cases hv
      have hcj:=hcell j (by omega)
      rw[zn4 x k j (by rw[HN.out];exact hjn)] at hcj
      have hfj:=hfz j;have hq3:(k:Int) / 2=(j:Int):=by omega
      have hq4:(k:Int).tdiv 2=(j:Int):=by rw[Int.tdiv_eq_ediv_of_nonneg (by omega)];omega
      have hji:(j:Int)<(n:Int):=by omega
      have hj0:(0:Int)≤(j:Int):=by omega
      have hdn:decide ((d:Int)<0)=false:=decide_eq_false (by omega)
      have hwj:IntKind.i64.wrap (j:Int)=(j:Int):=IntWalk.i64_in _ (by omega)
      have hwd:IntKind.u8.wrap (d:Int)=(d:Int):=by simp[IntKind.wrap,IntKind.signed,IntKind.bits];omega
      obtain⟨p,hp⟩:∃ p,zid x k j=p:=⟨_,rfl⟩;rw[hp] at hcj;have HP:=Lib.hid hp;have hks:k<300000:=by have:=HSZ.out;omega
      have HST:=Lib.hid hset;have HJ:=Lib.hid hj;have HBD:=Lib.hid hb;clear hgk hj hb hsk hcell hfz hset hp hln
      go_wp2_with fail
      refine (CI.out _).mono ?_;rintro e w5 ⟨rfl,rfl⟩
      go_wp2_with fail
      have hp16:p.toNat<16∧p.toNat*16+d=(zid x (k+1) j).toNat:=by
        have h1:=HP.out;have h2:=HJ.out;have h3:=HBD.out;unfold zid at h1 ⊢;rcases hcase with ⟨h4,h5⟩ | ⟨h4,h5⟩
        · rw[if_neg (by omega),if_neg (by omega)] at h1
          rw[if_neg (by omega),if_pos (by omega),h3,←h1,UInt8.toNat_ofNat']
          have:(0:UInt8).toNat=0:=rfl;rw[this];omega
        · rw[if_neg (by omega),if_pos (by omega),h3] at h1
          rw[if_pos (by omega),h3,←h1,UInt8.toNat_ofNat']
          omega
      rw[zwa p.toNat d hp16.1 hd16,hp16.2];have h9:=HST.out j (zid x (k+1) j);rw[zmr x k j _ HJ.out rfl] at h9;refine⟨⟨k+1,by omega,by go_num,h9,zwe HB.out (Nat.le_of_eq HGW.out) _ _⟩,?_⟩
      simp[intOf];omega
    · obtain rfl:k=s.size:=by omega
      have hend:zbG x s.size=x:=by
        rw[HSZ.out,←HN.out];exact zo6 x
      have hO:=HO.out;rw[hend] at hO;have hcv:(convert 89 9 (.slice (some ⟨g,0,none⟩) n n)).run Tryz.prog wr=.ok (.string ⟨x.toArray⟩) wr:=zbb x hO;clear hO hend
      go_wp2_with fail
      go_ret2
      exact⟨rfl,HB.out⟩
end Go.Proofs.YtoejfkeofbdalaaGreatDoor
