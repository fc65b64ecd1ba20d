import Derived.Test.YtoejfkeofbdalaaGreatDoorM33
set_option linter.unusedVariables false
set_option maxRecDepth 100000
set_option maxHeartbeats 8000000
namespace Go.Proofs.YtoejfkeofbdalaaGreatDoor
open Go.RowKit
theorem zqJ (w:World) (v1 v2:Value) (l m:List Nat) (hv:IsInts w w.heap.size v1 (ints l)) (hl:Code l) (hv2:IsInts w w.heap.size v2 (ints m)) (hm:m.length≤1000) (hs:∀ x∈m,x<l.length) :
    Calls Tryz.prog 62 #[v1,v2] w fun e w'=>e=.returned (.tuple #[.agg #[.string (txt (zit l m)),.int .i64 ((zit l m).length:Nat)],.int .i64 0])∧Below w.heap.size w w':=by
  have hx:=hl.most
  have h:=zsZ w v1 v2 l (ints m) hv hl hv2 (by rw[zad];omega) (by
    intro x hx;obtain⟨s,hs',rfl⟩:=List.mem_map.1 hx;have:=hs s hs'
    constructor <;> omega)
  have e:zdn l (ints m)=(zit l m,0):=by
    unfold zdn
    rw[if_pos (by
      intro x hx;obtain⟨s,hs',rfl⟩:=List.mem_map.1 hx;have:=hs s hs';omega)]
    congr 2
    show (m.map (fun a:Nat=>(a:Int))).map Int.toNat=m
    rw[List.map_map]
    conv=>rhs;rw[←List.map_id m]
    apply List.map_congr_left
    intro x _;rfl
  rw[e] at h;exact h
def zqT (m:List Nat) (n i:Nat):List Bool:=zit (za6 m n (zk0 m n i)) (grN m i)
theorem zl4 (s:ByteArray) (room:Int) (w W:World) (rc sb wb o n M G:Nat) (A:ByteArray) (sq tq cq:Option Addr) (sc tc cc:Nat) (va vb:Value) (m:List Nat) (ls:List (List Bool)) (hM:m.length=M) (hM2:M≤60000) (hG:zbX M=G) (h2:2≤n) (h258:n≤258) (hs:∀ x∈m,x<n) (hls:ls.length≤1000)
    (hE:EncAt w W rc sb wb A o (.slice sq M sc) (.slice tq 2 tc) (.slice cq G cc) [(va,ints (za6 m n 0)),(vb,ints (za6 m n 1))] (ints (zal m n)) (ints m) ls)
    (D:List Bool) (hD:((ls++(List.range 2).map fun i=>zbc (za6 m n i))++(List.range G).map (zqT m n)).flatten=D) (hDl:D.length≤549755813888)
    {z1 z2 z3 z4 z5 z6 z7 z8 z9 z10 z11 z12 c:Go.Code} (hc:Tryz.f17.body=some (z1.seq (z2.seq (z3.seq (z4.seq (z5.seq (z6.seq (z7.seq (z8.seq (z9.seq (z10.seq (z11.seq (z12.seq c)))))))))))))
    (Q:Exit→Act→World→Prop) (HQ:Hid (∀ (ts:Array Value) (w':World),ts[4]?.getD undef=.pointer (some ⟨rc,0,none⟩)→ts[5]?.getD undef=.int .i64 0→w'.heap[rc]?=some (.cells #[.string (txt D),.int .i64 (D.length:Nat)] 50 (0,0))→Below w.heap.size w w'→Q .ret { tmps:=ts,defers:=[] } w'))
    {u2 u3 u7 u10 u12 u13 u14 u15 u16 u17 u18 u19 u20 u21 u22 u23 u24 u25 u26 u27 u28 u29 u30 u31 u32 u33 u34 u35 u36 u37 u38 u39 u40 u41 u42 u43 u44 u45 u46 u47 u48 u49 u50 u51 u52 u53 u54 u55 u56 u57 u58 u59 u60 u61 u62 u63 u64 u65 u66 u67 u68 u69 u70 u71 u72 u73 u74 u75 u76 u77 u78 u79 u80 u81 u82 u83 u84 u85 u86 u87 u88 u89 u90 u91 u92 u93 u94 u95 u96 u97 u98 u99 u100 u101 u102 u103 u104 u105 u106 u107:Value} :
    Go.Code.wp Tryz.prog c Q { tmps:=#[.string s,.int .i64 room,u2,u3,.pointer (some ⟨rc,0,none⟩),.int .i64 0,.pointer (some ⟨sb,0,none⟩),u7,.slice tq 2 tc,.slice cq G cc,u10,.pointer (some ⟨wb,0,none⟩),u12,u13,u14,u15,u16,u17,u18,u19,u20,u21,u22,u23,u24,u25,u26,u27,u28,u29,u30,u31,u32,u33,u34,u35,u36,u37,u38,u39,u40,u41,u42,u43,u44,u45,u46,u47,u48,u49,u50,u51,u52,u53,u54,u55,u56,u57,u58,u59,u60,u61,u62,u63,u64,u65,u66,u67,u68,u69,u70,u71,u72,u73,u74,u75,u76,u77,u78,u79,u80,u81,u82,u83,u84,u85,u86,u87,u88,u89,u90,u91,u92,u93,u94,u95,u96,u97,u98,u99,u100,u101,u102,u103,u104,u105,u106,u107],defers:=[] } W:=by
  have HM:=Lib.hid hM;have HG:=Lib.hid hG;have HS:=Lib.hid hs;have HD:=Lib.hid hD;have HE:=Lib.hid hE;have hGle:G≤6000:=by rw[←hG];simp only[zbX];omega
  clear hM hG hs hD hE;simp only[Tryz.f17,Option.some.injEq,Go.Code.seq.injEq] at hc;obtain⟨-,-,-,-,-,-,-,-,-,-,-,-,rfl⟩:=hc
  dsimp only
  go_upto_region 16 with (fail)
  go_wp2_with fail
  go_loopw [71] (fun kv wr=>∃ k:Nat,k≤2∧kv=.int .i64 k∧Hid (EncAt w wr rc sb wb A o (.slice sq M sc) (.slice tq 2 tc) (.slice cq G cc) [(va,ints (za6 m n 0)),(vb,ints (za6 m n 1))] (ints (zal m n)) (ints m) (ls++(List.range k).map fun i=>zbc (za6 m n i)))) (fun kv _=>3-(intOf kv).toNat)
  case atStart=>exact⟨0,by omega,rfl,Lib.hid (by simpa using HE.out)⟩
  case round =>
    clear HE;obtain⟨k,hk,rfl,HE⟩:=hrel
    by_cases hlt:k<2
    · obtain⟨vt,hvt⟩:∃ vt,([(va,ints (za6 m n 0)),(vb,ints (za6 m n 1))]:List SV)[k]?=some (vt,ints (za6 m n k)):=by
        rcases (show k=0∨k=1 by omega) with rfl | rfl
        · exact⟨va,rfl⟩
        · exact⟨vb,rfl⟩
      obtain⟨g,o2,rfl,hg,hci,hiv⟩:=HE.out.isTabs.at k _ hvt;obtain⟨hcd,hcl⟩:=ziv m n k (by rw[HM.out];omega) h2 h258
      obtain⟨qi,di,hve,hdi,-⟩:=hiv.shape;rw[zad,hcl] at hve
      dsimp only at hve hiv hci
      subst hve;have CD:=Lib.hid (zgh wr (.slice qi n di) (za6 m n k) hiv hcd.two hcd.most hcd.fits);clear hvt hiv hcd hcl hg hdi
      go_wp2_with fail
      refine CD.out.mono ?_;rintro e w1 ⟨rfl,hB1⟩;have HE1:=Lib.hid (HE.out.below hB1);clear hB1 HE CD
      go_wp2_with fail
      refine (zgK w1 wb _ _ 0 HE1.out.wr (by simp;omega)).mono ?_
      rintro e w2 ⟨rfl,hw2,hk2⟩;have HE2:=Lib.hid (HE1.out.step hk2 hw2);clear hw2 hk2 HE1
      go_wp2_with fail
      go_roundw
      case rel=>exact⟨k+1,by omega,by go_num,Lib.hid (by have:=HE2.out;rw[List.append_assoc] at this;rw[List.range_succ,List.map_append];exact this)⟩
      case measure=>simp[intOf];omega
    · obtain rfl:k=2:=by omega
      obtain⟨ls2,hls2⟩:∃ ls2,(ls++(List.range 2).map fun i=>zbc (za6 m n i))=ls2:=⟨_,rfl⟩;have hl2:ls2.length≤1002:=by rw[←hls2];simp;omega
      rw[hls2] at HD HE;have kx2:=(zaa HE.out.sq 2).trans rfl;have CG:=Lib.hid (zi3 wr (.slice sq M sc) (ints m) HE.out.isSym (by rw[zad,HM.out];omega))
      clear hls2 hls hlt hk
      go_wp2_with fail
      refine CG.out.mono ?_;rintro e w3 ⟨L,q,gc,rfl,hsl,hLm,hB3⟩
      have hLl:L.length=G:=by
        have:=congrArg List.length hLm;simp only[zdK,List.length_map,List.length_range,zad,HM.out,HG.out] at this;exact this
      obtain⟨gb,hgb⟩:∃ gb,wr.heap.size=gb:=⟨_,rfl⟩;rw[hgb] at hsl;rw[hLl] at hsl ⊢;have HSL:=Lib.hid hsl;have HLL:=Lib.hid hLl;have HLM:=Lib.hid hLm;have HE3:=Lib.hid (HE.out.below hB3);clear hsl hLm hLl hB3 HE CG kx2 hgb
      go_wp2_with fail
      go_loopw [85] (fun kv wr=>∃ k:Nat,k≤G∧kv=.int .i64 k∧Hid (EncAt w wr rc sb wb A o (.slice sq M sc) (.slice tq 2 tc) (.slice cq G cc) [(va,ints (za6 m n 0)),(vb,ints (za6 m n 1))] (ints (zal m n)) (ints m) (ls2++(List.range k).map (zqT m n)))∧Hid (SlOwn wr gb (.slice q G gc) L)) (fun kv _=>G+1-(intOf kv).toNat)
      case atStart=>exact⟨0,by omega,rfl,Lib.hid (by simpa using HE3.out),HSL⟩
      case round =>
        clear HE3 HSL;obtain⟨k,hk,rfl,HE,HSL⟩:=hrel
        by_cases hlt:k<G
        · obtain⟨vg,hvg⟩:∃ vg,L[k]?=some (vg,ints (grN m k)):=by
            have h1:=congrArg (fun l=>l[k]?) HLM.out;simp only[zdK,List.getElem?_map,zad,HM.out,HG.out,List.getElem?_range hlt,Option.map_some,znI] at h1;cases h2:L[k]? with
            | none=>rw[h2] at h1;simp at h1
            | some x=>rw[h2] at h1;simp only[Option.map_some,Option.some.injEq] at h1;exact⟨x.1,by rw[←h1]⟩
          obtain⟨g,o2,hq,hg,hci,hiv⟩:=HSL.out.is.at k _ hvg;obtain⟨g3,o3,hcq,hg3,hcc⟩:=HE.out.isCho.at k (by simp[zal,zad,HM.out,HG.out];exact hlt)
          have hcx:(ints (zal m n))[k]?.getD 0=((zk0 m n k:Nat):Int):=by simp[ints,zal,HM.out,HG.out,List.getElem?_range hlt]
          rw[hcx] at hcc;obtain⟨j,hj⟩:∃ j,zk0 m n k=j:=⟨_,rfl⟩;have hj2:j<2:=by rw[←hj];unfold zk0;split <;> omega
          have hword:zqT m n k=zit (za6 m n j) (grN m k):=by rw[←hj];rfl
          rw[hj] at hcc
          obtain⟨vt,hvt⟩:∃ vt,([(va,ints (za6 m n 0)),(vb,ints (za6 m n 1))]:List SV)[j]?=some (vt,ints (za6 m n j)):=by
            rcases (show j=0∨j=1 by omega) with rfl | rfl
            · exact⟨va,rfl⟩
            · exact⟨vb,rfl⟩
          obtain⟨g4,o4,htq,hg4,hct,hit⟩:=HE.out.isTabs.at j _ hvt;obtain⟨hcd,hcl⟩:=ziv m n j (by rw[HM.out];omega) h2 h258
          dsimp only at hci hct hit hiv
          have CP:=Lib.hid (zqJ wr vt vg (za6 m n j) (grN m k) hit hcd hiv (by have:=zbR m k;omega) (fun x hx=>by rw[hcl];exact HS.out x (zje hx)))
          obtain⟨qg,cg,hvge,-,-⟩:=hiv.shape;obtain⟨qt,ct,hvte,-,-⟩:=hit.shape;rw[←hword] at CP;subst hq hcq htq hvge hvte;clear hvg hvt hiv hit hcd hcl hg hg3 hg4 hword hcx
          go_wp2_with fail
          refine CP.out.mono ?_;rintro e w4 ⟨rfl,hB4⟩;have HE4:=Lib.hid (HE.out.below hB4);have HSL4:=Lib.hid (HSL.out.below hB4);clear hB4 HE HSL CP
          go_wp2_with fail
          refine (zgK w4 wb _ _ 0 HE4.out.wr (by simp;omega)).mono ?_
          rintro e w5 ⟨rfl,hw5,hk5⟩;have HE5:=Lib.hid (HE4.out.step hk5 hw5);have HSL5:=Lib.hid (hk5.sl HSL4.out);clear hw5 hk5 HE4 HSL4
          go_wp2_with fail
          go_roundw
          case rel=>exact⟨k+1,by omega,by go_num,Lib.hid (by have:=HE5.out;rw[List.append_assoc] at this;rw[List.range_succ,List.map_append];exact this),HSL5⟩
          case measure=>simp[intOf];omega
        · obtain rfl:k=G:=by omega
          obtain⟨v,hbox,hown⟩:=HE.out.wr;obtain⟨qw,cw,rfl⟩:=zaB hown;have kw0:=(zaa hbox 0).trans rfl;obtain⟨N5,hN5⟩:∃ N5,(ls2++(List.range k).map (zqT m n)).length=N5:=⟨_,rfl⟩;have hN6:N5≤7002:=by rw[←hN5];simp;omega
          have CC:=Lib.hid (zkE wr _ _ D HD.out (zwv hown) (by rw[hN5];omega))
          rw[hN5] at CC kw0;clear hbox hown hN5 hN6 HSL
          go_wp2_with fail
          refine CC.out.mono ?_;rintro e w4 ⟨rfl,hB4⟩;have HE4:=Lib.hid (HE.out.below hB4);have k0:=(zaa HE4.out.res 0).trans rfl;have k1:=(zaa HE4.out.res 1).trans rfl;have f0:=zac HE4.out.res;have hres:=zaf (zaf HE4.out.res 0 (.string (txt D))) 1 (.int .i64 (D.length:Nat));have hbel:Below w.heap.size w ((w4.setCell ⟨rc,0,none⟩ (.string (txt D))).setCell ⟨rc,1,none⟩ (.int .i64 (D.length:Nat))):=(HE4.out.bel.setCell (p:=⟨rc,0,none⟩) HE4.out.rge _).setCell (p:=⟨rc,1,none⟩) HE4.out.rge _;have HRES:=Lib.hid hres;have HBEL:=Lib.hid hbel;clear hres hbel hB4 HE CC
          go_wp2_with fail
          exact HQ.out _ _ rfl rfl HRES.out HBEL.out
theorem zt2 (t p:List UInt8) (m:List Nat) (n G:Nat) (hm:zbk p=m) (hn:(zai p).length+2=n) (hG:zbX m.length=G) :
    ((zeE t p++(List.range 2).map fun i=>zbc (za6 m n i))++(List.range G).map (zqT m n)).flatten=zoY t p:=by
  unfold zoY zvK zhm zhn;rw[hm,hn,hG];rfl
theorem zsq {l:List UInt8} (h:l≠[]):za5 l≠[]:=by
  intro e;have:=zhI l (l.length:Int) (by omega)
  rw[e] at this;have h2:=zhI [] (l.length:Int) (by simp)
  have h3:za5 []=[]:=by unfold za5 zaz;rfl
  rw[h3,this] at h2;exact h (congrArg Prod.fst h2)
theorem zhB (s:ByteArray) (room:Int) (w:World) (h0:0<s.size) (hs:s.size≤1000000) (hr1:1≤room) (hr:room≤360) (hlen:(zaU s.data.toList:Int)≤room) (hDl:(zoY s.data.toList (za5 s.data.toList)).length≤549755813888) :
    Calls Tryz.prog 17 #[.string s,.int .i64 room] w fun e w'=>e=.returned (.tuple #[.agg #[.string (txt (zoY s.data.toList (za5 s.data.toList))),.int .i64 ((zoY s.data.toList (za5 s.data.toList)).length:Nat)],.int .i64 0])∧Below w.heap.size w w':=by
  obtain⟨t,ht⟩:∃ t,s.data.toList=t:=⟨_,rfl⟩;have htl:t.length=s.size:=by rw[←ht];simp
  have CL:Hid (∀ W,Calls Tryz.prog 53 #[.string s] W fun e w'=>e=.returned (.int .i64 (zaU t:Nat))∧Below W.heap.size W w'):=fun W=>by have:=zna s W hs;rw[ht] at this;exact this
  have CK:Hid (∀ W,Calls Tryz.prog 55 #[.string s] W fun e w'=>e=.returned (.string (zan (za5 t)))∧Below W.heap.size W w'):=fun W=>by have:=zsD s W hs;rw[ht] at this;exact this
  have CC:Hid (∀ W,Calls Tryz.prog 22 #[.string s] W fun e w'=>e=.returned (.int .u32 (zby t:Nat))∧Below W.heap.size W w'):=fun W=>by have:=zf3 s (by omega) W;rw[ht] at this;exact this
  have CF:Hid (∀ W,Calls Tryz.prog 52 #[.int .i64 room] W fun e w'=>e=.returned (.bool true)∧W=w'):=fun W=>by
    have:=zkv room W;rw[decide_eq_true hr1,decide_eq_true hr,Bool.true_and] at this;exact this
  rw[ht] at hlen hDl ⊢;have hpl:(za5 t).length≤360:=by rw[zcC];omega
  have hpn:za5 t≠[]:=zsq (List.ne_nil_of_length_pos (by omega))
  obtain⟨p,hp⟩:∃ p,za5 t=p:=⟨_,rfl⟩;rw[hp] at CK hpl hpn hDl ⊢;obtain⟨m,hm⟩:∃ m,zbk p=m:=⟨_,rfl⟩;obtain⟨M,hM⟩:∃ M,m.length=M:=⟨_,rfl⟩
  have hM2:M≤361:=by
    rw[←hM,←hm,zbk,List.length_append];have:=zcv p;simp;omega
  have hM1:0<M:=by rw[←hM,←hm,zbk];simp
  obtain⟨G,hG⟩:∃ G,zbX M=G:=⟨_,rfl⟩;have hA256:=zaI p;have hA0:0<(zai p).length:=List.length_pos_iff.2 (zb1 hpn);obtain⟨A,hA⟩:∃ A,zan (zai p)=A:=⟨_,rfl⟩;have hAs:A.size=(zai p).length:=by rw[←hA,zas]
  have hAl:A.data.toList=zai p:=by rw[←hA,zax]
  obtain⟨n,hn⟩:∃ n,(zai p).length+2=n:=⟨_,rfl⟩;obtain⟨o,ho⟩:∃ o,zfI p=o:=⟨_,rfl⟩;have ho2:o<360:=by have:=zhL p hpn;omega
  have hmn:∀ x∈m,x<n:=by
    intro x hx;rw[←hm,zbk] at hx;rcases List.mem_append.1 hx with hx | hx
    · have:=zhH p hpn x hx;omega
    · have:x=(zai p).length+1:=by simpa using hx
      omega
  have CS:Hid (∀ W,Calls Tryz.prog 54 #[.string (zan p)] W fun e w'=>∃ q c,e=.returned (.tuple #[sqV A (o:Nat) (.slice q M c),.int .i64 0])∧IsInts w' w'.heap.size (.slice q M c) (ints m)∧Below W.heap.size W w'):=fun W=>by
    have:=zmS (zan p) W (by rw[zas];exact List.length_pos_iff.2 hpn) (by rw[zas];omega)
    rw[zax,hA,ho,hm,hM] at this;exact this
  have CD:Hid (∀ W v,Calls Tryz.prog 57 #[.agg #[.string A,.int .i64 (o:Nat),v]] W fun e w'=>e=.returned (.int .i64 (n:Nat))∧Below W.heap.size W w'):=fun W v=>by
    have:=zkC A (o:Nat) v W (by omega)
    rw[hAs,hn] at this;exact this
  have CT:Hid (∀ W v,IsInts W W.heap.size v (ints m)→Calls Tryz.prog 56 #[v,.int .i64 (n:Nat)] W fun e w'=>∃ (va vb:Value) (q:Option Addr) (c:Nat) (q2:Option Addr) (c2:Nat),e=.returned (.tuple #[.slice q 2 c,.slice q2 G c2,.int .i64 0]) ∧
      IsSl w' w'.heap.size (.slice q 2 c) [(va,ints (za6 m n 0)),(vb,ints (za6 m n 1))]∧IsInts w' w'.heap.size (.slice q2 G c2) (ints (zal m n))∧Below W.heap.size W w'):=fun W v h=>by
    have:=zp5 W v m n h (by omega) (by omega) (by omega) (by omega) hmn
    rw[hM,hG] at this;exact this
  have CM:Hid (∀ W,Calls Tryz.prog 60 #[.string A] W fun e w'=>e=.returned (.agg #[.string (txt (zgC (zai p))),.int .i64 ((zgC (zai p)).length:Nat)])∧Below W.heap.size W w'):=fun W=>by
    have:=zut W A (by omega)
    rw[hAl] at this;exact this
  have CP:Hid (∀ W v,IsInts W W.heap.size v (ints (zal m n))→Calls Tryz.prog 27 #[v,.int .i64 2] W fun e w'=>e=.returned (.tuple #[.agg #[.string (txt (zni (List.range 6) (zal m n))),.int .i64 ((zni (List.range 6) (zal m n)).length:Nat)],.int .i64 0])∧Below W.heap.size W w'):=fun W v h=>by
    refine zwp W v (zal m n) 2 h (by simp[zal,hM,zbX];omega) (by omega) (by omega) (fun x hx=>?_)
    obtain⟨k,-,rfl⟩:=List.mem_map.1 hx;unfold zk0;split <;> omega
  have HD:=Lib.hid (zt2 t p m n G hm hn (by rw[hM];exact hG))
  have hhd:zeE t p=[B.low 54156738319193 48,B.low (zby t) 32,B.low o 16,zgC (zai p),B.low 2 3,B.low G 15,zni (List.range 6) (zal m n)]:=by
    unfold zeE;rw[hm,ho,hn,hM,hG]
  have hct:zby t<4294967296:=zdE t;have hG2:G≤37:=by rw[←hG];simp only[zbX];omega
  obtain⟨LF,hLF⟩:∃ LF,zaU t=LF:=⟨_,rfl⟩;rw[hLF] at CL hlen;have d1:decide (room<(LF:Int))=false:=decide_eq_false (by omega)
  have hse:s.toList.isEmpty=false:=by
    rw[Lib.toList_data,ht];cases t with
    | nil=>simp at htl;omega
    | cons x y=>rfl
  have HM:=Lib.hid hM;have HMN:=Lib.hid hmn;have HG:=Lib.hid hG;have HN1:2≤n:=by omega
  have HN2:n≤258:=by omega
  obtain⟨D,hDe⟩:∃ D,zoY t p=D:=⟨_,rfl⟩;obtain⟨b1,hb1⟩:∃ b,B.low 54156738319193 48=b:=⟨_,rfl⟩;obtain⟨b2,hb2⟩:∃ b,B.low (zby t) 32=b:=⟨_,rfl⟩;obtain⟨b3,hb3⟩:∃ b,B.low o 16=b:=⟨_,rfl⟩;obtain⟨b4,hb4⟩:∃ b,zgC (zai p)=b:=⟨_,rfl⟩;obtain⟨b5,hb5⟩:∃ b,B.low 2 3=b:=⟨_,rfl⟩;obtain⟨b6,hb6⟩:∃ b,B.low G 15=b:=⟨_,rfl⟩;obtain⟨b7,hb7⟩:∃ b,zni (List.range 6) (zal m n)=b:=⟨_,rfl⟩;rw[hb1,hb2,hb3,hb4,hb5,hb6,hb7] at hhd;rw[hhd,hDe] at HD;rw[hDe] at hDl ⊢;rw[hb4] at CM;rw[hb7] at CP;obtain⟨cs,hcs⟩:∃ cs,zby t=cs:=⟨_,rfl⟩;rw[hcs] at CC hct hb2;have N1:Hid (∀ W wb ls,WrAt W wb ls→ls.length≤100000→Calls Tryz.prog 58 #[.pointer (some ⟨wb,0,none⟩),.int .u64 54156738319193,.int .i64 48] W fun e w'=>e=.returned (.tuple #[])∧WrAt w' wb (ls++[b1])∧KeptW wb W w'):=fun W wb ls h hl=>zcx W wb ls 54156738319193 48 b1 h hl (by decide) (by decide) hb1
  have N2:Hid (∀ W wb ls,WrAt W wb ls→ls.length≤100000→Calls Tryz.prog 58 #[.pointer (some ⟨wb,0,none⟩),.int .u64 (cs:Nat),.int .i64 32] W fun e w'=>e=.returned (.tuple #[])∧WrAt w' wb (ls++[b2])∧KeptW wb W w'):=fun W wb ls h hl=>zcx W wb ls cs 32 b2 h hl (by omega) (by decide) hb2
  have N3:Hid (∀ W wb ls,WrAt W wb ls→ls.length≤100000→Calls Tryz.prog 58 #[.pointer (some ⟨wb,0,none⟩),.int .u64 (o:Nat),.int .i64 16] W fun e w'=>e=.returned (.tuple #[])∧WrAt w' wb (ls++[b3])∧KeptW wb W w'):=fun W wb ls h hl=>zcx W wb ls o 16 b3 h hl (by omega) (by decide) hb3
  have N5:Hid (∀ W wb ls,WrAt W wb ls→ls.length≤100000→Calls Tryz.prog 58 #[.pointer (some ⟨wb,0,none⟩),.int .u64 2,.int .i64 3] W fun e w'=>e=.returned (.tuple #[])∧WrAt w' wb (ls++[b5])∧KeptW wb W w'):=fun W wb ls h hl=>zcx W wb ls 2 3 b5 h hl (by decide) (by decide) hb5
  have N6:Hid (∀ W wb ls,WrAt W wb ls→ls.length≤100000→Calls Tryz.prog 58 #[.pointer (some ⟨wb,0,none⟩),.int .u64 (G:Nat),.int .i64 15] W fun e w'=>e=.returned (.tuple #[])∧WrAt w' wb (ls++[b6])∧KeptW wb W w'):=fun W wb ls h hl=>zcx W wb ls G 15 b6 h hl (by omega) (by decide) hb6
  have HDL:=Lib.hid hDl;have HCT:=Lib.hid hct;clear hDl hct hDe hb1 hb2 hb3 hb4 hb5 hb6 hb7 hcs hhd;clear hLF ht htl hp hm hM hG hA hAs hAl hn ho hmn hA256 hA0 hpn hpl hlen
  go_enter Tryz.func17,Tryz.ntmps17
  go_wp2_with fail
  refine (CF.out _).mono ?_;rintro e w1 ⟨rfl,rfl⟩
  go_wp2_with fail
  refine (CL.out _).mono ?_;rintro e w1 ⟨rfl,hB1⟩;obtain⟨rc,hrc⟩:∃ rc,w.heap.size=rc:=⟨_,rfl⟩;have hx1:w1.heap[rc]?=some (.cells #[.string ⟨#[]⟩,.int .i64 0] 50 (0,0)):=(hB1.block rc (by simp[hrc])).trans (zae _ _ _ hrc.symm)
  have HB1:Hid (Below w.heap.size w w1):=(zk5 (Below.refl _ _) (.cells #[.string ⟨#[]⟩,.int .i64 0] 50)).trans (hB1.mono (by simp))
  have HX1:=Lib.hid hx1;rw[hrc];clear hB1 hx1
  go_wp2_with fail
  refine (CK.out _).mono ?_;rintro e w2 ⟨rfl,hB2⟩;have HB2:=Lib.hid (HB1.out.trans (hB2.mono HB1.out.size));have HX2:=Lib.hid ((hB2.block rc (zab HX1.out)).trans HX1.out);clear hB2 HB1 HX1
  go_wp2_with fail
  refine (CS.out _).mono ?_;rintro e w3 ⟨sq,sc,rfl,hi3,hB3⟩;have HB3:=Lib.hid (HB2.out.trans (hB3.mono HB2.out.size));have HX3:=Lib.hid ((hB3.block rc (zab HX2.out)).trans HX2.out);have HI3:=Lib.hid hi3;clear hB3 HB2 HX2 hi3
  go_upto_region 6 with (fail)
  obtain⟨sb,hsb⟩:∃ sb,w3.heap.size=sb:=⟨_,rfl⟩;have hx4:(w3.alloc (.cells #[.string A,.int .i64 (o:Nat),.slice sq M sc] 110)).heap[sb]?=some (.cells #[.string A,.int .i64 (o:Nat),.slice sq M sc] 110 (0,0)):=zae _ _ _ hsb.symm;have HSQ:=Lib.hid hx4;have HRC:=Lib.hid (zah (.cells #[.string A,.int .i64 (o:Nat),.slice sq M sc] 110) HX3.out);have HIM:=Lib.hid (zwb HI3.out (zk5 (Below.refl _ _) (.cells #[.string A,.int .i64 (o:Nat),.slice sq M sc] 110)));have HB4:=Lib.hid (zk5 HB3.out (.cells #[.string A,.int .i64 (o:Nat),.slice sq M sc] 110));rw[hsb];clear hx4 hsb HX3 HI3 HB3 CF CL CK CS;generalize w3.alloc (.cells #[.string A,.int .i64 (o:Nat),.slice sq M sc] 110)=W4 at *
  have HkW:Hid (∀ w':World,Below W4.heap.size W4 w'→Below W4.heap.size W4 w'∧w'.cell? ⟨sb,0,none⟩=some (.string A)∧w'.cell? ⟨sb,1,none⟩=some (.int .i64 (o:Nat))∧w'.cell? ⟨sb,2,none⟩=some (.slice sq M sc)):=fun w' h=>by
    have h2:=(h.block sb (zab HSQ.out)).trans HSQ.out;exact⟨h,(zaa h2 0).trans rfl,(zaa h2 1).trans rfl,(zaa h2 2).trans rfl⟩
  have hb4:Below W4.heap.size W4 W4:=Below.refl _ _;have k0:=(HkW.out W4 hb4).2.1;have k1:=(HkW.out W4 hb4).2.2.1;have k2:=(HkW.out W4 hb4).2.2.2
  go_region_held3 (fun w'=>Below W4.heap.size W4 w'∧w'.cell? ⟨sb,0,none⟩=some (.string A)∧w'.cell? ⟨sb,1,none⟩=some (.int .i64 (o:Nat))∧w'.cell? ⟨sb,2,none⟩=some (.slice sq M sc))
    ((refine HkW.out _ ?_;first | assumption | exact zwd (by assumption) | exact zvS (by assumption) (And.left (by assumption)) | fail))
    ((first
      | (go_at_call 57
         refine (CD.out _ _).mono ?_;rintro e w5 ⟨rfl,hB5⟩;have hW5:Below W4.heap.size W4 w5:=zvS hB5 (And.left (by assumption)))
      | (go_at_call 56
         refine (CT.out _ _ (zwb HIM.out (And.left (by assumption)))).mono ?_
         rintro e w6 ⟨va,vb,tq,tc,cq,cc,rfl,ht6,hc6,hB6⟩;have hW6:Below W4.heap.size W4 w6:=zvS hB6 (And.left (by assumption)))
      | fail))
  have HB6:=Lib.hid (HB4.out.trans (hW6.mono HB4.out.size));have HRC6:=Lib.hid ((hW6.block rc (zab HRC.out)).trans HRC.out);have HSQ6:=Lib.hid ((hW6.block sb (zab HSQ.out)).trans HSQ.out);have HIM6:=Lib.hid (zwb HIM.out hW6);have HT6:=Lib.hid ht6;have HC6:=Lib.hid hc6;clear k0 k1 k2 hb4 hW5 hW6 ht6 hc6 HRC HSQ HIM HB4 HkW CD CT hB5 hB6
  go_upto_region 8 with (fail)
  obtain⟨wb,hwb⟩:∃ wb,w6.heap.size=wb:=⟨_,rfl⟩
  have HE:Hid (EncAt w (w6.alloc (.cells #[.slice none 0 0] 118)) rc sb wb A o (.slice sq M sc) (.slice tq 2 tc) (.slice cq G cc) [(va,ints (za6 m n 0)),(vb,ints (za6 m n 1))] (ints (zal m n)) (ints m) []):=by
    have hb:=zk5 (Below.refl w6.heap.size w6) (.cells #[.slice none 0 0] 118);refine⟨zk5 HB6.out _,zah _ HRC6.out,zah _ HSQ6.out,?_,?_,?_,⟨_,zae _ _ _ hwb.symm,World.ownsRow_nil _ _ _ _⟩,?_,?_,?_,?_⟩
    · rw[←hwb];exact HT6.out.below hb (Nat.le_refl _)
    · rw[←hwb];exact HC6.out.below hb (Nat.le_refl _)
    · rw[←hwb];exact HIM6.out.below hb (Nat.le_refl _)
    · rw[←hwb];exact zab HRC6.out
    · rw[←hwb];exact zab HSQ6.out
    · rw[←hwb];exact HB6.out.size
    · exact Nat.le_of_eq hrc
  rw[hwb];clear hwb HT6 HC6 HIM6 HRC6 HSQ6 HB6;generalize w6.alloc (.cells #[.slice none 0 0] 118)=W7 at *
  go_wp2_with fail
  refine (N1.out _ wb _ HE.out.wr (by simp)).mono ?_
  rintro e w8 ⟨rfl,hw,hk⟩;have HE8:=Lib.hid (HE.out.step hk hw);clear hw hk HE N1
  go_wp2_with fail
  refine (CC.out _).mono ?_;rintro e w9 ⟨rfl,hB9⟩;have HE9:=Lib.hid (HE8.out.below hB9);have c32:=HCT.out;have i1:IntKind.u64.wrap (cs:Int)=(cs:Int):=IntWalk.u64_in _ (by omega)
  clear hB9 HE8 CC c32
  go_wp2_with fail
  refine (N2.out _ wb _ HE9.out.wr (by simp)).mono ?_
  rintro e w10 ⟨rfl,hw,hk⟩;have HE10:=Lib.hid (HE9.out.step hk hw);have ko:=(zaa HE10.out.sq 1).trans rfl;have i2:IntKind.u64.wrap (o:Int)=(o:Int):=IntWalk.u64_in _ (by omega)
  clear hw hk HE9 N2 i1
  go_wp2_with fail
  refine (N3.out _ wb _ HE10.out.wr (by simp)).mono ?_
  rintro e w11 ⟨rfl,hw,hk⟩;have HE11:=Lib.hid (HE10.out.step hk hw);have ka:=(zaa HE11.out.sq 0).trans rfl;clear hw hk HE10 N3 i2 ko
  go_wp2_with fail
  refine (CM.out _).mono ?_;rintro e w12 ⟨rfl,hB12⟩;have HE12:=Lib.hid (HE11.out.below hB12);clear hB12 HE11 CM ka
  go_wp2_with fail
  refine (zgK w12 wb _ _ 0 HE12.out.wr (by simp)).mono ?_
  rintro e w13 ⟨rfl,hw,hk⟩;have HE13:=Lib.hid (HE12.out.step hk hw);clear hw hk HE12
  go_wp2_with fail
  refine (N5.out _ wb _ HE13.out.wr (by simp)).mono ?_
  rintro e w14 ⟨rfl,hw,hk⟩;have HE14:=Lib.hid (HE13.out.step hk hw);have i2:IntKind.u64.wrap (G:Int)=(G:Int):=IntWalk.u64_in _ (by omega)
  clear hw hk HE13 N5
  go_wp2_with fail
  refine (N6.out _ wb _ HE14.out.wr (by simp)).mono ?_
  rintro e w15 ⟨rfl,hw,hk⟩;have HE15:=Lib.hid (HE14.out.step hk hw);clear hw hk HE14 N6 i2
  go_upto_region 14 with (fail)
  go_cut [0,1,4,5,6,8,9,11] (fun s0 s1 s4 s5 s6 s8 s9 s11 wx=>s0=.string s∧s1=.int .i64 room∧s4=.pointer (some ⟨rc,0,none⟩)∧s5=.int .i64 0∧s6=.pointer (some ⟨sb,0,none⟩)∧s8=.slice tq 2 tc∧s9=.slice cq G cc∧s11=.pointer (some ⟨wb,0,none⟩) ∧
    Hid (EncAt w wx rc sb wb A o (.slice sq M sc) (.slice tq 2 tc) (.slice cq G cc) [(va,ints (za6 m n 0)),(vb,ints (za6 m n 1))] (ints (zal m n)) (ints m) [b1,b2,b3,b4,b5,b6,b7]))
  case first =>
    go_wp2_with fail
    refine (CP.out _ _ HE15.out.isCho).mono ?_;rintro e w16 ⟨rfl,hB16⟩;have HE16:=Lib.hid (HE15.out.below hB16);clear hB16 HE15 CP
    go_wp2_with fail
    refine (zgK w16 wb _ _ 0 HE16.out.wr (by simp)).mono ?_
    rintro e w17 ⟨rfl,hw,hk⟩;have HE17:=Lib.hid (HE16.out.step hk hw);clear hw hk HE16
    go_wp2_with fail
    go_meet
    case rel=>exact⟨rfl,rfl,rfl,rfl,rfl,rfl,rfl,rfl,HE17⟩
  case rest =>
    obtain⟨rfl,rfl,rfl,rfl,rfl,rfl,rfl,rfl,HE17⟩:=hcut
    apply_assumption
    refine zl4 s room w _ rc sb wb o n M G A sq tq cq sc tc cc va vb m _ HM.out (by omega) HG.out HN1 HN2 HMN.out (by simp) HE17.out D HD.out HDL.out rfl _ ?_
    refine Lib.hid fun ts w' h4 h5 hres hB=>?_;refine bodyPost_ret (zaP rfl ts _ _ ⟨rc,0,none⟩ _ (by simpa using h4) (zcN rc _ _ _ hres)) rfl ⟨?_,hB⟩
    have h5':ts.getD 5 undef=.int .i64 0:=by simpa using h5
    rw[h5']
end Go.Proofs.YtoejfkeofbdalaaGreatDoor
