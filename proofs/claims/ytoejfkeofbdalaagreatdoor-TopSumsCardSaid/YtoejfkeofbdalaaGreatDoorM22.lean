import Derived.Test.YtoejfkeofbdalaaGreatDoorM21
import Derived.Deep.DeepCutAuto
set_option linter.unusedVariables false
set_option maxRecDepth 100000
set_option maxHeartbeats 8000000
namespace Go.Proofs.YtoejfkeofbdalaaGreatDoor
open Go.RowKit
theorem zlR (g n cap q:Nat) (R:Nat→Nat→Prop) (E:List Value) (w:World) (X U1 U2 V1 V2 Y:List Nat) (a m b i e mid nn:Nat)
    (him:i≤m) (hme:m≤e) (heb:e≤b)
    (ROT:Hid (i<m→m<e→Calls Tryz.prog 279 #[.slice (some ⟨g,0,none⟩) n cap,.int .i64 i,.int .i64 m,.int .i64 e,.func (.func 146) #[] #[.pointer (some ⟨q,0,none⟩)]] w fun ee w'=>ee=.returned (.tuple #[])∧SRow w' g (X++(U1++(V1++(U2++(V2++Y))))) E∧Only g w w'))
    (RNO:Hid ((decide (i<m) && decide (m<e))=false→SRow w g (X++(U1++(V1++(U2++(V2++Y))))) E))
    (C1:Hid (∀ W,SRow W g (X++(U1++(V1++(U2++(V2++Y))))) E→Only g w W→a<i→i<mid→Calls Tryz.prog 253 #[.slice (some ⟨g,0,none⟩) n cap,.int .i64 a,.int .i64 i,.int .i64 mid,.func (.func 146) #[] #[.pointer (some ⟨q,0,none⟩)]] W fun ee w'=>ee=.returned (.tuple #[])∧(∃ L,SRow w' g (X++(L++(U2++(V2++Y)))) E∧L.Perm (U1++V1)∧L.Pairwise R)∧Only g W w'))
    (N1:Hid ((decide (a<i) && decide (i<mid))=false→(U1++V1).Pairwise R))
    (C2:Hid (∀ W M1,M1.length=(U1++V1).length→SRow W g (X++(M1++(U2++(V2++Y)))) E→Only g w W→mid<e→e<b→Calls Tryz.prog 253 #[.slice (some ⟨g,0,none⟩) n cap,.int .i64 mid,.int .i64 e,.int .i64 b,.func (.func 146) #[] #[.pointer (some ⟨q,0,none⟩)]] W fun ee w'=>ee=.returned (.tuple #[])∧(∃ L,SRow w' g (X++(M1++(L++Y))) E∧L.Perm (U2++V2)∧L.Pairwise R)∧Only g W w'))
    (N2:Hid ((decide (mid<e) && decide (e<b))=false→(U2++V2).Pairwise R))
    {z1 z2 z3 z4 z5 z6 z7 z8 z9 c:Go.Code} (hc:Tryz.f253.body=some (z1.seq (z2.seq (z3.seq (z4.seq (z5.seq (z6.seq (z7.seq (z8.seq (z9.seq c))))))))))
    (Q:Exit→Act→World→Prop) (HQ:Hid (∀ (ts:Array Value) (w':World) (M1 M2:List Nat),M1.Perm (U1++V1)→M2.Perm (U2++V2)→M1.Pairwise R→M2.Pairwise R→SRow w' g (X++(M1++(M2++Y))) E→Only g w w'→Q .normal { tmps:=ts,defers:=[] } w'))
    {u5 u6 u7 u8 u9 u10 u11 u12 u13 u14 u15 u16 u17 u21 u22 u23 u25 u26 u27 u28 u29 u30 u31 u32 u33 u34 u35 u36 u37 u38 u39 u40 u41 u42 u43 u44 u45 u46 u47 u48 u49 u50 u51 u52 u53 u54 u55 u56 u57 u58 u59 u60 u61 u62 u63 u64 u65 u66 u67 u68 u69 u70 u71 u72 u73 u74 u75 u76 u77 u78 u79 u80 u81 u82 u83 u84 u85 u86 u87 u88 u89 u90 u91 u92 u93 u94 u95 u96 u97 u98 u99 u100 u101 u102 u103 u104 u105 u106 u107 u108 u109 u110 u111 u112 u113 u114 u115 u116 u117 u118 u119 u120 u121 u122 u123 u124 u125 u126 u127 u128 u129 u130 u131 u132 u133 u134 u135 u136 u137 u138 u139 u140 u141 u142 u143 u144 u145 u146 u147 u148 u149 u150 u151 u152 u153 u154 u155 u156 u157 u158 u159 u160 u161 u162 u163 u164 u165 u166 u167 u168 u169 u170 u171 u172 u173 u174 u175 u176 u177 u178 u179 u180 u181 u182 u183 u184 u185 u186 u187 u188 u189 u190 u191 u192 u193 u194 u195 u196 u197 u198 u199 u200 u201 u202 u203 u204 u205 u206 u207 u208 u209 u210 u211 u212 u213 u214 u215 u216 u217 u218 u219:Value} :
    Code.wp Tryz.prog c Q { tmps:=#[.slice (some ⟨g,0,none⟩) n cap,.int .i64 (a:Nat),.int .i64 (m:Nat),.int .i64 (b:Nat),.func (.func 146) #[] #[.pointer (some ⟨q,0,none⟩)],u5,u6,u7,u8,u9,u10,u11,u12,u13,u14,u15,u16,u17,.int .i64 (mid:Nat),.int .i64 (nn:Nat),.int .i64 (i:Nat),u21,u22,u23,.int .i64 (e:Nat),u25,u26,u27,u28,u29,u30,u31,u32,u33,u34,u35,u36,u37,u38,u39,u40,u41,u42,u43,u44,u45,u46,u47,u48,u49,u50,u51,u52,u53,u54,u55,u56,u57,u58,u59,u60,u61,u62,u63,u64,u65,u66,u67,u68,u69,u70,u71,u72,u73,u74,u75,u76,u77,u78,u79,u80,u81,u82,u83,u84,u85,u86,u87,u88,u89,u90,u91,u92,u93,u94,u95,u96,u97,u98,u99,u100,u101,u102,u103,u104,u105,u106,u107,u108,u109,u110,u111,u112,u113,u114,u115,u116,u117,u118,u119,u120,u121,u122,u123,u124,u125,u126,u127,u128,u129,u130,u131,u132,u133,u134,u135,u136,u137,u138,u139,u140,u141,u142,u143,u144,u145,u146,u147,u148,u149,u150,u151,u152,u153,u154,u155,u156,u157,u158,u159,u160,u161,u162,u163,u164,u165,u166,u167,u168,u169,u170,u171,u172,u173,u174,u175,u176,u177,u178,u179,u180,u181,u182,u183,u184,u185,u186,u187,u188,u189,u190,u191,u192,u193,u194,u195,u196,u197,u198,u199,u200,u201,u202,u203,u204,u205,u206,u207,u208,u209,u210,u211,u212,u213,u214,u215,u216,u217,u218,u219],defers:=[] } w:=by
  have HO:Hid (Only g w w):=Only.refl _ _;obtain⟨b1,hb1⟩:∃ b1,(decide (i<m) && decide (m<e))=b1:=⟨_,rfl⟩;obtain⟨b2,hb2⟩:∃ b1,(decide (a<i) && decide (i<mid))=b1:=⟨_,rfl⟩;obtain⟨b3,hb3⟩:∃ b1,(decide (mid<e) && decide (e<b))=b1:=⟨_,rfl⟩;have HB1:=Lib.hid hb1;have HB2:=Lib.hid hb2;have HB3:=Lib.hid hb3;clear hb1 hb2 hb3;simp only[Tryz.f253,Option.some.injEq,Code.seq.injEq] at hc;obtain⟨-,-,-,-,-,-,-,-,-,rfl⟩:=hc
  dsimp only
  go_upto_region 39 with (fail)
  go_cut [0,185] from 178 (fun s0 sb wx=>s0=.slice (some ⟨g,0,none⟩) n cap∧sb=.bool b1∧wx=w)
  case first =>
    as_aux_lemma =>
      have hb1:=HB1.out
      by_cases h1:i<m
      · rw[decide_eq_true h1,Bool.true_and] at hb1
        go_wp2_with fail
        go_meet
        case rel=>exact⟨rfl,by rw[←hb1],rfl⟩
      · rw[decide_eq_false h1,Bool.false_and] at hb1
        subst hb1
        go_wp2_with fail
        go_meet
        case rel=>exact⟨rfl,rfl,rfl⟩
  case rest =>
    obtain⟨rfl,rfl,hw⟩:=hcut;rw[hw];clear hw
    go_upto_if 185 with (fail)
    go_cut [0] from 178 (fun s0 wx=>s0=.slice (some ⟨g,0,none⟩) n cap∧Hid (SRow wx g (X++(U1++(V1++(U2++(V2++Y))))) E)∧Hid (Only g w wx))
    case first =>
      as_aux_lemma =>
        cases b1 with
        | true =>
          have hb:=HB1.out;simp only[Bool.and_eq_true,decide_eq_true_eq] at hb;have CR:=Lib.hid (ROT.out hb.1 hb.2);clear hb
          go_wp2_with fail
          refine CR.out.mono ?_;rintro ee w8 ⟨rfl,hr8,ho8⟩;have HR8:=Lib.hid hr8;have HO8:=Lib.hid (HO.out.trans ho8);clear hr8 ho8
          go_wp2_with fail
          go_meet
          case rel=>exact⟨rfl,HR8,HO8⟩
        | false =>
          have HR8:=Lib.hid (RNO.out HB1.out)
          go_wp2_with fail
          go_meet
          case rel=>exact⟨rfl,HR8,HO⟩
    case rest =>
      clear HO ROT RNO HB1;obtain⟨rfl,HR,HO⟩:=hcut
      go_upto_region 41 with (fail)
      go_cut [0,199] from 178 (fun s0 sb wx=>s0=.slice (some ⟨g,0,none⟩) n cap∧sb=.bool b2∧wx=wc)
      case first =>
        as_aux_lemma =>
          have hb1:=HB2.out
          by_cases h1:a<i
          · rw[decide_eq_true h1,Bool.true_and] at hb1
            go_wp2_with fail
            go_meet
            case rel=>exact⟨rfl,by rw[←hb1],rfl⟩
          · rw[decide_eq_false h1,Bool.false_and] at hb1
            subst hb1
            go_wp2_with fail
            go_meet
            case rel=>exact⟨rfl,rfl,rfl⟩
      case rest =>
        obtain⟨rfl,rfl,hw⟩:=hcut;rw[hw];clear hw
        go_upto_if 199 with (fail)
        go_cut [0] from 178 (fun s0 wx=>s0=.slice (some ⟨g,0,none⟩) n cap∧∃ M1:List Nat,Hid (M1.Perm (U1++V1))∧Hid (M1.Pairwise R)∧Hid (SRow wx g (X++(M1++(U2++(V2++Y)))) E)∧Hid (Only g w wx))
        case first =>
          as_aux_lemma =>
            cases b2 with
            | true =>
              have hb:=HB2.out;simp only[Bool.and_eq_true,decide_eq_true_eq] at hb;have CR:=Lib.hid (C1.out _ HR.out HO.out hb.1 hb.2);clear hb
              go_wp2_with fail
              refine CR.out.mono ?_;rintro ee w8 ⟨rfl,⟨L,hr8,hp8,hw8⟩,ho8⟩;have HR8:=Lib.hid hr8;have HP8:=Lib.hid hp8;have HW8:=Lib.hid hw8;have HO8:=Lib.hid (HO.out.trans ho8);clear hr8 ho8 hp8 hw8
              go_wp2_with fail
              go_meet
              case rel=>exact⟨rfl,L,HP8,HW8,HR8,HO8⟩
            | false =>
              have HW8:=Lib.hid (N1.out HB2.out);have hr8:=HR.out;rw[←List.append_assoc U1 V1] at hr8;have HR8:=Lib.hid hr8;clear hr8
              go_wp2_with fail
              go_meet
              case rel=>exact⟨rfl,U1++V1,List.Perm.refl _,HW8,HR8,HO⟩
        case rest =>
          clear HR HO C1 N1 HB2;obtain⟨rfl,M1,HP1,HW1,HR,HO⟩:=hcut;have hl1:=HP1.out.length_eq;have hb1:=HB3.out
          by_cases h1:mid<e
          · by_cases h2:e<b
            · have CR:=Lib.hid (C2.out _ M1 hl1 HR.out HO.out h1 h2)
              clear hb1 HB3 N2
              go_wp2_with fail
              refine CR.out.mono ?_;rintro ee w8 ⟨rfl,⟨L,hr8,hp8,hw8⟩,ho8⟩;have HR8:=Lib.hid hr8;have HP8:=Lib.hid hp8;have HW8:=Lib.hid hw8;have HO8:=Lib.hid (HO.out.trans ho8);clear hr8 ho8 hp8 hw8
              go_wp2_with fail
              exact HQ.out _ w8 M1 L HP1.out HP8.out HW1.out HW8.out HR8.out HO8.out
            · have HN:=N2.out (by rw[decide_eq_false h2,Bool.and_false])
              have hr8:SRow wc g (X++(M1++((U2++V2)++Y))) E:=by simpa using HR.out
              have HW8:=Lib.hid HN;have HR8:=Lib.hid hr8;clear hb1 HB3 N2 C2 HN hr8
              go_wp2_with fail
              exact HQ.out _ wc M1 (U2++V2) HP1.out (List.Perm.refl _) HW1.out HW8.out HR8.out HO.out
          · have HN:=N2.out (by rw[decide_eq_false h1,Bool.false_and])
            have hr8:SRow wc g (X++(M1++((U2++V2)++Y))) E:=by simpa using HR.out
            have HW8:=Lib.hid HN;have HR8:=Lib.hid hr8;clear hb1 HB3 N2 C2 HN hr8
            go_wp2_with fail
            exact HQ.out _ wc M1 (U2++V2) HP1.out (List.Perm.refl _) HW1.out HW8.out HR8.out HO.out
def zp8 (g n cap q M:Nat) (lt:Nat→Nat→Bool) (R:Nat→Nat→Prop) (E:List Value) (N:Nat):Prop :=
  ∀ (w:World) (X U V Y:List Nat) (a m b:Nat),SRow w g (X++(U++(V++Y))) E→X.length=a→a+U.length=m→m+V.length=b→b-a≤N→0<U.length→0<V.length→(X++(U++(V++Y))).length=n →
    U.Pairwise R→V.Pairwise R→(∀ x∈U,∀ y∈V,zwn R lt x y)→(∀ x∈U,x<M)→(∀ x∈V,x<M)→CmpOk w g q M lt →
    Calls Tryz.prog 253 #[.slice (some ⟨g,0,none⟩) n cap,.int .i64 a,.int .i64 m,.int .i64 b,zj5 q] w fun e w'=>e=.returned (.tuple #[])∧(∃ L,SRow w' g (X++(L++Y)) E∧L.Perm (U++V)∧L.Pairwise R)∧Only g w w'
theorem zuw (g n cap q M:Nat) (lt:Nat→Nat→Bool) (R:Nat→Nat→Prop) (ht:∀ x y z,R x y→R y z→R x z) (E:List Value) (hn1:n≤1000000) (N:Nat) (ih:∀ N',N' < N→zp8 g n cap q M lt R E N')
    (w:World) (X U V Y:List Nat) (a m b:Nat) (hr:SRow w g (X++(U++(V++Y))) E) (ha:X.length=a) (hm:a+U.length=m) (hb:m+V.length=b) (hN:b-a≤N) (hU2:2≤U.length) (hV2:2≤V.length) (hn:(X++(U++(V++Y))).length=n)
    (hU:U.Pairwise R) (hV:V.Pairwise R) (hA:∀ x∈U,∀ y∈V,zwn R lt x y) (hMU:∀ x∈U,x<M) (hMV:∀ x∈V,x<M) (hc:CmpOk w g q M lt) :
    Calls Tryz.prog 253 #[.slice (some ⟨g,0,none⟩) n cap,.int .i64 a,.int .i64 m,.int .i64 b,zj5 q] w fun e w'=>e=.returned (.tuple #[])∧(∃ L,SRow w' g (X++(L++Y)) E∧L.Perm (U++V)∧L.Pairwise R)∧Only g w w':=by
  have hbn:b≤n:=by rw[←hn];simp;omega
  obtain⟨mid,hmid⟩:∃ mid,mid=(a+b) / 2:=⟨_,rfl⟩;obtain⟨lo,hlo⟩:∃ lo,lo=if mid<m then mid+m-b else a:=⟨_,rfl⟩
  obtain⟨hi,hhi⟩:∃ hi,hi=if mid<m then mid else m:=⟨_,rfl⟩
  have k1:a≤lo:=by rw[hlo];split <;> omega
  have k2:hi≤m:=by rw[hhi];split <;> omega
  have k3:hi≤mid:=by rw[hhi];split <;> omega
  have k4:mid+m≤b+lo:=by rw[hlo];split <;> omega
  have k5:lo≤hi:=by rw[hlo,hhi];split <;> omega
  have k6:a<mid∧mid<b:=by omega
  have hat:∀ i (h:i<(U++V).length),(X++(U++(V++Y)))[a+i]?.getD 0=(U++V)[i]:=by
    intro i h;rw[←List.append_assoc U,List.getElem?_append_right (by omega),show a+i-X.length=i by omega,List.getElem?_append_left h,List.getElem?_eq_getElem h]
    rfl
  have hat2:∀ c,a≤c→c<b→(X++(U++(V++Y)))[c]?=some ((X++(U++(V++Y)))[c]?.getD 0)∧(X++(U++(V++Y)))[c]?.getD 0<M:=by
    intro c h1 h2;have hl:c-a<(U++V).length:=by simp;omega
    have h3:=hat (c-a) hl;rw[show a+(c-a)=c by omega] at h3
    refine⟨?_,?_⟩
    · rw[List.getElem?_eq_getElem (by omega)]
      rfl
    · rw[h3]
      rcases List.mem_append.1 (List.getElem_mem hl) with h | h
      · exact hMU _ h
      · exact hMV _ h
  have HX:Hid (∀ s,Halved (fun c=>!lt ((X++(U++(V++Y)))[mid+m-1-c]?.getD 0) ((X++(U++(V++Y)))[c]?.getD 0)) lo hi s s→a≤s∧s≤m∧m≤mid+m-s∧mid+m-s≤b ∧
      (∀ x∈U.take (s-a),∀ y∈V.drop (mid-s),R x y)∧(∀ y∈V.take (mid-s),∀ x∈U.drop (s-a),R y x)∧s≤mid):=fun s hs =>
    zqa R ht lt hmid hm hb hU hV (fun x hx y hy=>hA x hx y hy) (fun c=>(X++(U++(V++Y)))[c]?.getD 0) hat lo hi hlo hhi hs (by omega) (by omega)
  have HA2:=Lib.hid hat2;have HR:=Lib.hid hr;have HN:=Lib.hid hn;have HXA:=Lib.hid ha;have HC:=Lib.hid hc;have HUM:=Lib.hid hm;have HVB:=Lib.hid hb;have HIH:=Lib.hid ih;have HNN:=Lib.hid hN;have HPU:=Lib.hid hU;have HPV:=Lib.hid hV;have HAP:=Lib.hid hA;have HMU:=Lib.hid hMU;have HMV:=Lib.hid hMV;have hma:a+2≤m:=by omega
  have hmb:m+2≤b:=by omega
  obtain⟨K,hK⟩:∃ K,X++(U++(V++Y))=K:=⟨_,rfl⟩;have HK:=Lib.hid hK;rw[hK] at HX HA2 HR HN;obtain⟨nn,hnn⟩:∃ nn,mid+m=nn:=⟨_,rfl⟩;rw[hnn] at HX hlo k4;obtain⟨p,hp⟩:∃ p,nn-1=p:=⟨_,rfl⟩;rw[hp] at HX;have w0:IntKind.i64.wrap ((m:Int)-(a:Int))=(m:Int)-(a:Int):=IntWalk.i64_in _ (by omega)
  have d0:((m:Int)-(a:Int) == 1)=false:=by simp;omega
  have w1:IntKind.i64.wrap ((b:Int)-(m:Int))=(b:Int)-(m:Int):=IntWalk.i64_in _ (by omega)
  have d1:((b:Int)-(m:Int) == 1)=false:=by simp;omega
  have w2:((a:Int)+(b:Int)) / 2=(mid:Int):=by omega
  have w3:IntKind.i64.wrap ((mid:Int)+(m:Int))=(nn:Int):=by rw[IntWalk.i64_in _ (by omega)];omega
  have w4:IntKind.i64.wrap ((nn:Int)-(b:Int))=(nn:Int)-(b:Int):=IntWalk.i64_in _ (by omega)
  have w5:IntKind.i64.wrap ((nn:Int)-1)=(p:Int):=by rw[IntWalk.i64_in _ (by omega)];omega
  have e1:mid<m→(nn:Int)-(b:Int)=(lo:Int)∧mid=hi:=fun h=>by rw[if_pos h] at hlo hhi;omega
  have e2:¬ mid<m→a=lo∧m=hi:=fun h=>by rw[if_neg h] at hlo hhi;omega
  have HE1:=Lib.hid e1;have HE2:=Lib.hid e2;have HMID:=Lib.hid hmid;have HNN2:=Lib.hid hnn;have HP:=Lib.hid hp;have kp:p+1=nn:=by omega
  clear hr ha hb hn hU hA hMU hMV hc hat hat2 hK ht hm hU2 hV2 hN hV hlo hhi e1 e2 hmid hnn hp ih;unfold zj5
  go_enter Tryz.func253,Tryz.ntmps253
  go_upto_if 140 with (fail)
  go_cut [20,21] from 141 (fun sv rv wx=>sv=.int .i64 (lo:Int)∧rv=.int .i64 (hi:Int)∧wx=w)
  case first =>
    as_aux_lemma =>
      by_cases hlt:mid<m
      · obtain⟨f1,f2⟩:=HE1.out hlt
        go_wp2_with fail
        go_meet
        case rel=>exact⟨by first | rfl | rw[f1],by first | rfl | rw[f2],rfl⟩
      · obtain⟨f1,f2⟩:=HE2.out hlt
        go_wp2_with fail
        go_meet
        case rel=>exact⟨by first | rfl | rw[f1],by first | rfl | rw[f2],rfl⟩
  case rest =>
    obtain⟨rfl,rfl,hw⟩:=hcut;rw[hw];clear HE1 HE2 hw
    go_wp2_with fail
    go_loopw [20,21] (fun iv jv wr=>∃ i j:Nat,iv=.int .i64 i∧jv=.int .i64 j∧Hid (Halved (fun c=>!lt (K[p-c]?.getD 0) (K[c]?.getD 0)) lo hi i j)∧Hid (SRow wr g K E)∧Hid (Only g w wr)) (fun iv jv _=>(intOf jv-intOf iv).toNat)
    case atStart=>exact⟨lo,hi,rfl,rfl,Halved.start _ k5,HR.out,Only.refl _ _⟩
    case round =>
      clear HR;obtain⟨i,j,rfl,rfl,HH,HR,HO⟩:=hrel;obtain⟨hi1,hij,hj1⟩:lo≤i∧i≤j∧j≤hi:=⟨HH.out.1,HH.out.2.1,HH.out.2.2.1⟩
      by_cases hlt:i<j
      · as_aux_lemma =>
          obtain⟨c,hh⟩:∃ c,(i+j) / 2=c:=⟨_,rfl⟩;have hih:i≤c:=by omega
          have hhj:c<j:=by omega
          have hz:((i:Int)+(j:Int)) / 2=(c:Int):=by omega
          have hq:=HNN2.out;clear hh;obtain⟨hgx,hxM⟩:=HA2.out (p-c) (by omega) (by omega)
          obtain⟨hgy,hyM⟩:=HA2.out c (by omega) (by omega)
          obtain⟨x,hx⟩:∃ x,K[p-c]?.getD 0=x:=⟨_,rfl⟩;obtain⟨y,hy⟩:∃ y,K[c]?.getD 0=y:=⟨_,rfl⟩;have hup:=HH.out.up hih hhj;have hdn:=HH.out.down hih hhj;simp only[hx,hy] at hgx hxM hgy hyM hup hdn;have cx:=HR.out.cell _ _ hgx;have cu:=HR.out.cell _ _ hgy;have hgr:=HR.out.lt;have CA:Hid (∀ W,Below wr.heap.size wr W→Calls Tryz.prog 146 #[.int .i64 x,.int .i64 y,.pointer (some ⟨q,0,none⟩)] W fun e w'=>∃ c:Int,e=.returned (.int .i64 c)∧decide (c<0)=lt x y∧Below W.heap.size W w'):=fun W hW=>HC.out W (HO.out.trans (Only.of hW)) x y hxM hyM;have l1:c<n:=by omega
          have l2:p-c<n:=by omega
          have w6:IntKind.i64.wrap ((p:Int)-(c:Int))=((p-c:Nat):Int):=by rw[IntWalk.i64_in _ (by omega)];omega
          have HUP:=Lib.hid hup;have HDN:=Lib.hid hdn;clear hup hdn hgx hgy hx hy HH;obtain⟨r,hr⟩:∃ r,lt x y=r:=⟨_,rfl⟩;rw[hr] at CA HUP HDN;clear hr hq;generalize p-c=pc at *
          have HST:Hid (∀ {W':World},Below wr.heap.size wr W'→W'.cell? ⟨g,pc,none⟩=some (.int .i64 (x:Int))∧W'.cell? ⟨g,c,none⟩=some (.int .i64 (y:Int))):=fun h0=>⟨(h0.cell (p:=⟨g,pc,none⟩) hgr).trans cx,(h0.cell (p:=⟨g,c,none⟩) hgr).trans cu⟩;have hr0:Below wr.heap.size wr wr:=Below.refl _ _
          go_wp2_with fail
          go_region_held3 (fun W'=>W'.cell? ⟨g,pc,none⟩=some (.int .i64 (x:Int))∧W'.cell? ⟨g,c,none⟩=some (.int .i64 (y:Int)))
            ((first | exact HST.out hr0.drew | exact HST.out HB8.out | fail))
            ((first
              | (go_at_call 146
                 refine (CA.out _ hr0.drew).mono ?_;rintro e w8 ⟨cc,rfl,hcc,hB8⟩;have HB8:=Lib.hid (zvS hB8 hr0.drew);have HCC:=Lib.hid hcc;clear hB8 hcc)
              | fail))
          have HO8:=Lib.hid (HO.out.trans (Only.of HB8.out));have HR8:=Lib.hid (HR.out.below HB8.out);rw[HCC.out];cases r with
          | false =>
            have HH8:=Lib.hid (HUP.out rfl);clear HR HO HST CA HB8 HDN HUP cx cu hr0 HCC hgr
            go_wp2_with fail
            go_roundw
            case rel=>exact⟨c+1,j,by go_num,rfl,HH8,HR8,HO8⟩
            case measure=>simp[intOf];omega
          | true =>
            have HH8:=Lib.hid (HDN.out rfl);clear HR HO HST CA HB8 HDN HUP cx cu hr0 HCC hgr
            go_wp2_with fail
            go_roundw
            case rel=>exact⟨i,c,rfl,rfl,HH8,HR8,HO8⟩
            case measure=>simp[intOf];omega
      · obtain rfl:i=j:=by omega
        obtain⟨s1,s2,s3,s4,s5,s6,s7⟩:=HX.out i HH.out;have hq:=HNN2.out;obtain⟨d,hd⟩:∃ d,i-a=d:=⟨_,rfl⟩;obtain⟨f,hf⟩:∃ f,mid-i=f:=⟨_,rfl⟩;rw[hd,hf] at s5 s6;have hul:=HUM.out;have hvl:=HVB.out;have hUs:U.take d++U.drop d=U:=List.take_append_drop _ _;have hVs:V.take f++V.drop f=V:=List.take_append_drop _ _;have lU1:(U.take d).length=d:=by simp;omega
        have lU2:(U.drop d).length=m-i:=by simp;omega
        have lV1:(V.take f).length=f:=by simp;omega
        have hnni:nn-i=m+f:=by omega
        have lV2:(V.drop f).length=b-(m+f):=by simp;omega
        have pU:=HPU.out;have pV:=HPV.out;have mU:=HMU.out;have mV:=HMV.out;have aP:=HAP.out;have hKe:=HK.out;rw[←hUs] at pU mU aP hKe;rw[←hVs] at pV mV aP hKe;have fin:∀ L:List Nat,L.Perm ((U.take d++U.drop d)++(V.take f++V.drop f))→L.Perm (U++V):=fun L h=>by rw[hUs,hVs] at h;exact h
        have FIN:=Lib.hid fin;generalize U.take d=U1 at *
        generalize U.drop d=U2 at *
        generalize V.take f=V1 at *
        generalize V.drop f=V2 at *
        have w7:IntKind.i64.wrap ((nn:Int)-(i:Int))=((m+f:Nat):Int):=by rw[IntWalk.i64_in _ (by omega)];omega
        obtain⟨e,he⟩:∃ e,m+f=e:=⟨_,rfl⟩;rw[he] at w7 lV2;have hif:i+f=mid:=by omega
        have had:a+d=i:=by omega
        have hme:m≤e:=by omega
        have heb:e≤b:=by omega
        have him:i≤m:=s2;have hie:mid+(m-i)=e:=by omega
        have lX:=HXA.out;have hKn:=HN.out;have hmidb:=k6;have hnN:=HNN.out;have lU1M:∀ x∈U1,x<M:=fun x hx=>mU x (List.mem_append_left _ hx);have lU2M:∀ x∈U2,x<M:=fun x hx=>mU x (List.mem_append_right _ hx);have lV1M:∀ x∈V1,x<M:=fun x hx=>mV x (List.mem_append_left _ hx);have lV2M:∀ x∈V2,x<M:=fun x hx=>mV x (List.mem_append_right _ hx);obtain⟨pU1,pU2,pU12⟩:=List.pairwise_append.1 pU;obtain⟨pV1,pV2,pV12⟩:=List.pairwise_append.1 pV;have aP1:∀ x∈U1,∀ y∈V1,zwn R lt x y:=fun x hx y hy=>aP x (List.mem_append_left _ hx) y (List.mem_append_left _ hy);have aP2:∀ x∈U2,∀ y∈V2,zwn R lt x y:=fun x hx y hy=>aP x (List.mem_append_right _ hx) y (List.mem_append_right _ hy)
        have join:∀ M1 M2:List Nat,M1.Perm (U1++V1)→M2.Perm (U2++V2)→M1.Pairwise R→M2.Pairwise R→(M1++M2).Perm (U++V)∧(M1++M2).Pairwise R:=fun M1 M2 h1 h2 h3 h4=>by
          have:=zsM R h1 h2 h3 h4 pU pV s5 s6;exact⟨FIN.out _ this.1,this.2⟩
        have JOIN:=Lib.hid join
        have nX:X.length+U1.length+U2.length+V1.length+V2.length+Y.length=n:=by
          rw[←hKn,←hKe];simp;omega
        have ROT:Hid (i<m→m<e→Calls Tryz.prog 279 #[.slice (some ⟨g,0,none⟩) n cap,.int .i64 i,.int .i64 m,.int .i64 e,.func (.func 146) #[] #[.pointer (some ⟨q,0,none⟩)]] wr fun ee w'=>ee=.returned (.tuple #[])∧SRow w' g (X++(U1++(V1++(U2++(V2++Y))))) E∧Only g wr w'):=fun h1 h2=>by
          have hrr:=HR.out;rw[←hKe] at hrr;have:=zoD wr g n cap (zj5 q) (X++U1) U2 V1 (V2++Y) E i m e (by simpa using hrr) (by simp;omega) (by omega) (by omega) (by omega) (by omega) (by simp;omega) hn1
          refine this.mono ?_;rintro ee w' ⟨h3,h4,h5⟩;exact⟨h3,by simpa using h4,h5⟩
        have RNO:Hid ((decide (i<m) && decide (m<e))=false→SRow wr g (X++(U1++(V1++(U2++(V2++Y))))) E):=fun h=>by
          have hrr:=HR.out;rw[←hKe] at hrr
          have hor:U2=[]∨V1=[]:=by
            simp only[Bool.and_eq_false_iff,decide_eq_false_iff_not] at h;rcases h with h | h
            · exact .inl (List.eq_nil_of_length_eq_zero (by omega))
            · exact .inr (List.eq_nil_of_length_eq_zero (by omega))
          rcases hor with rfl | rfl <;> simpa using hrr
        have C1:Hid (∀ W,SRow W g (X++(U1++(V1++(U2++(V2++Y))))) E→Only g w W→a<i→i<mid→Calls Tryz.prog 253 #[.slice (some ⟨g,0,none⟩) n cap,.int .i64 a,.int .i64 i,.int .i64 mid,.func (.func 146) #[] #[.pointer (some ⟨q,0,none⟩)]] W fun ee w'=>ee=.returned (.tuple #[])∧(∃ L,SRow w' g (X++(L++(U2++(V2++Y)))) E∧L.Perm (U1++V1)∧L.Pairwise R)∧Only g W w'):=fun W h1 h2 h3 h4 =>
          HIH.out (mid-a) (by omega) W X U1 V1 (U2++(V2++Y)) a i mid h1 lX (by omega) (by omega) (Nat.le_refl _) (by omega) (by omega) (by simp;omega) pU1 pV1 aP1 lU1M lV1M (HC.out.only h2)
        have N1:Hid ((decide (a<i) && decide (i<mid))=false→(U1++V1).Pairwise R):=fun h=>by
          simp only[Bool.and_eq_false_iff,decide_eq_false_iff_not] at h
          have hor:U1=[]∨V1=[]:=by
            rcases h with h | h
            · exact .inl (List.eq_nil_of_length_eq_zero (by omega))
            · exact .inr (List.eq_nil_of_length_eq_zero (by omega))
          rcases hor with rfl | rfl
          · simpa using pV1
          · simpa using pU1
        have C2:Hid (∀ W M1,M1.length=(U1++V1).length→SRow W g (X++(M1++(U2++(V2++Y)))) E→Only g w W→mid<e→e<b→Calls Tryz.prog 253 #[.slice (some ⟨g,0,none⟩) n cap,.int .i64 mid,.int .i64 e,.int .i64 b,.func (.func 146) #[] #[.pointer (some ⟨q,0,none⟩)]] W fun ee w'=>ee=.returned (.tuple #[])∧(∃ L,SRow w' g (X++(M1++(L++Y))) E∧L.Perm (U2++V2)∧L.Pairwise R)∧Only g W w'):=fun W M1 h0 h1 h2 h3 h4=>by
          have h0':M1.length=U1.length+V1.length:=by rw[h0,List.length_append]
          have:=HIH.out (b-mid) (by omega) W (X++M1) U2 V2 Y mid e b (by simpa using h1) (by simp;omega) (by omega) (by omega) (Nat.le_refl _) (by omega) (by omega) (by simp;omega) pU2 pV2 aP2 lU2M lV2M (HC.out.only h2)
          refine this.mono ?_;rintro ee w' ⟨h5,⟨L,h6,h7⟩,h8⟩;exact⟨h5,⟨L,by simpa using h6,h7⟩,h8⟩
        have N2:Hid ((decide (mid<e) && decide (e<b))=false→(U2++V2).Pairwise R):=fun h=>by
          simp only[Bool.and_eq_false_iff,decide_eq_false_iff_not] at h
          have hor:U2=[]∨V2=[]:=by
            rcases h with h | h
            · exact .inl (List.eq_nil_of_length_eq_zero (by omega))
            · exact .inr (List.eq_nil_of_length_eq_zero (by omega))
          rcases hor with rfl | rfl
          · simpa using pV2
          · simpa using pU2
        have W7:=Lib.hid w7;have HIM:=Lib.hid him;have HME:=Lib.hid hme;have HEB:=Lib.hid heb;clear join aP1 aP2 pU pV pU1 pU2 pU12 pV1 pV2 pV12 lU1M lU2M lV1M lV2M mU mV aP fin FIN hKe hUs hVs s5 s6 HX HA2 HH w7 him hme heb;clear HK HN HXA HUM HVB HIH HNN HPU HPV HAP HMU HMV HMID HNN2 HP hul hvl hq hd hf hnni he hif had hie lX hKn nX lU1 lU2 lV1 lV2 hnN hmidb hij s1 s2 s3 s4 s7
        go_upto_region 38 with (fail)
        go_cut [0,24] (fun s0 se wx=>s0=.slice (some ⟨g,0,none⟩) n cap∧se=.int .i64 (e:Nat)∧wx=wr)
        case first =>
          have w7:=W7.out
          go_wp2_with fail
          go_meet
          case rel=>exact⟨rfl,rfl,rfl⟩
        case rest =>
          obtain⟨rfl,rfl,hw⟩:=hcut;rw[hw];clear hw
          apply_assumption
          refine zlR (nn:=nn) g n cap q R E wr X U1 U2 V1 V2 Y a m b i e mid HIM.out HME.out HEB.out ROT RNO (Lib.hid fun W h1 h2=>C1.out W h1 (HO.out.trans h2)) N1 (Lib.hid fun W M1 h0 h1 h2=>C2.out W M1 h0 h1 (HO.out.trans h2)) N2 rfl _ ?_;intro ts w' M1 M2 p1 p2 p3 p4 hr' ho';obtain⟨j1,j2⟩:=JOIN.out M1 M2 p1 p2 p3 p4;exact bodyPost_end (results_none rfl _ _ _) rfl ⟨rfl,⟨M1++M2,by simpa using hr',j1,j2⟩,HO.out.trans ho'⟩
theorem zf8 (g n cap q M:Nat) (lt:Nat→Nat→Bool) (R:Nat→Nat→Prop) (ht:∀ x y z,R x y→R y z→R x z) (E:List Value) (hn1:n≤1000000) (N:Nat):zp8 g n cap q M lt R E N:=by
  induction N using Nat.strongRecOn with
  | _ N ih =>
    intro w X U V Y a m b hr ha hm hb hN hU hV hn pU pV hA hMU hMV hc
    by_cases hU1:U.length=1
    · obtain⟨u,rfl⟩:=List.length_eq_one_iff.1 hU1
      exact zn9 w g n cap q M lt R ht X V Y u E a m b hr ha hm hb hn hn1 pV (fun y hy=>hA u (by simp) y hy) (hMU u (by simp)) hMV hc
    · by_cases hV1:V.length=1
      · obtain⟨v,rfl⟩:=List.length_eq_one_iff.1 hV1
        exact zma w g n cap q M lt R ht X U Y v E a m b hr ha hm hb (by omega) hn hn1 pU (fun x hx=>hA x hx v (by simp)) (hMV v (by simp)) hMU hc
      · exact zuw g n cap q M lt R ht E hn1 N ih w X U V Y a m b hr ha hm hb hN (by omega) (by omega) hn pU pV hA hMU hMV hc
end Go.Proofs.YtoejfkeofbdalaaGreatDoor
