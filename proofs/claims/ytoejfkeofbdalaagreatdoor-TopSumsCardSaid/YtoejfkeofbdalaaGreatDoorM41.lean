import Derived.Test.YtoejfkeofbdalaaGreatDoorM33
set_option linter.unusedVariables false
set_option maxRecDepth 100000
set_option maxHeartbeats 8000000
namespace Go.Proofs.YtoejfkeofbdalaaGreatDoor
open Go.RowKit
theorem zie (w:World) (v:Value) (xs:List Int) (p:Int→Bool) (k:Nat) (cap:Array Value) (hk:Enters Tryz.prog k) (hv:IsInts w w.heap.size v xs) (hlen:xs.length≤281474976710656)
    (hf:∀ x∈xs,∀ W,Below w.heap.size w W→Calls Tryz.prog k (#[.int .i64 x]++cap) W fun e W'=>e=.returned (.bool (p x))∧Below W.heap.size W W') :
    Calls Tryz.prog 142 #[v,.func (.func k) #[] cap] w fun e w'=>e=.returned (.int .i64 (znF p xs))∧Below w.heap.size w w':=by
  obtain⟨A,ca,rfl,hc1,hc2⟩:=hv.shape;obtain⟨N,hN⟩:∃ N,xs.length=N:=⟨_,rfl⟩;rw[hN] at hv hc1 ⊢;have Hv:=Lib.hid hv;have Hf:=Lib.hid hf;have HN:=Lib.hid hN;have hlN:N≤281474976710656:=by omega
  clear hv hf hN hlen;have hen:=hk;unfold Enters at hen
  go_enter Tryz.func142,Tryz.ntmps142
  go_wp2
  go_loopw [8] (fun i wr=>∃ j:Nat,j≤N∧i=.int .i64 j∧Hid (∀ i y,i<j→xs[i]?=some y→p y=false)∧Below w.heap.size w wr) (fun i _=>N+1-(intOf i).toNat)
  case atStart=>exact⟨0,Nat.zero_le _,rfl,fun i y h=>by omega,Below.refl _ _⟩
  case round =>
    obtain⟨j,hj,rfl,hall,hB⟩:=hrel
    by_cases hlt:j<N
    · obtain⟨g,o,rfl,hg,hx⟩:=Hv.out.at j (by rw[HN.out];exact hlt)
      obtain⟨x,hxe⟩:∃ x,xs[j]?=some x:=⟨_,List.getElem?_eq_getElem (by rw[HN.out];exact hlt)⟩
      rw[hxe] at hx;simp only[Option.getD_some] at hx;have hx':wr.cell? ⟨g,o+j,none⟩=some (.int .i64 x):=(hB.cell (p:=⟨g,o+j,none⟩) hg).trans hx;have C:=Lib.hid (Hf.out x (List.mem_of_getElem? hxe) wr hB);have Hxe:=Lib.hid hxe;obtain⟨px,hpx⟩:∃ b,p x=b:=⟨_,rfl⟩;rw[hpx] at C;have Hpx:=Lib.hid hpx;clear hx hxe hpx
      go_wp2_with fail
      refine C.out.mono ?_;rintro e w1 ⟨rfl,hB1⟩;have hB2:Below w.heap.size w w1:=hB.trans (hB1.mono hB.size);clear hB1;cases px with
      | true =>
        go_wp2_with fail
        go_ret
        exact⟨zbU (ziB Hxe.out Hpx.out hall).symm,hB2⟩
      | false =>
        go_wp2_with fail
        go_roundw
        case rel=>exact⟨j+1,by omega,by go_num,fun i y hi hy=>(by
          by_cases e:i=j
          · subst e;rw[Hxe.out] at hy;injection hy with hy;subst hy;exact Hpx.out
          · exact hall i y (by omega) hy),hB2⟩
        case measure=>simp[intOf];omega
    · obtain rfl:j=N:=by omega
      go_wp2
      go_ret
      refine⟨zbU (zkl fun i y hy=>hall i y ?_ hy).symm,hB⟩;rw[←HN.out];exact (List.getElem?_eq_some_iff.1 hy).1
theorem zfQ (w:World) (v:Value) (xs:List Int) (p:Int→Bool) (k:Nat) (cap:Array Value) (hk:Enters Tryz.prog k) (hv:IsInts w w.heap.size v xs) (hlen:xs.length≤281474976710656)
    (hf:∀ x∈xs,∀ W,Below w.heap.size w W→Calls Tryz.prog k (#[.int .i64 x]++cap) W fun e W'=>e=.returned (.bool (p x))∧Below W.heap.size W W') :
    Calls Tryz.prog 82 #[v,.func (.func k) #[] cap] w fun e w'=>e=.returned (.bool (xs.any p))∧Below w.heap.size w w':=by
  have C:=Lib.hid (zie w v xs p k cap hk hv hlen hf);have hg:=zqR p xs;generalize znF p xs=z at *
  have Hg:=Lib.hid hg;clear hf hv hg
  go_enter Tryz.func82,Tryz.ntmps82
  go_wp2_with fail
  refine C.out.mono ?_;rintro e w1 ⟨rfl,hB⟩
  go_wp2_with fail
  go_ret
  exact⟨zfy Hg.out,hB⟩
def WorkAt (w:World) (b:Nat) (A:ByteArray) (o:Nat) (sv:Value) (most:Nat) (lv:Value) (bs:ByteArray):Prop:=w.heap[b]?=some (.cells #[.string A,.int .i64 (o:Nat),sv,.int .i64 (most:Nat),lv,.string bs] 438 (0,0))
theorem WorkAt.below {w w':World} {b o most:Nat} {A bs:ByteArray} {sv lv:Value} (h:WorkAt w b A o sv most lv bs) (hB:Below w.heap.size w w'):WorkAt w' b A o sv most lv bs:=(hB.block b (zab h)).trans h
theorem zjy (e0:Int) (w:World):Calls Tryz.prog 316 #[.int .i64 e0] w fun e w'=>e=.returned (.int .i64 e0)∧w=w':=by
  go_enter Tryz.func316,Tryz.ntmps316
  go_wp2_with fail
  go_ret
  exact⟨rfl,rfl⟩
theorem zlw (w:World):Calls Tryz.prog 320 #[.int .i64 0] w fun e w'=>e=.returned (.int .i64 0)∧w=w':=by
  go_enter Tryz.func320,Tryz.ntmps320
  go_wp2_with fail
  go_ret
  exact⟨rfl,rfl⟩
theorem zo2 (w:World) (b o most:Nat) (A bs:ByteArray) (sv lv:Value) (h:WorkAt w b A o sv most lv bs) (h0:A.data.toList≠[]) (hA:zai A.data.toList=A.data.toList) (hs:A.size≤1000000) :
    Calls Tryz.prog 315 #[.pointer (some ⟨b,0,none⟩)] w fun e w'=>e=.returned (.int .i64 0)∧Below w.heap.size w w':=by
  have CA:Hid (∀ W,Calls Tryz.prog 32 #[.string A] W fun e w'=>e=.returned (.string A)∧Below W.heap.size W w'):=fun W=>by
    have:=zdZ W A hs;rw[hA] at this;exact this
  have he:(A.toList.isEmpty)=false:=by rw[List.isEmpty_eq_false_iff];intro e;exact h0 (by simpa [ByteArray.toList_eq] using e)
  have hb:=zab h;have c0:=(zaa h 0).trans rfl;have HkW:Hid (∀ w':World,Below w.heap.size w w'→Below w.heap.size w w'∧w'.cell? ⟨b,0,none⟩=some (.string A)):=fun w' hB=>⟨hB,(hB.cell (p:=⟨b,0,none⟩) hb).trans c0⟩;have hbW:Below w.heap.size w w:=Below.refl _ _;clear h h0 hA
  go_enter Tryz.func315,Tryz.ntmps315
  go_wp2_with fail
  go_region_held3 (fun w'=>Below w.heap.size w w'∧w'.cell? ⟨b,0,none⟩=some (.string A))
    ((refine HkW.out _ ?_;first | assumption | exact zwd (by assumption) | exact And.left (by assumption) | exact zvS (by assumption) (And.left (by assumption)) | fail))
    ((first
      | (go_at_call 32
         refine (CA.out _).mono ?_;rintro e w8 ⟨rfl,hB8⟩;have hW8:Below w.heap.size w w8:=zvS hB8 (And.left (by assumption)))
      | fail))
  go_wp2_with fail
  go_ret
  exact⟨rfl,hW8⟩
theorem zi6 {w:World} {B b k:Nat} {v u x:Value} {xs:List Int} (h:IsInts w B v xs) (hx:w.cell? ⟨b,k,none⟩=some x) (hn:∀ z,x≠.int .i64 z):IsInts (w.setCell ⟨b,k,none⟩ u) B v xs:=by
  obtain⟨h1,A,cap,hv,h2,h3,h4⟩:=h;refine⟨h1,A,cap,hv,h2,h3,fun hn'=>?_⟩;obtain⟨g,o,hA,hg,hc⟩:=h4 hn';refine⟨g,o,hA,hg,fun i y hy=>?_⟩;rw[World.cell?_setCell_other]
  · exact hc i y hy
  · intro e
    have h5:=hc i y hy;rw[←e,hx] at h5;cases h5
    rw[getElem?_intCells] at hy;cases hz:xs[i]? with
    | none=>rw[hz] at hy;simp at hy
    | some z =>
      rw[hz] at hy;exact hn z (by simpa using hy.symm)
theorem zmj {w:World} {B:Nat} {v:Value} {xs:List Int} (h:IsInts w B v xs):IsInts w.drew B v xs:=h
def ziJ (n:Nat) (x:Int):Bool:=decide (x<0) || decide (((n+1:Nat):Int)≤x)
theorem zoP (w:World) (pb b o most:Nat) (A bs:ByteArray) (sv lv:Value) (x:Int) (h:WorkAt w b A o sv most lv bs) (hp:w.cell? ⟨pb,0,none⟩=some (.pointer (some ⟨b,0,none⟩))) (hs:A.size≤1000000) :
    Calls Tryz.prog 338 #[.int .i64 x,.pointer (some ⟨pb,0,none⟩)] w fun e w'=>e=.returned (.bool (ziJ A.size x))∧Below w.heap.size w w':=by
  have CE:=Lib.hid fun W=>ze4 A o sv W hs;have c0:=(zaa h 0).trans rfl;have c1:=(zaa h 1).trans rfl;have c2:=(zaa h 2).trans rfl;obtain⟨r,hr⟩:∃ r,ziJ A.size x=r:=⟨_,rfl⟩;rw[hr];unfold ziJ at hr;obtain⟨n1,hn1⟩:∃ n1,A.size+1=n1:=⟨_,rfl⟩;rw[hn1] at hr CE;have HR:=Lib.hid hr;clear h hr hn1
  go_enter Tryz.func338,Tryz.ntmps338
  by_cases hx:x<0
  · have hd:decide (x<0)=true:=decide_eq_true hx
    have hv:r=true:=by rw[←HR.out,hd];rfl
    subst hv;clear hx
    go_wp2_with fail
    go_ret
    exact⟨rfl,Below.refl _ _⟩
  · have hd:decide (x<0)=false:=decide_eq_false hx
    have hv:decide ((n1:Int)≤x)=r:=by rw[←HR.out,hd];rfl
    clear hx
    go_wp2_with fail
    refine (CE.out _).mono ?_;rintro e w' ⟨rfl,hB⟩;have HB:=Lib.hid hB;clear hB CE c0 c1 c2
    go_wp2_with fail
    go_ret
    exact⟨rfl,HB.out⟩
theorem zj2:Enters Tryz.prog 338:=enters_of Tryz.func338 (by kernel_rfl) rfl
theorem zrT (w:World) (b o most n m c:Nat) (q:Option Addr) (A bs:ByteArray) (q0:Option Addr) (l0 c0:Nat) (xs:List Int) (h:WorkAt w b A o (.slice q m c) most (.slice q0 l0 c0) bs) (hi:IsInts w w.heap.size (.slice q m c) (xs++[((A.size+1:Nat):Int)])) (hn:xs.length=n) (hm:n+1=m)
    (hx:∀ x∈xs,0≤x∧x≤A.size) (hs:A.size≤1000000) (hn1:n≤1000000) :
    Calls Tryz.prog 317 #[.pointer (some ⟨b,0,none⟩)] w fun e w'=>e=.returned (.int .i64 0)∧∃ q2 c2,WorkAt w' b A o (.slice q m c) most (.slice q2 n c2) bs∧IsInts w' w'.heap.size (.slice q2 n c2) xs∧Only b w w':=by
  have hmf:=hmf;have hb:=zab h;have hB0:Below w.heap.size w (w.alloc (.cells #[.pointer (some ⟨b,0,none⟩)] 441)):=(Below.refl _ _).alloc (Nat.le_refl _) _;have hp0:(w.alloc (.cells #[.pointer (some ⟨b,0,none⟩)] 441)).heap[w.heap.size]?=some (.cells #[.pointer (some ⟨b,0,none⟩)] 441 (0,0)):=zae _ _ _ rfl;have hw0:=h.below hB0;have hi0:=zwb hi hB0;have hi1:=hi0;obtain⟨v2,hv2,⟨q2,c2,hv2s⟩,-,-,hcut⟩:=hi0.cut 0 n (Nat.zero_le _) (by omega)
  rw[Nat.sub_zero] at hv2s;subst hv2s;have hcut:=hcut rfl;have htk:((xs++[((A.size+1:Nat):Int)]).take n).drop 0=xs:=by rw[List.drop_zero,List.take_left' hn]
  rw[htk] at hv2;obtain⟨g1,o1,rfl,hg1,hlast⟩:=hi1.at n (by simp;omega)
  rw[List.getElem?_append_right (by omega),hn,Nat.sub_self,List.getElem?_cons_zero,Option.getD_some] at hlast
  have CE:=Lib.hid fun W=>ze4 A o (.slice (some ⟨g1,o1,none⟩) m c) W hs;obtain⟨n1,hn1e⟩:∃ n1,A.size+1=n1:=⟨_,rfl⟩;rw[hn1e] at hlast CE
  have hany:xs.any (ziJ A.size)=false:=by
    rw[List.any_eq_false];intro x hx';have:=hx x hx';simp only[ziJ,Bool.or_eq_true,decide_eq_true_eq];omega
  generalize hW0:w.alloc (.cells #[.pointer (some ⟨b,0,none⟩)] 441)=W0 at *
  obtain⟨pb,hpb⟩:∃ pb,w.heap.size=pb:=⟨_,rfl⟩;rw[hpb] at hp0;have hlb:=zab hw0;have hlp:=zab hp0;have HPW:Hid (∀ W,Below W0.heap.size W0 W→W.cell? ⟨pb,0,none⟩=some (.pointer (some ⟨b,0,none⟩))):=fun W hB=>(hB.cell (p:=⟨pb,0,none⟩) hlp).trans (zaa hp0 0)
  have CC:Hid (∀ W,Below W0.heap.size W0 W→Calls Tryz.prog 82 #[.slice q2 n c2,.func (.func 338) #[] #[.pointer (some ⟨pb,0,none⟩)]] W fun e w'=>e=.returned (.bool false)∧Below W.heap.size W w'):=fun W hB=>by
    have:=zfQ W (.slice q2 n c2) xs (ziJ A.size) 338 #[.pointer (some ⟨pb,0,none⟩)] zj2 (zwb hv2 hB) (by omega) (fun x _ W' hB'=>zoP W' pb b o most A bs _ _ x (hw0.below (hB.trans (hB'.mono hB.size))) (HPW.out W' (hB.trans (hB'.mono hB.size))) hs)
    rw[hany] at this;exact this
  have k0:=(zaa hw0 0).trans rfl;have k1:=(zaa hw0 1).trans rfl;have k2:=(zaa hw0 2).trans rfl;have kp:=HPW.out W0 (Below.refl _ _)
  have HkW:Hid (∀ w':World,Below W0.heap.size W0 w'→Below W0.heap.size W0 w'∧w'.cell? ⟨pb,0,none⟩=some (.pointer (some ⟨b,0,none⟩))∧w'.cell? ⟨b,0,none⟩=some (.string A)∧w'.cell? ⟨b,1,none⟩=some (.int .i64 (o:Nat))∧w'.cell? ⟨b,2,none⟩=some (.slice (some ⟨g1,o1,none⟩) m c)∧w'.cell? ⟨g1,o1+n,none⟩=some (.int .i64 (n1:Nat))):=fun w' hB =>
    ⟨hB,HPW.out w' hB,(hB.cell (p:=⟨b,0,none⟩) hlb).trans k0,(hB.cell (p:=⟨b,1,none⟩) hlb).trans k1,(hB.cell (p:=⟨b,2,none⟩) hlb).trans k2,(hB.cell (p:=⟨g1,o1+n,none⟩) hg1).trans hlast⟩
  have hbW:Below W0.heap.size W0 W0:=Below.refl _ _;have HW0:=Lib.hid hw0;have HV2:=Lib.hid hv2;have HB0:=Lib.hid hB0;have HN1:=Lib.hid hn1e;have w1:IntKind.i64.wrap ((m:Int)-1)=(n:Int):=by rw[IntWalk.i64_in _ (by omega)];omega
  have hnm:n<m:=by omega
  have hd:decide ((n:Int)<0)=false:=decide_eq_false (by omega)
  have hcut2:=Lib.hid hcut;clear h hi hi1 hi0 hx htk hany hw0 hv2 hB0 hn hp0 k0 k1 k2 HPW hcut;have hcut:=hcut2.out;clear hm;clear hlast kp;obtain⟨-,kp,k0,k1,k2,kl⟩:=HkW.out W0 hbW
  go_enter Tryz.func317,Tryz.ntmps317
  go_wp2_with fail
  clear hW0;have HPB:=Lib.hid hpb;clear hpb
  go_region_held3 (fun w'=>Below W0.heap.size W0 w'∧w'.cell? ⟨pb,0,none⟩=some (.pointer (some ⟨b,0,none⟩))∧w'.cell? ⟨b,0,none⟩=some (.string A)∧w'.cell? ⟨b,1,none⟩=some (.int .i64 (o:Nat))∧w'.cell? ⟨b,2,none⟩=some (.slice (some ⟨g1,o1,none⟩) m c)∧w'.cell? ⟨g1,o1+n,none⟩=some (.int .i64 (n1:Nat)))
    ((refine HkW.out _ ?_;first | assumption | exact zwd (by assumption) | exact And.left (by assumption) | exact zvS (by assumption) (And.left (by assumption)) | fail))
    ((first
      | (go_at_call 117
         refine (CE.out _).mono ?_;rintro e w8 ⟨rfl,hB8⟩;have hW8:Below W0.heap.size W0 w8:=zvS hB8 (And.left (by assumption)))
      | (go_at_call 82
         refine (CC.out _ (And.left (by assumption))).mono ?_
         rintro e w9 ⟨rfl,hB9⟩;have hW9:Below W0.heap.size W0 w9:=zvS hB9 (And.left (by assumption)))
      | fail))
  rename_i hheld
  clear hheld;have hw9:=HW0.out.below hW9;have kp9:=(HkW.out w9 hW9).2.1;have j2:=(zaa hw9 2).trans rfl;have j4:=(zaa hw9 4).trans rfl;have f4:=zac hw9 4;have hl9:=zab hw9;have HW9:=Lib.hid hw9;have HB9:=Lib.hid hW9;clear hw9 hW9 hW8 kp k0 k1 k2 kl HkW CC CE hB9 hB8
  go_wp2_with fail
  go_region
  have hfin:=zaf HW9.out 4 (.slice q2 n c2);have hO1:Only b w w9:=Only.of (HB0.out.trans (HB9.out.mono HB0.out.size))
  have HFIN:Hid (WorkAt (w9.setCell ⟨b,4,none⟩ (.slice q2 n c2)).drew b A o (.slice (some ⟨g1,o1,none⟩) m c) most (.slice q2 n c2) bs):=by
    show WorkAt _ _ _ _ _ _ _ _
    have e:(w9.setCell ⟨b,4,none⟩ (.slice q2 n c2)).drew.heap=(w9.setCell ⟨b,4,none⟩ (.slice q2 n c2)).heap:=rfl;unfold WorkAt;rw[e];simpa using hfin
  have HO2:Hid (Only b w (w9.setCell ⟨b,4,none⟩ (.slice q2 n c2)).drew):=by
    have:=hO1.set 4 (.slice q2 n c2);exact⟨this.os,this.tape,this.output,this.size,this.block⟩
  have HI9:Hid (IsInts (w9.setCell ⟨b,4,none⟩ (.slice q2 n c2)).drew (w9.setCell ⟨b,4,none⟩ (.slice q2 n c2)).drew.heap.size (.slice q2 n c2) xs):=by
    have h1:=zi6 (u:=.slice q2 n c2) (zwb HV2.out HB9.out) j4 (fun z e=>by cases e)
    have h2:(w9.setCell ⟨b,4,none⟩ (.slice q2 n c2)).drew.heap.size=w9.heap.size:=by simp[World.setCell,World.drew]
    show IsInts _ _ _ _
    rw[h2];exact zmj h1
  clear hfin hO1
  go_wp2_with fail
  go_ret
  exact⟨rfl,_,_,HFIN.out,HI9.out,HO2.out⟩
theorem zm4 {w w':World} {v:Value} {xs:List Int} (h:IsInts w' w.heap.size v xs) (e:w'.heap.size=w.heap.size):IsInts w' w'.heap.size v xs:=by rw[e];exact h
theorem zrl {w w1:World} {b o most n c:Nat} {q:Option Addr} {A bs:ByteArray} {sv v2:Value} {ys:List Int} (h:WorkAt w1 b A o sv most (.slice q n c) bs) (hu:IsInts w1 w1.heap.size v2 ys) (hB:Below w.heap.size w w1) :
    WorkAt (w1.setCell ⟨b,4,none⟩ v2) b A o sv most v2 bs∧IsInts (w1.setCell ⟨b,4,none⟩ v2) (w1.setCell ⟨b,4,none⟩ v2).heap.size v2 ys∧Only b w (w1.setCell ⟨b,4,none⟩ v2):=by
  refine⟨?_,?_,(Only.of hB).set 4 _⟩
  · have h1:=zaf h 4 v2
    unfold WorkAt;simpa using h1
  · exact zm4 (zi6 hu ((zaa h 4).trans rfl) (fun z e=>by cases e)) (by simp[World.setCell])
theorem zkc {w w1:World} {b o most:Nat} {A bs:ByteArray} {sv lv:Value} (cs:ByteArray) (h:WorkAt w1 b A o sv most lv bs) (hB:Below w.heap.size w w1) :
    WorkAt (w1.setCell ⟨b,5,none⟩ (.string cs)) b A o sv most lv cs∧Only b w (w1.setCell ⟨b,5,none⟩ (.string cs)):=by
  refine⟨?_,(Only.of hB).set 5 _⟩;have h1:=zaf h 5 (.string cs);unfold WorkAt;simpa using h1
theorem zpS (w:World) (b o most n c:Nat) (q:Option Addr) (A bs:ByteArray) (sv:Value) (xs ys:List Int) (h:WorkAt w b A o sv most (.slice q n c) bs) (hi:IsInts w w.heap.size (.slice q n c) xs) (hl:xs.length≤1000000) (hr:I64s xs) (hm:most≤1000000)
    (hv:zpn xs most=ys) (he:zpt xs most=0) :
    Calls Tryz.prog 318 #[.pointer (some ⟨b,0,none⟩)] w fun e w'=>e=.returned (.int .i64 0)∧∃ q2 c2,WorkAt w' b A o sv most (.slice q2 ys.length c2) bs∧IsInts w' w'.heap.size (.slice q2 ys.length c2) ys∧Only b w w':=by
  have CD:Hid (∀ W,Below w.heap.size w W→Calls Tryz.prog 339 #[.slice q n c,.int .i64 (most:Nat)] W fun e w'=>∃ u,e=.returned (.tuple #[u,.int .i64 0])∧OwnInts w' W.heap.size u ys∧Below W.heap.size W w'):=fun W hB=>by
    have:=znN W (.slice q n c) xs (most:Nat) (zwb hi hB) (by omega) hr (by omega) (by omega)
    rw[hv,he] at this;exact this
  have k3:=(zaa h 3).trans rfl;have k4:=(zaa h 4).trans rfl;have HW:=Lib.hid h;clear h hi hv he
  go_enter Tryz.func318,Tryz.ntmps318
  go_wp2_with fail
  have hbW:Below w.heap.size w w:=Below.refl _ _
  go_region_with ((go_at_call 339
                   refine (CD.out _ hbW.drew).mono ?_;rintro e w1 ⟨u,rfl,hu,hB1⟩;obtain⟨q2,c2,rfl⟩:=hu.shape;have HU:=Lib.hid hu;have HB1:Hid (Below w.heap.size w w1):=zvS hB1 hbW.drew;have hw1:=HW.out.below HB1.out;have j4:=(zaa hw1 4).trans rfl;have f4:=zac hw1 4;have hl1:=zab hw1;have HW1:=Lib.hid hw1;clear hu hB1 hw1))
  all_goals
    obtain⟨h1,h2,h3⟩:=zrl HW1.out (OwnInts.is HU.out) HB1.out;have H1:=Lib.hid h1;have H2:=Lib.hid h2;have H3:=Lib.hid h3;clear h1 h2 h3
    go_wp2_with fail
    go_ret
    exact⟨rfl,_,_,H1.out,H2.out,H3.out⟩
theorem zuT (w:World) (b o most n c:Nat) (q:Option Addr) (A bs T:ByteArray) (sv:Value) (xs:List Int) (h:WorkAt w b A o sv most (.slice q n c) bs) (hi:IsInts w w.heap.size (.slice q n c) xs) (hn:xs.length=n) (hn0:0<n) (hl:xs.length≤1000000) (hA0:0<A.size) (hA:A.size≤1000000)
    (hv:zdp A.data.toList xs=(T.data.toList,0)) :
    Calls Tryz.prog 319 #[.pointer (some ⟨b,0,none⟩)] w fun e w'=>e=.returned (.int .i64 0)∧WorkAt w' b A o sv most (.slice q n c) T∧Only b w w':=by
  have CD:Hid (∀ W,Below w.heap.size w W→Calls Tryz.prog 29 #[.string A,.slice q n c] W fun e w'=>e=.returned (.tuple #[.string T,.int .i64 0])∧Below W.heap.size W w'):=fun W hB=>by
    have:=zkf A (.slice q n c) xs W (zwb hi hB) hA0 hA hl;rw[hv] at this;exact this
  have k0:=(zaa h 0).trans rfl;have k4:=(zaa h 4).trans rfl;have d0:((n:Int) == 0)=false:=by simp;omega
  have HW:=Lib.hid h;clear h hi hv hn
  go_enter Tryz.func319,Tryz.ntmps319
  go_wp2_with fail
  have hbW:Below w.heap.size w w:=Below.refl _ _
  go_region_with ((go_at_call 29
                   refine (CD.out _ hbW.drew).mono ?_;rintro e w1 ⟨rfl,hB1⟩;have HB1:Hid (Below w.heap.size w w1):=zvS hB1 hbW.drew;have hw1:=HW.out.below HB1.out;have j5:=(zaa hw1 5).trans rfl;have f5:=zac hw1 5;have hl1:=zab hw1;have HW1:=Lib.hid hw1;clear hB1 hw1))
  all_goals
    obtain⟨h1,h2⟩:=zkc T HW1.out HB1.out;have H1:=Lib.hid h1;have H2:=Lib.hid h2;clear h1 h2
    go_wp2_with fail
    go_ret
    exact⟨rfl,H1.out,H2.out⟩
theorem zsW (w:World) (b o most:Nat) (A bs:ByteArray) (sv lv:Value) (h:WorkAt w b A o sv most lv bs) (hs:bs.size≤1000000) (ho:o<max bs.size 1) :
    Calls Tryz.prog 321 #[.pointer (some ⟨b,0,none⟩)] w fun e w'=>e=.returned (.int .i64 0)∧WorkAt w' b A o sv most lv ⟨(zfD (zaJ bs) o).toArray⟩∧Only b w w':=by
  have CD:Hid (∀ W,Calls Tryz.prog 30 #[.string bs,.int .i64 (o:Nat)] W fun e w'=>e=.returned (.tuple #[.string ⟨(zfD (zaJ bs) o).toArray⟩,.int .i64 0])∧Below W.heap.size W w'):=fun W=>zkQ bs o W hs ho;obtain⟨T,hT⟩:∃ T:ByteArray,⟨(zfD (zaJ bs) o).toArray⟩=T:=⟨_,rfl⟩;rw[hT] at CD ⊢;have k1:=(zaa h 1).trans rfl;have k5:=(zaa h 5).trans rfl;have HW:=Lib.hid h;clear h hT
  go_enter Tryz.func321,Tryz.ntmps321
  go_wp2_with fail
  have hbW:Below w.heap.size w w:=Below.refl _ _
  go_region_with ((go_at_call 30
                   refine (CD.out _).mono ?_;rintro e w1 ⟨rfl,hB1⟩;have HB1:Hid (Below w.heap.size w w1):=zvS hB1 hbW.drew;have hw1:=HW.out.below HB1.out;have j5:=(zaa hw1 5).trans rfl;have f5:=zac hw1 5;have hl1:=zab hw1;have HW1:=Lib.hid hw1;clear hB1 hw1))
  all_goals
    obtain⟨h1,h2⟩:=zkc T HW1.out HB1.out;have H1:=Lib.hid h1;have H2:=Lib.hid h2;clear h1 h2
    go_wp2_with fail
    go_ret
    exact⟨rfl,H1.out,H2.out⟩
theorem zvr (t:Value) (w:World):Calls Tryz.prog 322 #[.nilIface,t] w fun e w'=>e=.returned (.bool false)∧w=w':=by
  go_enter Tryz.func322,Tryz.ntmps322
  go_wp2_with fail
  go_ret
  exact⟨rfl,rfl⟩
abbrev fnV (k:Nat):Value:=.func (.func k) #[] #[]
structure StepOk (b sb:Nat) (P:Nat→World→Prop) (i F G:Nat):Prop where
  f:Enters Tryz.prog F
  g:Enters Tryz.prog G
  fs:∀ W,P i W→Calls Tryz.prog F #[.pointer (some ⟨b,0,none⟩)] W fun e w'=>e=.returned (.int .i64 0)∧P (i+1) w'∧Only b W w'
  gs:∀ W,Calls Tryz.prog G #[.int .i64 0] W fun e w'=>e=.returned (.int .i64 0)∧W=w'
  c0:∀ W,P i W→W.cell? ⟨sb,i*2,none⟩=some (fnV F)
  c1:∀ W,P i W→W.cell? ⟨sb,i*2+1,none⟩=some (fnV G)
theorem zvk (w:World) (b sb n cap:Nat) (P:Nat→World→Prop) (st:List (Nat × Nat)) (hst:st.length=n) (hn:n≤1000) (hb:∀ i W,P i W→b<W.heap.size) (hstep:∀ (i:Nat) (s:Nat × Nat),st[i]?=some s→StepOk b sb P i s.1 s.2) (hB:∀ i W W',P i W→Below W.heap.size W W'→P i W') (h0:P 0 w) :
    Calls Tryz.prog 314 #[.pointer (some ⟨b,0,none⟩),.slice (some ⟨sb,0,none⟩) n cap] w fun e w'=>e=.returned .nilIface∧P n w':=by
  have HST:=Lib.hid hst;have HS:=Lib.hid hstep;have HB:=Lib.hid hB;have HP:=Lib.hid h0;have HBL:=Lib.hid hb;clear hst hstep hB h0 hb
  go_enter Tryz.func314,Tryz.ntmps314
  go_wp2_with fail
  go_loopw [10] (fun iv wr=>∃ i:Nat,i≤n∧iv=.int .i64 (i:Nat)∧Hid (P i wr)) (fun iv _=>n+1-(intOf iv).toNat)
  case atStart=>exact⟨0,Nat.zero_le _,rfl,HP⟩
  case round =>
    clear HP;obtain⟨i,hi,rfl,HP⟩:=hrel
    by_cases hlt:i<n
    · obtain⟨⟨F,G⟩,hs⟩:∃ s,st[i]?=some s:=⟨_,List.getElem?_eq_getElem (by rw[HST.out];exact hlt)⟩
      have hok:=HS.out i _ hs;have k0:=hok.c0 wr HP.out;have k1:=hok.c1 wr HP.out;have hF:=hok.f;have hG:=hok.g;simp only at k0 k1 hF hG;unfold Enters at hF hG;have HOK:=Lib.hid hok;have hbl:=HBL.out i wr HP.out;clear hok hs;have w1:IntKind.i64.wrap ((i:Int)+1)=((i+1:Nat):Int):=by rw[IntWalk.i64_in _ (by omega)];omega
      have hBx:Below wr.heap.size wr (wr.alloc (.cells #[fnV F,fnV G] 445)):=(Below.refl _ _).alloc (Nat.le_refl _) _;have hbx:(wr.alloc (.cells #[fnV F,fnV G] 445)).heap[wr.heap.size]?=some (.cells #[fnV F,fnV G] 445 (0,0)):=zae _ _ _ rfl;have hP1:=HB.out i wr _ HP.out hBx;obtain⟨bx,hbe⟩:∃ bx,wr.heap.size=bx:=⟨_,rfl⟩;have HP1:=Lib.hid hP1;clear hP1 hBx
      go_wp2_with fail
      rw[hbe] at hbx hbl;generalize wr.alloc (.cells #[fnV F,fnV G] 445)=W1 at *
      clear hbe HP;have c0:=(zaa hbx 0).trans rfl;have c1:=(zaa hbx 1).trans rfl;have CF:Hid (∀ W,Below W1.heap.size W1 W→Calls Tryz.prog F #[.pointer (some ⟨b,0,none⟩)] W fun e w'=>e=.returned (.int .i64 0)∧P (i+1) w'∧Only b W w'):=fun W hB=>HOK.out.fs W (HB.out i _ _ HP1.out hB);have CG:=Lib.hid HOK.out.gs;have HBX:=Lib.hid hbx;have hbW:Below W1.heap.size W1 W1:=Below.refl _ _
      have hk:∀ w',Only b W1 w'→w'.cell? ⟨bx,0,none⟩=some (fnV F)∧w'.cell? ⟨bx,1,none⟩=some (fnV G):=fun w' h=>by
        have:=h.other HBX.out (by omega)
        exact⟨(zaa this 0).trans rfl,(zaa this 1).trans rfl⟩
      have HK:=Lib.hid hk;clear hbx k0 k1 hk
      go_region_held3 (fun w'=>w'.cell? ⟨bx,0,none⟩=some (fnV F)∧w'.cell? ⟨bx,1,none⟩=some (fnV G))
        ((first | exact HK.out _ (Only.of hbW.drew) | exact HK.out _ (Only.of hbW) | exact HK.out _ ho8 | fail))
        ((first
          | (with_reducible show Calls Tryz.prog F _ _ _
             refine (CF.out _ hbW.drew).mono ?_;rintro e w8 ⟨rfl,hp8,ho⟩;have ho8:Only b W1 w8:=(Only.of hbW.drew).trans ho;have HP8:=Lib.hid hp8;clear ho hp8)
          | (with_reducible show Calls Tryz.prog G _ _ _
             refine (CG.out _).mono ?_;rintro e w9 ⟨rfl,rfl⟩)
          | fail))
      clear c0 c1 HBX HK CF CG HP1 hbW ho8
      go_wp2_with fail
      go_roundw
      case rel=>exact⟨i+1,by omega,by go_num,HP8⟩
      case measure=>simp[intOf];omega
    · obtain rfl:i=n:=by omega
      go_wp2_with fail
      go_ret
      exact⟨rfl,HP.out⟩
def zkK:Array Value:=#[fnV 315,fnV 316,fnV 317,fnV 316,fnV 318,fnV 316,fnV 319,fnV 320,fnV 321,fnV 320]
def ztP:List (Nat × Nat):=[(315,316),(317,316),(318,316),(319,320),(321,320)]
def wayC (W:World) (b:Nat) (A:ByteArray) (o:Nat) (q:Option Addr) (m c most:Nat) (p:List UInt8):Nat→Prop
  | 0=>WorkAt W b A o (.slice q m c) most (.slice none 0 0) ⟨#[]⟩∧IsInts W W.heap.size (.slice q m c) (ints (zbk p))
  | 1=>WorkAt W b A o (.slice q m c) most (.slice none 0 0) ⟨#[]⟩∧IsInts W W.heap.size (.slice q m c) (ints (zbk p))
  | 2=>∃ q2 c2,WorkAt W b A o (.slice q m c) most (.slice q2 (zgv p).length c2) ⟨#[]⟩∧IsInts W W.heap.size (.slice q2 (zgv p).length c2) (ints (zgv p))
  | 3=>∃ q2 c2,WorkAt W b A o (.slice q m c) most (.slice q2 p.length c2) ⟨#[]⟩∧IsInts W W.heap.size (.slice q2 p.length c2) (ints (frF p))
  | 4=>∃ lv,WorkAt W b A o (.slice q m c) most lv (zan (zia p))
  | _=>∃ lv,WorkAt W b A o (.slice q m c) most lv (zan p)
structure WayAt (w W:World) (b sb:Nat) (A:ByteArray) (o:Nat) (q:Option Addr) (m c most:Nat) (p:List UInt8) (i:Nat):Prop where
  bel:Below w.heap.size w W
  st:W.heap[sb]?=some (.cells zkK 445 (0,0))
  at_:wayC W b A o q m c most p i
theorem wayC.below {W W':World} {b o m c most:Nat} {q:Option Addr} {A:ByteArray} {p:List UInt8} {i:Nat} (h:wayC W b A o q m c most p i) (hB:Below W.heap.size W W'):wayC W' b A o q m c most p i:=by
  match i,h with
  | 0,h=>exact⟨h.1.below hB,zwb h.2 hB⟩
  | 1,h=>exact⟨h.1.below hB,zwb h.2 hB⟩
  | 2,⟨q2,c2,h1,h2⟩=>exact⟨q2,c2,h1.below hB,zwb h2 hB⟩
  | 3,⟨q2,c2,h1,h2⟩=>exact⟨q2,c2,h1.below hB,zwb h2 hB⟩
  | 4,⟨lv,h⟩=>exact⟨lv,h.below hB⟩
  | (i+5),⟨lv,h⟩=>exact⟨lv,h.below hB⟩
theorem wayC.lt {W:World} {b o m c most:Nat} {q:Option Addr} {A:ByteArray} {p:List UInt8} {i:Nat} (h:wayC W b A o q m c most p i):b<W.heap.size:=by
  match i,h with
  | 0,h=>exact zab h.1
  | 1,h=>exact zab h.1
  | 2,⟨q2,c2,h1,h2⟩=>exact zab h1
  | 3,⟨q2,c2,h1,h2⟩=>exact zab h1
  | 4,⟨lv,h⟩=>exact zab h
  | (i+5),⟨lv,h⟩=>exact zab h
theorem WayAt.below {w W W':World} {b sb o m c most:Nat} {q:Option Addr} {A:ByteArray} {p:List UInt8} {i:Nat} (h:WayAt w W b sb A o q m c most p i) (hB:Below W.heap.size W W'):WayAt w W' b sb A o q m c most p i :=
  ⟨h.bel.trans (hB.mono h.bel.size),(hB.block sb (zab h.st)).trans h.st,h.at_.below hB⟩
theorem WayAt.only {w W W':World} {b sb o m c most:Nat} {q:Option Addr} {A:ByteArray} {p:List UInt8} {i j:Nat} (h:WayAt w W b sb A o q m c most p i) (hO:Only b W W') (hb:w.heap.size≤b) (hne:sb≠b) (hj:wayC W' b A o q m c most p j):WayAt w W' b sb A o q m c most p j :=
  ⟨hO.bel h.bel hb (Nat.le_refl _),hO.other h.st hne,hj⟩
theorem zoX (w:World) (p:List UInt8) (most m c:Nat) (q:Option Addr) (hne:p≠[]) (hp:p.length≤60000) (hm:p.length≤most) (hm1:most≤1000000) (hml:(zbk p).length=m) (hi:IsInts w w.heap.size (.slice q m c) (ints (zbk p))) :
    Calls Tryz.prog 288 #[sqV (zan (zai p)) (zfI p:Nat) (.slice q m c),.int .i64 (most:Nat)] w fun e w'=>e=.returned (.tuple #[.string (zan p),.int .i64 0])∧Below w.heap.size w w':=by
  obtain⟨A,hA⟩:∃ A,zan (zai p)=A:=⟨_,rfl⟩;have hAl:A.data.toList=zai p:=by rw[←hA,zax]
  have hAs:A.size=(zai p).length:=by rw[←hA,zas]
  have hA256:=zaI p;have hA0:0<(zai p).length:=List.length_pos_iff.2 (zb1 hne);obtain⟨o,ho⟩:∃ o,zfI p=o:=⟨_,rfl⟩;rw[hA,ho];have hlen:(zgv p).length+1=m:=by rw[←hml,zbk];simp
  have hsym:ints (zbk p)=ints (zgv p)++[((A.size+1:Nat):Int)]:=by rw[hAs];simp[zbk,ints]
  obtain⟨w4,hw4⟩:∃ w4,((((w.alloc (.cells #[.string A,.int .i64 (o:Nat),.slice q m c] 110)).alloc (.cells #[.string A,.int .i64 (o:Nat),.slice q m c,.int .i64 (most:Nat),.slice none 0 0,.string ⟨#[]⟩] 438)).alloc (.cells #[.int .i64 0] 439)).alloc (.cells zkK 445))=w4:=⟨_,rfl⟩;have hB4:Below w.heap.size w w4:=by rw[←hw4];exact zk5 (zk5 (zk5 (zk5 (Below.refl _ _) _) _) _) _
  have hWk:WorkAt w4 (w.heap.size+1) A o (.slice q m c) most (.slice none 0 0) ⟨#[]⟩:=by rw[←hw4];exact zah _ (zah _ (zae _ _ _ (by simp)))
  have hSt:w4.heap[w.heap.size+1+1+1]?=some (.cells zkK 445 (0,0)):=by rw[←hw4];exact zae _ _ _ (by simp)
  have hP0:WayAt w w4 (w.heap.size+1) (w.heap.size+1+1+1) A o q m c most p 0:=⟨hB4,hSt,hWk,zwb hi hB4⟩;have hfw:(zia p).length=p.length:=zdi p;have hp0:0<p.length:=List.length_pos_iff.2 hne
  have CW:Hid (Calls Tryz.prog 314 #[.pointer (some ⟨w.heap.size+1,0,none⟩),.slice (some ⟨w.heap.size+1+1+1,0,none⟩) 5 5] w4 fun e w'=>e=.returned .nilIface∧WayAt w w' (w.heap.size+1) (w.heap.size+1+1+1) A o q m c most p 5):=by
    refine zvk w4 (w.heap.size+1) (w.heap.size+1+1+1) 5 5 (fun i W=>WayAt w W (w.heap.size+1) (w.heap.size+1+1+1) A o q m c most p i) ztP rfl (by omega) (fun i W h=>h.at_.lt) ?_ (fun i W W' h hB=>h.below hB) hP0
    have hcell:∀ (i j:Nat) (v:Value),zkK[j]?=some v→∀ W,WayAt w W (w.heap.size+1) (w.heap.size+1+1+1) A o q m c most p i→W.cell? ⟨w.heap.size+1+1+1,j,none⟩=some v:=fun i j v hv W h=>(zaa h.st j).trans hv;have hle:w.heap.size≤w.heap.size+1:=Nat.le_succ _;have hne2:w.heap.size+1+1+1≠w.heap.size+1:=by omega
    intro i s hs
    match i,hs with
    | 0,hs =>
      cases hs
      refine⟨enters_of Tryz.func315 (by kernel_rfl) rfl,enters_of Tryz.func316 (by kernel_rfl) rfl,fun W h=>?_,fun W=>zjy 0 W,hcell 0 0 _ rfl,hcell 0 1 _ rfl⟩
      refine (zo2 W _ o most A _ _ _ h.at_.1 (by rw[hAl];exact List.ne_nil_of_length_pos hA0) (by rw[hAl];exact ze7 p) (by omega)).mono ?_
      rintro e w' ⟨rfl,hB⟩;exact⟨rfl,⟨h.bel.trans (hB.mono h.bel.size),(hB.block _ (zab h.st)).trans h.st,h.at_.1.below hB,zwb h.at_.2 hB⟩,Only.of hB⟩
    | 1,hs =>
      cases hs
      refine⟨enters_of Tryz.func317 (by kernel_rfl) rfl,enters_of Tryz.func316 (by kernel_rfl) rfl,fun W h=>?_,fun W=>zjy 0 W,hcell 1 2 _ rfl,hcell 1 3 _ rfl⟩
      refine (zrT W _ o most (zgv p).length m c q A _ none 0 0 (ints (zgv p)) h.at_.1 (by rw[←hsym];exact h.at_.2) (zad _) hlen (fun x hx=>?_) (by omega) (by have:=zcv p;omega)).mono ?_
      · obtain⟨k,hk,rfl⟩:=List.mem_map.1 hx
        have:=zhH p hne k hk;omega
      · rintro e w' ⟨rfl,q2,c2,h1,h2,h3⟩
        exact⟨rfl,h.only h3 hle hne2 ⟨q2,c2,h1,h2⟩,h3⟩
    | 2,hs =>
      cases hs
      refine⟨enters_of Tryz.func318 (by kernel_rfl) rfl,enters_of Tryz.func316 (by kernel_rfl) rfl,fun W h=>?_,fun W=>zjy 0 W,hcell 2 4 _ rfl,hcell 2 5 _ rfl⟩
      obtain⟨q2,c2,h1,h2⟩:=h.at_;have hdec:=zqm p hne most (by omega)
      refine (zpS W _ o most _ c2 q2 A _ _ (ints (zgv p)) (ints (frF p)) h1 h2 (by rw[zad];have:=zcv p;omega) (fun x hx=>?_) hm1 hdec.1 hdec.2).mono ?_
      · obtain⟨k,hk,rfl⟩:=List.mem_map.1 hx
        have:=zhH p hne k hk;omega
      · rintro e w' ⟨rfl,q3,c3,h3,h4,h5⟩
        rw[zad,zcl] at h3 h4;exact⟨rfl,h.only h5 hle hne2 ⟨q3,c3,h3,h4⟩,h5⟩
    | 3,hs =>
      cases hs
      refine⟨enters_of Tryz.func319 (by kernel_rfl) rfl,enters_of Tryz.func320 (by kernel_rfl) rfl,fun W h=>?_,fun W=>zlw W,hcell 3 6 _ rfl,hcell 3 7 _ rfl⟩
      obtain⟨q2,c2,h1,h2⟩:=h.at_;refine (zuT W _ o most _ c2 q2 A _ (zan (zia p)) _ (ints (frF p)) h1 h2 (by rw[zad,zcl]) hp0 (by rw[zad,zcl];omega) (by omega) (by omega) (by rw[hAl,zax];exact zqk p)).mono ?_
      rintro e w' ⟨rfl,h3,h5⟩;exact⟨rfl,h.only h5 hle hne2 ⟨_,h3⟩,h5⟩
    | 4,hs =>
      cases hs
      refine⟨enters_of Tryz.func321 (by kernel_rfl) rfl,enters_of Tryz.func320 (by kernel_rfl) rfl,fun W h=>?_,fun W=>zlw W,hcell 4 8 _ rfl,hcell 4 9 _ rfl⟩
      obtain⟨lv,h1⟩:=h.at_;have hlt:=zhL p hne;refine (zsW W _ o most A _ _ _ h1 (by rw[zas,hfw];omega) (by rw[zas,hfw];omega)).mono ?_
      rintro e w' ⟨rfl,h3,h5⟩
      have e1:(⟨(zfD (zaJ (zan (zia p))) o).toArray⟩:ByteArray)=zan p:=by
        unfold zaJ;rw[zax,←ho,ztj p hne];rfl
      rw[e1] at h3;exact⟨rfl,h.only h5 hle hne2 ⟨_,h3⟩,h5⟩
    | (i+5),hs=>simp[ztP] at hs
  have CN:=Lib.hid fun t W=>zvr t W;clear hP0 hSt hWk hB4 hi hsym hfw hp0 hAl hAs hA256 hA0 hlen;have HW4:=Lib.hid hw4;clear hw4
  go_enter Tryz.func288,Tryz.ntmps288
  go_wp2_with fail
  have e4:=HW4.out;unfold zkK fnV at e4;rw[e4];clear e4;refine CW.out.mono ?_;rintro e w5 ⟨rfl,hW5⟩;obtain⟨lv,hat⟩:=hW5.at_;have k5:=(zaa hat 5).trans rfl;have HB5:=Lib.hid hW5.bel;clear hW5 hat CW
  go_wp2_with fail
  refine (CN.out _ _).mono ?_;rintro e w6 ⟨rfl,rfl⟩
  go_wp2_with fail
  go_ret2
  exact⟨rfl,HB5.out⟩
end Go.Proofs.YtoejfkeofbdalaaGreatDoor
namespace Go.Proofs.YtoejfkeofbdalaaGreatDoor
open Go.RowKit Go.Shelf
attribute [local go_sem] Oper.semAt_some
theorem zoV (s:ByteArray) (most:Int) (w:World) (hs:s.size≤1000000) (hm:((exF s.data.toList 0 0).1.length:Int)≤most) (hm1:most≤100000000) (h4:(exF s.data.toList 0 0).2≠4) :
    Calls Tryz.prog 290 #[.string s,.int .i64 most] w fun e w'=>e=.returned (.tuple #[.string ⟨(exF s.data.toList 0 0).1.toArray⟩,.int .i64 0])∧Below w.heap.size w w':=by
  obtain⟨tot,htot⟩:∃ tot,exF s.data.toList 0 0=tot:=⟨_,rfl⟩;rw[htot] at hm h4 ⊢;have HT:=Lib.hid htot;clear htot;have hmf:=hmf
  go_enter Tryz.func290,Tryz.ntmps290
  go_wp2_with fail
  obtain⟨q,hq⟩:∃ q,w.heap.size=q:=⟨_,rfl⟩;have hW0:((w.alloc (.cells #[.int .i64 most] 3)).alloc (.cells #[.pointer none,.slice none 0 0] 134)).heap[q]?=some (.cells #[.int .i64 most] 3 (0,0)):=zah _ (zae _ _ _ hq.symm);have hW1:((w.alloc (.cells #[.int .i64 most] 3)).alloc (.cells #[.pointer none,.slice none 0 0] 134)).heap[q+1]?=some (.cells #[.pointer none,.slice none 0 0] 134 (0,0)):=zae _ _ _ (by simp[hq])
  have hBW:Below q w ((w.alloc (.cells #[.int .i64 most] 3)).alloc (.cells #[.pointer none,.slice none 0 0] 134)):=by
    rw[←hq];exact ((Below.refl _ w).alloc (Nat.le_refl _) _).alloc (by simp) _
  rw[hq];generalize (w.alloc (.cells #[.int .i64 most] 3)).alloc (.cells #[.pointer none,.slice none 0 0] 134)=W0 at *
  obtain⟨v0,hv0⟩:∃ v0:Value,v0=.func (.func 323) #[] #[.pointer (some ⟨q+1,0,none⟩),.pointer (some ⟨q,0,none⟩)]:=⟨_,rfl⟩
  go_loopw [8,9,14] (fun rv lv iv wr=>∃ (i run:Nat) (last:UInt8) (out:List UInt8),i≤s.size∧run≤4∧rv=.int .i64 run∧lv=.int .u8 last.toNat∧iv=.int .i64 i∧Hid (out++(exF (s.data.toList.drop i) run last).1=tot.1∧(exF (s.data.toList.drop i) run last).2=tot.2)∧Hid (Lib.IsBuilderF 134 5 (q+1) (q+1) (Lib.byteCells out) wr)∧Hid (wr.heap[q]?=some (.cells #[.int .i64 most] 3 (0,0)))∧Hid (Below q w wr)) (fun _ _ iv _=>s.size+1-(intOf iv).toNat)
  case atStart=>exact⟨0,0,0,[],Nat.zero_le _,Nat.zero_le _,rfl,rfl,rfl,by show _∧_;rw[List.drop_zero,HT.out];exact⟨rfl,rfl⟩,.inl ⟨Nat.le_refl _,_,hW1,⟨rfl,.inl ⟨rfl,rfl⟩⟩,by simp[Value.ownBlock]⟩,hW0,hBW⟩
  case round =>
    obtain⟨i,run,last,out,hi,hrun,rfl,rfl,rfl,HX,HB,HQ,HW⟩:=hrel
    by_cases hlt:i<s.size
    · obtain⟨c,hc⟩:∃ c:UInt8,s[i]'hlt=c:=⟨_,rfl⟩
      have hdr:s.data.toList.drop i=c::s.data.toList.drop (i+1):=by
        have h1:=zew s i hlt;rw[hc] at h1;exact (List.drop_eq_getElem?_toList_append).trans (by rw[h1];rfl)
      have hx:=HX.out;rw[hdr,exF] at hx;have hcl:c.toNat<256:=c.toNat_lt;have hll:last.toNat<256:=last.toNat_lt;have hz:=HW.out.size;have hqz:q+1≤wr.heap.size:=zab HQ.out;have hofc:UInt8.ofNat c.toNat=c:=UInt8.ofNat_toNat;have hofl:UInt8.ofNat last.toNat=last:=UInt8.ofNat_toNat;obtain⟨cn,hcn⟩:∃ cn,c.toNat=cn:=⟨_,rfl⟩;obtain⟨ln,hln⟩:∃ ln,last.toNat=ln:=⟨_,rfl⟩;have hcell:(s[i]'hlt).toNat=cn:=by rw[hc,hcn]
      have HCN:=Lib.hid hcn;have HLN:=Lib.hid hln
      by_cases h4:run=4
      · subst h4
        rw[if_pos rfl] at hx;rw[hcn] at hx
        have hlen:out.length+cn≤tot.1.length:=by
          have:=congrArg List.length hx.1;simp only[List.length_append,List.length_replicate] at this;omega
        rw[hcn] at hcl;rw[hln] at hll hofl;have CT:=Lib.hid (zhX (q+1) q ln cn most out wr hll (by omega) (by omega) (by omega) (by omega) HB.out HQ.out (by omega))
        rw[hofl] at CT;have HX2:Hid ((out++List.replicate cn last)++(exF (s.data.toList.drop (i+1)) 0 last).1=tot.1∧(exF (s.data.toList.drop (i+1)) 0 last).2=tot.2):=⟨by rw[List.append_assoc];exact hx.1,hx.2⟩
        clear hx hdr HX HB HQ hc hcn hofc hofl;rw[hln];clear hln
        go_wp2_with fail
        refine CT.out.mono ?_;rintro e W2 ⟨rfl,hb2,hq2,hB2⟩;have HB2:=Lib.hid hb2;have HQ2:=Lib.hid hq2;have HW2:=Lib.hid (HW.out.trans (hB2.mono (Nat.le_succ _)));clear hb2 hq2 hB2 CT HW
        go_wp2_with fail
        go_roundw
        case rel=>exact⟨i+1,0,last,_,by omega,by omega,rfl,by rw[HLN.out],by go_num,HX2,HB2,HQ2,HW2⟩
        case measure=>simp[intOf];omega
      · rw[if_neg h4] at hx
        have hr4:((run:Int) == 4)=false:=by simp;omega
        by_cases h2:0<run∧c=last
        · rw[if_pos h2] at hx
          obtain⟨hr0,rfl⟩:=h2
          have hlen:out.length+1≤tot.1.length:=by
            have:=congrArg List.length hx.1;simp only[List.length_append,List.length_cons] at this;omega
          have CT:=Lib.hid (zhX (q+1) q c.toNat 1 most out wr hcl (by omega) (by omega) (by omega) (by omega) HB.out HQ.out (by omega))
          rw[hofc,hcn,show ((1:Nat):Int)=1 from rfl] at CT
          have HX2:Hid ((out++List.replicate 1 c)++(exF (s.data.toList.drop (i+1)) (run+1) c).1=tot.1∧(exF (s.data.toList.drop (i+1)) (run+1) c).2=tot.2):=⟨by rw[List.append_assoc];exact hx.1,hx.2⟩
          have hd:decide ((0:Int)<(run:Int))=true:=decide_eq_true (by omega)
          clear hx hdr HX HB HQ hc hofc hofl hln hll hcl;rw[hcn];clear hcn HLN
          go_wp2_with fail
          refine CT.out.mono ?_;rintro e W2 ⟨rfl,hb2,hq2,hB2⟩;have HB2:=Lib.hid hb2;have HQ2:=Lib.hid hq2;have HW2:=Lib.hid (HW.out.trans (hB2.mono (Nat.le_succ _)));clear hb2 hq2 hB2 CT HW
          go_wp2_with fail
          go_roundw
          case rel=>exact⟨i+1,run+1,c,_,by omega,by omega,by go_num,by rw[HCN.out],by go_num,HX2,HB2,HQ2,HW2⟩
          case measure=>simp[intOf];omega
        · rw[if_neg h2] at hx
          have hlen:out.length+1≤tot.1.length:=by
            have:=congrArg List.length hx.1;simp only[List.length_append,List.length_cons] at this;omega
          have CT:=Lib.hid (zhX (q+1) q c.toNat 1 most out wr hcl (by omega) (by omega) (by omega) (by omega) HB.out HQ.out (by omega))
          rw[hofc,hcn,show ((1:Nat):Int)=1 from rfl] at CT
          have HX2:Hid ((out++List.replicate 1 c)++(exF (s.data.toList.drop (i+1)) 1 c).1=tot.1∧(exF (s.data.toList.drop (i+1)) 1 c).2=tot.2):=⟨by rw[List.append_assoc];exact hx.1,hx.2⟩
          have hcase:(decide (0<run)=false)∨(decide (0<run)=true∧(cn == ln)=false):=by
            by_cases hr0:0<run
            · right
              refine⟨decide_eq_true (by omega),?_⟩
              have:c≠last:=fun e=>h2 ⟨hr0,e⟩;have:cn≠ln:=fun e=>this (UInt8.toNat_inj.1 (by rw[hcn,hln,e]))
              simp;omega
            · exact .inl (decide_eq_false (by omega))
          clear hx hdr HX HB HQ hc hofc hofl hll hcl h2;rw[hln];clear hcn hln HLN;rcases hcase with hd | ⟨hd,he⟩
          all_goals
            go_wp2_with fail
            refine CT.out.mono ?_;rintro e W2 ⟨rfl,hb2,hq2,hB2⟩;have HB2:=Lib.hid hb2;have HQ2:=Lib.hid hq2;have HW2:=Lib.hid (HW.out.trans (hB2.mono (Nat.le_succ _)));clear hb2 hq2 hB2 CT HW
            go_wp2_with fail
            go_roundw
          · exact⟨i+1,1,c,_,by omega,by omega,by go_num,by rw[HCN.out],by go_num,HX2,HB2,HQ2,HW2⟩
          · simp[intOf];omega
          · exact⟨i+1,1,c,_,by omega,by omega,by go_num,by rw[HCN.out],by go_num,HX2,HB2,HQ2,HW2⟩
          · simp[intOf];omega
    · obtain rfl:i=s.size:=by omega
      have hdr:s.data.toList.drop s.size=[]:=List.drop_eq_nil_of_le (by simp)
      have hx:=HX.out;rw[hdr,exF,List.append_nil] at hx;obtain⟨hx1,hx2⟩:=hx;subst hx1;have hrun4:run≠4:=fun h=>h4 (hx2.symm.trans h);have hz:=HW.out.size;have hqz:q+1≤wr.heap.size:=zab HQ.out;have hlen:(Lib.byteCells tot.1).length=tot.1.length:=Lib.byteCells_length _;obtain⟨m,rfl⟩:=Int.eq_ofNat_of_zero_le (show 0≤most by omega)
      have CL:Hid (∀ W,W.heap=wr.heap→Calls Tryz.prog 324 #[.pointer (some ⟨q+1,0,none⟩)] W fun e w'=>e=.returned (.int .i64 (tot.1.length:Nat))∧W=w'):=fun W hW=>by
        have:=Tryz.Builder_Len_f (q+1) (q+1) _ W (zcH HB.out fun j c t fz _ _=>by rw[hW])
        rw[hlen] at this;exact this.mono fun e w' ⟨h1,h2⟩=>⟨h1,h2.symm⟩
      have hgt2:decide (m<tot.1.length)=false:=decide_eq_false (by omega)
      have hgt:decide ((m:Int)<((tot.1.length:Nat):Int))=false:=decide_eq_false (by omega)
      have kq:=(zaa HQ.out 0).trans rfl
      have CS:Hid (∀ W,W.heap=wr.heap→Calls Tryz.prog 71 #[.pointer (some ⟨q+1,0,none⟩)] W fun e w'=>e=.returned (.string ⟨tot.1.toArray⟩)∧Below (q+1) W w'):=fun W hW=>by
        have:=Tryz.Builder_String_any_k (q+1) (q+1) tot.1 W (zcH HB.out fun j c t fz _ _=>by rw[hW]) (by rw[hW];exact hqz)
        exact this.mono fun e w' ⟨h1,h2⟩=>⟨h1,h2.2.1⟩
      clear hx2 hdr hlen hz HX;have HBQ:=Lib.hid (fun (w':World) (h:Below (q+1) wr w')=>HW.out.trans (h.mono (Nat.le_succ q)));obtain⟨tl,htl⟩:∃ tl,tot.1.length=tl:=⟨_,rfl⟩;rw[htl] at CL hgt hgt2;obtain⟨T,hT⟩:∃ T,tot.1=T:=⟨_,rfl⟩;rw[hT] at CS ⊢;have hr5:((run:Int) == 4)=false:=by simp;omega
      have HTT:=Lib.hid hT;clear htl hT
      go_wp2_with fail
      go_quiet ((go_at_call 324;exact zrd (CL.out _ rfl)))
      go_wp2_with fail
      refine (CS.out (wr.drewN nq) rfl).mono ?_;rintro e W2 ⟨rfl,hB2⟩;have HBB:=Lib.hid (HBQ.out W2 ((below_drewN (Below.refl _ wr) nq |>.mono hqz).trans hB2));clear hB2
      go_wp2_with fail
      go_ret2
      exact⟨by rw[HTT.out];rfl,by rw[hq];exact HBB.out⟩
end Go.Proofs.YtoejfkeofbdalaaGreatDoor
