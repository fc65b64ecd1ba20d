import Derived.Test.YtoejfkeofbdalaaGreatDoorM15
import Derived.Test.YtoejfkeofbdalaaGreatDoorM13
import Derived.Laws.EntriesVeiled
set_option linter.unusedVariables false
set_option maxRecDepth 100000
set_option maxHeartbeats 8000000
namespace Go.Proofs.YtoejfkeofbdalaaGreatDoor
open Go.RowKit
def NumRow (w:World) (b:Nat) (U:List Nat):Prop:=∃ cs,w.heap[b]?=some (.cells cs 3 (0,0))∧cs.toList=zaj (ints U)
theorem NumRow.cell {w:World} {b:Nat} {U:List Nat} (h:NumRow w b U) (x p:Nat) (hx:U[x]?=some p):w.cell? ⟨b,x,none⟩=some (.int .i64 (p:Int)):=by
  obtain⟨cs,h1,h2⟩:=h;rw[zaa h1,←Array.getElem?_toList,h2,getElem?_intCells];simp[ints,hx]
theorem NumRow.frozen {w:World} {b:Nat} {U:List Nat} (h:NumRow w b U) (x:Nat):w.frozen? ⟨b,x,none⟩=false:=by
  obtain⟨cs,h1,h2⟩:=h;exact zac h1 x
theorem NumRow.lt {w:World} {b:Nat} {U:List Nat} (h:NumRow w b U):b<w.heap.size:=by
  obtain⟨cs,h1,h2⟩:=h;exact zab h1
theorem NumRow.same {w w':World} {b:Nat} {U:List Nat} (h:NumRow w b U) (hb:w'.heap[b]?=w.heap[b]?):NumRow w' b U:=by
  obtain⟨cs,h1,h2⟩:=h;exact⟨cs,hb.trans h1,h2⟩
theorem NumRow.set {w:World} {b:Nat} {U:List Nat} (h:NumRow w b U) (x p:Nat):NumRow (w.setCell ⟨b,x,none⟩ (.int .i64 (p:Int))) b (U.set x p):=by
  obtain⟨cs,h1,h2⟩:=h;refine⟨_,zaf h1 x _,?_⟩;have:zaj (ints (U.set x p))=(zaj (ints U)).set x (.int .i64 (p:Int)):=by simp[zaj,ints,List.map_set]
  rw[this,←h2];simp
theorem NumRow.kept {qb b:Nat} {w w':World} {U:List Nat} (h:NumRow w b U) (hk:Kept qb w w') (hb:b≠qb):NumRow w' b U:=by
  obtain⟨cs,h1,h2⟩:=h;exact⟨cs,hk.other b cs _ (by decide) hb h1,h2⟩
theorem NumRow.ints {w:World} {b:Nat} {U:List Nat} (h:NumRow w b U) (n c:Nat) (hn:n≤c) (hc:c≤maxLen) (hU:n≤U.length):IsInts w w.heap.size (.slice (some ⟨b,0,none⟩) n c) (Go.Proofs.YtoejfkeofbdalaaGreatDoor.ints (U.take n)):=by
  have hl:(Go.Proofs.YtoejfkeofbdalaaGreatDoor.ints (U.take n)).length=n:=by rw[zad,List.length_take];omega
  have hb:=h.lt;refine⟨by rw[zak,hl];omega,_,c,by rw[hl],by rw[hl];exact hn,hc,fun _=>⟨b,0,rfl,hb,fun i u hu=>?_⟩⟩
  rw[getElem?_intCells] at hu;simp only[Go.Proofs.YtoejfkeofbdalaaGreatDoor.ints,List.getElem?_map,List.getElem?_take] at hu;split at hu
  · rename_i hi
    cases hx:U[i]? with
    | none=>rw[hx] at hu;simp at hu
    | some p =>
      rw[hx] at hu;rw[Nat.zero_add,h.cell i p hx];simpa using hu
  · simp at hu
theorem Que.numset {w:World} {qb ub:Nat} {h:List NP} {U:List Nat} (hq:Que w qb h) (hn:NumRow w ub U) (hne:ub≠qb) (i:Nat) (u:Value):Que (w.setCell ⟨ub,i,none⟩ u) qb h:=by
  obtain⟨v,h1,h2⟩:=hq.ex;obtain⟨cs,hc,_⟩:=hn;refine⟨v,(Below.heap_setCell _ _ _ _ hne.symm).trans h1,World.ownsRow.kept h2 (grow w ub i u) (.inr fun e=>?_)⟩;obtain⟨cur,hc2⟩:=zaN h2 e;rw[hc] at hc2;injection hc2 with hc2
  injection hc2 with _ hc2
  revert hc2
  decide
where
  grow (w:World) (b i:Nat) (u:Value):w.grownBy (w.setCell ⟨b,i,none⟩ u) (some b) :=
    ⟨rfl,rfl,rfl,by simp[World.setCell],fun k _ hk=>Below.heap_setCell _ _ _ _ (fun e=>hk (by rw[e]))⟩
theorem Que.drew {w:World} {qb:Nat} {h:List NP} (hq:Que w qb h):Que w.drew qb h:=by
  obtain⟨v,h1,h2⟩:=hq.ex;exact⟨v,h1,h2.below (Below.refl _ _).drew⟩
theorem Que.alloc {w:World} {qb:Nat} {h:List NP} (hq:Que w qb h) (o:Obj):Que (w.alloc o) qb h:=by
  obtain⟨v,h1,h2⟩:=hq.ex;exact⟨v,zah o h1,h2.alloc o⟩
theorem Kept.past {qb b:Nat} {w0 w:World} (h:Kept qb w0 w) (hq:qb<w0.heap.size) (hb:w0.heap.size≤b) (i:Nat) (u:Value):Kept qb w0 (w.setCell ⟨b,i,none⟩ u) :=
  ⟨h.bel.setCell (p:=⟨b,i,none⟩) (by simp;omega) u,by simpa [World.setCell] using h.size,fun k cs t h1 h2 h3=>by
    have:k<w0.heap.size:=zab h3;rw[Below.heap_setCell _ _ _ _ (show k≠b by omega)]
    exact h.other k cs t h1 h2 h3⟩
theorem Kept.boxed {qb:Nat} {w0 w:World} (h:Kept qb w0 w) (hq:qb<w0.heap.size) (o:Obj):Kept qb w0 (w.alloc o) :=
  h.trans (Kept.below (by have:=h.size;omega) ((Below.refl _ _).alloc (Nat.le_refl _) o))
theorem NumRow.alloc {w:World} {b:Nat} {U:List Nat} (h:NumRow w b U) (o:Obj):NumRow (w.alloc o) b U:=h.same (Below.heap_alloc _ _ _ h.lt)
theorem NumRow.ex {w:World} {b:Nat} {U:List Nat} (h:NumRow w b U) (x:Nat) (hx:x<U.length):∃ p:Nat,w.cell? ⟨b,x,none⟩=some (.int .i64 (p:Int)):=⟨U[x],h.cell x U[x] (by simp[hx])⟩
def TypedInts (w:World) (v:Value):Prop:=∀ g o n c,v=.slice (some ⟨g,o,none⟩) n c→∃ cs,w.heap[g]?=some (.cells cs 3 (0,0))
theorem TypedInts.below {w w':World} {v:Value} (h:TypedInts w v) (hB:Below w.heap.size w w'):TypedInts w' v:=fun g o n c e=>by
  obtain⟨cs,hc⟩:=h g o n c e;exact⟨cs,(hB.block g (zab hc)).trans hc⟩
set_option maxHeartbeats 12800000 in
theorem zqw (w:World) (v:Value) (ws:List Nat) (hv:IsInts w w.heap.size v (ints ws)) (h2:2≤ws.length) (hl:ws.length≤258) (hw:∀ x∈ws,1≤x) (hs:ws.sum≤2305843009213693952) :
    Calls Tryz.prog 79 #[v] w fun e w'=>∃ q c,e=.returned (.slice q ws.length c)∧(IsInts w' w'.heap.size (.slice q ws.length c) (ints (zao ws))∧TypedInts w' (.slice q ws.length c))∧Below w.heap.size w w':=by
  obtain⟨A,ca,rfl,hc1,hc2⟩:=hv.shape;have hli:=zad ws;obtain⟨N,hN⟩:∃ N,ws.length=N:=⟨_,rfl⟩;rw[hli,hN] at hv hc1 ⊢;obtain⟨qb,hqb⟩:∃ qb,w.heap.size=qb:=⟨_,rfl⟩;obtain⟨WA,hWA⟩:∃ WA,w.alloc (.cells #[.slice none 0 0,.nilFunc] 249)=WA:=⟨_,rfl⟩;have hA:WA.heap[qb]?=some (.cells #[.slice none 0 0,.nilFunc] 249 (0,0)):=by rw[←hWA];exact zae _ _ _ hqb.symm
  have a0:=(zaa hA 0).trans rfl;have a1:=(zaa hA 1).trans rfl;have b0:=zac hA 0;have b1:=zac hA 1;obtain⟨W0,hW0⟩:∃ W0,(WA.setCell ⟨qb,0,none⟩ (.slice none 0 0)).setCell ⟨qb,1,none⟩ (.func (.func 139) #[] #[])=W0:=⟨_,rfl⟩
  have hB0:Below w.heap.size w W0:=by
    rw[←hW0,←hWA];exact (((Below.refl _ _).alloc (Nat.le_refl _) _).setCell (p:=⟨qb,0,none⟩) (by simp[hqb]) _).setCell (p:=⟨qb,1,none⟩) (by simp[hqb]) _
  have hQ0:Que W0 qb []:=⟨.slice none 0 0,by rw[←hW0];have:=zaf (zaf hA 0 (.slice none 0 0)) 1 (.func (.func 139) #[] #[]);simpa using this,TreeOwn.nil _ _⟩
  have hz0:W0.heap.size=qb+1:=by rw[←hW0,←hWA,←hqb];simp[World.setCell]
  have hv0:=hv.below hB0 (Nat.le_refl _);rw[hqb] at hv0 hB0;obtain⟨cz,hcz,hmk⟩:=za2 (2*N-1) (by omega)
  have hN2:2≤N:=by omega
  have hN258:N≤258:=by omega
  have HV:=Lib.hid hv0;have HB0:=Lib.hid hB0;have HQ0:=Lib.hid hQ0;have HN:=Lib.hid hN;have HW:=Lib.hid hw;have HCZ:=Lib.hid hcz;have HMK:=Lib.hid hmk;have HSW:=Lib.hid hs;clear hv hN hli hv0 hB0 hQ0 hw hcz hmk hs
  go_enter Tryz.func79,Tryz.ntmps79
  go_wp2_with fail
  have HWW:=Lib.hid hqb;clear hW0 hqb hWA hA a0 a1 b0 b1
  go_loopw [15] (fun iv wr=>∃ (k:Nat) (h:List NP),k≤N∧iv=.int .i64 k∧h.length=k∧Hid (HeapP h)∧Hid (h.Perm ((zaK ws).take k))∧Hid (Que wr qb h)∧Hid (Kept qb W0 wr)) (fun iv _=>N+1-(intOf iv).toNat)
  case atStart=>exact⟨0,[],Nat.zero_le _,rfl,rfl,fun j _ hj=>by simp at hj,List.Perm.refl _,HQ0.out,Kept.refl _ _⟩
  case round =>
    clear HQ0;obtain⟨k,h,hk,rfl,hhl,HH,HP,HQ,HK⟩:=hrel
    by_cases hlt:k<N
    · obtain⟨g,o,rfl,hgb,hc⟩:=(HV.out.below HK.out.bel (Nat.le_refl _)).at k (by rw[zad,HN.out];exact hlt)
      obtain⟨x,hx⟩:∃ x,ws[k]?=some x:=⟨_,List.getElem?_eq_getElem (by rw[HN.out];exact hlt)⟩
      rw[show (ints ws)[k]?.getD 0=(x:Int) by simp[ints,hx]] at hc
      have CP:Hid (Calls Tryz.prog 140 #[.pointer (some ⟨qb,0,none⟩),.agg #[.int .i64 (x:Int),.int .i64 (k:Int)]] wr fun e w'=>e=.returned (.tuple #[])∧∃ h',HeapP h'∧h'.Perm ((x,k)::h)∧Que w' qb h'∧Kept qb wr w'):=znK wr qb h (x,k) HQ.out HH.out (by omega)
      have HT:=Lib.hid (zmo ws k x hx);clear hx
      go_wp2_with fail
      refine CP.out.mono ?_;rintro e w1 ⟨rfl,h',hh',hp',hq',hk'⟩;have HH2:=Lib.hid hh';have HQ2:=Lib.hid hq';have HK2:=Lib.hid (HK.out.trans hk');have hl2:h'.length=k+1:=by have:=hp'.length_eq;simp at this;omega
      have HP2:Hid (h'.Perm ((zaK ws).take (k+1))):=by
        show List.Perm _ _
        rw[HT.out];exact hp'.trans ((HP.out.cons _).trans (List.perm_append_comm (l₁:=[(x,k)])))
      clear hh' hp' hq' hk' CP hc
      go_wp2_with fail
      go_roundw
      case rel=>exact⟨k+1,h',by omega,by go_num,hl2,HH2,HP2,HQ2,HK2⟩
      case measure=>simp[intOf];omega
    · obtain rfl:k=N:=by omega
      have hp:=HP.out;rw[List.take_of_length_le (by rw[zbj,HN.out];exact Nat.le_refl _)] at hp
      have hp2:=hp.trans (za7 (zaK ws)).symm;have HP2:=Lib.hid hp2;have hw1:IntKind.i64.wrap (2*(k:Int))=2*(k:Int):=IntWalk.i64_in _ (by omega)
      obtain⟨M,hM⟩:∃ M,2*k-1=M:=⟨_,rfl⟩;have hw2:IntKind.i64.wrap (2*(k:Int)-1)=(M:Int):=by rw[IntWalk.i64_in _ (by omega)];omega
      have hmk:=HMK.out;have hcz:=HCZ.out;rw[hM] at hmk hcz;clear hp hp2 HP HMK HCZ
      go_wp2_with fail
      have hNR:NumRow (wr.alloc (.cells cz 3)) wr.heap.size (List.replicate M 0):=⟨cz,zae _ _ _ rfl,by rw[hcz];congr 1;simp[ints]⟩
      have hBW:Below wr.heap.size wr (wr.alloc (.cells cz 3)):=(Below.refl _ _).alloc (Nat.le_refl _) _
      have hqr:qb<wr.heap.size:=by
        obtain⟨v,hv,_⟩:=HQ.out.ex;exact zab hv
      have HQ1:=Lib.hid (HQ.out.up hBW);have HK1:=Lib.hid (HK.out.trans (Kept.below (Nat.le_of_lt hqr) hBW));have HNR:=Lib.hid hNR
      have hU0:UpI k (dpF ws) (List.replicate M 0) k (zcP (zaK ws)) k:=by
        have:=UpI.start HW.out (List.replicate M 0) (by rw[List.length_replicate,HN.out];omega)
        rw[HN.out] at this;exact this
      have HU0:=Lib.hid hU0
      have HS0:Hid (((zcP (zaK ws)).map (·.1)).sum≤2305843009213693952):=by
        show _≤_
        rw[zcf (fun y:NP=>y.1) (za7 (zaK ws)),zpb];exact HSW.out
      obtain⟨ub,hub⟩:∃ ub,wr.heap.size=ub:=⟨_,rfl⟩;rw[hub] at HNR hqr ⊢;generalize wr.alloc (.cells cz 3)=W1 at *
      have hQB:=hqr;clear hNR hBW hU0 HQ HK hub hcz hmk
      go_loopw [7] (fun nv wr=>∃ (n:Nat) (h s:List NP) (U:List Nat) (f:Nat),nv=.int .i64 n∧k≤n∧n≤M∧h.length+n=2*k∧U.length=M∧Hid (HeapP h)∧Hid (h.Perm s)∧Hid (UpI k (dpF ws) U f s n)∧Hid ((s.map (·.1)).sum≤2305843009213693952)∧Hid (Que wr qb h)∧Hid (NumRow wr ub U)∧Hid (Kept qb W0 wr)) (fun nv _=>M+1-(intOf nv).toNat)
      case atStart=>exact⟨k,h,zcP (zaK ws),List.replicate M 0,k,rfl,Nat.le_refl _,by omega,by omega,by simp,HH,HP2,HU0,HS0,HQ1,HNR,HK1⟩
      case round =>
        clear HH HP2 HU0 HS0 HQ1 HNR HK1 hhl;obtain⟨n,h,s,U,f,rfl,hn1,hn2,hhl,hUl,HH,HP,HU,HS,HQ,HNR,HK⟩:=hrel
        by_cases hlt:n<M
        · have hsl:s.length=h.length:=HP.out.length_eq.symm
          obtain⟨a,b,r,rfl⟩:∃ a b r,s=a::b::r:=by
            match s,hsl with
            | [],hsl=>simp at hsl;omega
            | [z],hsl=>simp at hsl;omega
            | a::b::r,_=>exact⟨a,b,r,rfl⟩
          obtain⟨f,rfl⟩:∃ f',f=f' + 1:=⟨f-1,by have:=HU.out.fuel;simp at this;omega⟩
          have hrow:=HU.out.row;obtain⟨r0,he0⟩:=zgn (a:=a) hrow.sort HP.out hrow.nums (by omega) HH.out.least
          have ha:gP h 0=a:=by injection he0 with e _;exact e.symm
          have hst:=HU.out.step
          have CP1:Hid (Calls Tryz.prog 141 #[.pointer (some ⟨qb,0,none⟩)] wr fun e w'=>e=.returned (.agg #[.int .i64 (a.1:Int),.int .i64 (a.2:Int)])∧∃ h',HeapP h'∧(a::h').Perm h∧Que w' qb h'∧Kept qb wr w'):=by
            have:=zq2 wr qb h HQ.out HH.out (by omega) (by omega)
            rw[ha] at this;exact this
          have hsum:=HS.out;have hs1:a.1+b.1≤2305843009213693952:=by simp only[List.map_cons,List.sum_cons] at hsum;omega
          have hs2:((zdd (a.1+b.1,n) r).map (·.1)).sum≤2305843009213693952:=by
            rw[zsn];simp only[List.map_cons,List.sum_cons] at hsum ⊢;omega
          have HSt:=Lib.hid hst.1;have hau:=hst.2.1;have hbu:=hst.2.2.1;have hnab:=hst.2.2.2;have HS2:=Lib.hid hs2;have HRow:=Lib.hid hrow;have hwa:IntKind.i64.wrap ((a.1:Int)+(b.1:Int))=(a.1:Int)+(b.1:Int):=IntWalk.i64_in _ (by omega)
          have hwn:IntKind.i64.wrap ((n:Int)+1)=(n:Int)+1:=IntWalk.i64_in _ (by omega)
          clear hrow hst hsum hs2 he0 ha hsl
          go_wp2_with fail
          refine CP1.out.mono ?_;rintro e w1 ⟨rfl,h1,hh1,hp1,hq1,hk1⟩;have hl1:h1.length+1=h.length:=by have:=hp1.length_eq;simpa using this
          have hpb:h1.Perm (b::r):=(hp1.trans HP.out).cons_inv;have hrb:zpc (b::r)∧NumsP (b::r):=⟨(List.pairwise_cons.1 HRow.out.sort).2,(NumsP.cons.1 HRow.out.nums).2⟩;obtain⟨r1,he1⟩:=zgn (a:=a) hrb.1 hpb hrb.2 (by omega) hh1.least
          have hb:gP h1 0=b:=by injection he1 with e _;exact e.symm
          have CP2:Hid (Calls Tryz.prog 141 #[.pointer (some ⟨qb,0,none⟩)] w1 fun e w'=>e=.returned (.agg #[.int .i64 (b.1:Int),.int .i64 (b.2:Int)])∧∃ h',HeapP h'∧(b::h').Perm h1∧Que w' qb h'∧Kept qb w1 w'):=by
            have:=zq2 w1 qb h1 hq1 hh1 (by omega) (by omega)
            rw[hb] at this;exact this
          have HPB:=Lib.hid hpb;have HKa:=Lib.hid hk1;clear hh1 hp1 hq1 hk1 hpb hrb he1 hb CP1
          go_wp2_with fail
          refine CP2.out.mono ?_;rintro e w2 ⟨rfl,h2',hh2,hp2,hq2,hk2⟩;have hl2:h2'.length+1=h1.length:=by have:=hp2.length_eq;simpa using this
          have HPr:Hid (h2'.Perm r):=(hp2.trans HPB.out).cons_inv;have HH2:=Lib.hid hh2;have HQ2:=Lib.hid hq2;have HK2:=Lib.hid ((HK.out.trans HKa.out).trans hk2);have HN2:=Lib.hid ((HNR.out.kept HKa.out (by omega)).kept hk2 (by omega))
          clear hh2 hp2 hq2 hk2 CP2 HPB HQ HNR HKa
          go_wp2_with fail
          have hHZ:qb+1≤w2.heap.size:=by have:=HK2.out.size;omega
          have hub2:=HN2.out.lt;have HQ3:=Lib.hid ((HQ2.out.alloc (.cells #[.int .i64 (a.1:Int),.int .i64 (a.2:Int)] 245)).alloc (.cells #[.int .i64 (b.1:Int),.int .i64 (b.2:Int)] 245));have HN3:=Lib.hid ((HN2.out.alloc (.cells #[.int .i64 (a.1:Int),.int .i64 (a.2:Int)] 245)).alloc (.cells #[.int .i64 (b.1:Int),.int .i64 (b.2:Int)] 245));have HK3:=Lib.hid ((HK2.out.boxed (by omega) (.cells #[.int .i64 (a.1:Int),.int .i64 (a.2:Int)] 245)).boxed (by omega) (.cells #[.int .i64 (b.1:Int),.int .i64 (b.2:Int)] 245))
          have hxa:((w2.alloc (.cells #[.int .i64 (a.1:Int),.int .i64 (a.2:Int)] 245)).alloc (.cells #[.int .i64 (b.1:Int),.int .i64 (b.2:Int)] 245)).heap[w2.heap.size]?=some (.cells #[.int .i64 (a.1:Int),.int .i64 (a.2:Int)] 245 (0,0)):=zah _ (zae _ _ _ rfl);have hxb:((w2.alloc (.cells #[.int .i64 (a.1:Int),.int .i64 (a.2:Int)] 245)).alloc (.cells #[.int .i64 (b.1:Int),.int .i64 (b.2:Int)] 245)).heap[w2.heap.size+1]?=some (.cells #[.int .i64 (b.1:Int),.int .i64 (b.2:Int)] 245 (0,0)):=zae _ _ _ (by simp)
          generalize (w2.alloc (.cells #[.int .i64 (a.1:Int),.int .i64 (a.2:Int)] 245)).alloc (.cells #[.int .i64 (b.1:Int),.int .i64 (b.2:Int)] 245)=W3 at *
          clear HQ2 HN2 HK2;generalize w2.heap.size=s2 at *
          clear w2;have xa0:=(zaa hxa 0).trans rfl;have xa1:=(zaa hxa 1).trans rfl;have xb0:=(zaa hxb 0).trans rfl;have xb1:=(zaa hxb 1).trans rfl;have hbM:b.2<M:=by omega
          have haM:a.2<M:=by omega
          obtain⟨pa,hpa⟩:=HN3.out.ex a.2 hau;obtain⟨pb,hpb⟩:=HN3.out.ex b.2 hbu;have fra:=HN3.out.frozen a.2;have frb:=HN3.out.frozen b.2;have m1:¬ ub=s2:=by omega
          have m2:¬ ub=s2+1:=by omega
          have m3:¬ s2=ub:=by omega
          have m4:¬ s2+1=ub:=by omega
          have m5:¬ a.2=b.2:=hnab;have m6:¬ b.2=a.2:=fun e=>hnab e.symm;have HXA:=Lib.hid hxa;have HXB:=Lib.hid hxb;clear hxa hxb
          go_wp2_with fail
          go_region
          have hb':ub≠qb:=by omega
          have HQ4:Hid (Que ((W3.setCell ⟨ub,a.2,none⟩ (.int .i64 (n:Int))).setCell ⟨ub,b.2,none⟩ (.int .i64 (n:Int))).drew qb h2'):=((HQ3.out.numset HN3.out hb' _ _).numset (HN3.out.set a.2 n) hb' _ _).drew;have HN4:Hid (NumRow ((W3.setCell ⟨ub,a.2,none⟩ (.int .i64 (n:Int))).setCell ⟨ub,b.2,none⟩ (.int .i64 (n:Int))).drew ub ((U.set a.2 n).set b.2 n)):=((HN3.out.set a.2 n).set b.2 n).same rfl
          have HK4:Hid (Kept qb W0 ((W3.setCell ⟨ub,a.2,none⟩ (.int .i64 (n:Int))).setCell ⟨ub,b.2,none⟩ (.int .i64 (n:Int))).drew):=by
            have k4:=(HK3.out.past (b:=ub) (by omega) (by omega) a.2 (.int .i64 (n:Int))).past (b:=ub) (by omega) (by omega) b.2 (.int .i64 (n:Int))
            exact⟨k4.bel.drew,k4.size,k4.other⟩
          have hya:(((W3.setCell ⟨ub,a.2,none⟩ (.int .i64 (n:Int))).setCell ⟨ub,b.2,none⟩ (.int .i64 (n:Int))).drew).heap[s2]?=some (.cells #[.int .i64 (a.1:Int),.int .i64 (a.2:Int)] 245 (0,0)):=by
            show ((W3.setCell _ _).setCell _ _).heap[s2]?=_
            rw[Below.heap_setCell _ _ _ _ m3,Below.heap_setCell _ _ _ _ m3];exact HXA.out
          have hyb:(((W3.setCell ⟨ub,a.2,none⟩ (.int .i64 (n:Int))).setCell ⟨ub,b.2,none⟩ (.int .i64 (n:Int))).drew).heap[s2+1]?=some (.cells #[.int .i64 (b.1:Int),.int .i64 (b.2:Int)] 245 (0,0)):=by
            show ((W3.setCell _ _).setCell _ _).heap[s2+1]?=_
            rw[Below.heap_setCell _ _ _ _ m4,Below.heap_setCell _ _ _ _ m4];exact HXB.out
          generalize ((W3.setCell ⟨ub,a.2,none⟩ (.int .i64 (n:Int))).setCell ⟨ub,b.2,none⟩ (.int .i64 (n:Int))).drew=W4 at *
          clear HQ3 HN3 HK3 HXA HXB xa0 xa1 xb0 xb1 hpa hpb fra frb;have ya0:=(zaa hya 0).trans rfl;have yb0:=(zaa hyb 0).trans rfl;have CP3:Hid (Calls Tryz.prog 140 #[.pointer (some ⟨qb,0,none⟩),.agg #[.int .i64 ((a.1:Int)+(b.1:Int)),.int .i64 (n:Int)]] W4 fun e w'=>e=.returned (.tuple #[])∧∃ h',HeapP h'∧h'.Perm ((a.1+b.1,n)::h2')∧Que w' qb h'∧Kept qb W4 w'):=znK W4 qb h2' (a.1+b.1,n) HQ4.out HH2.out (by omega)
          clear hya hyb m1 m2 m3 m4 m5 m6
          go_wp2_with fail
          refine CP3.out.mono ?_;rintro e w5 ⟨rfl,h3,hh3,hp3,hq3,hk3⟩;have hl3:h3.length=h2'.length+1:=by have:=hp3.length_eq;simpa using this
          have HP3:Hid (h3.Perm (zdd (a.1+b.1,n) r)):=(hp3.trans (HPr.out.cons _)).trans (zbZ _ _).symm;have HH3:=Lib.hid hh3;have HQ5:=Lib.hid hq3;have HN5:=Lib.hid (HN4.out.kept hk3 hb');have HK5:=Lib.hid (HK4.out.trans hk3);have hl5:h3.length+(n+1)=2*k:=by omega
          have hUl':((U.set a.2 n).set b.2 n).length=M:=by simp[hUl]
          have hn5:k≤n+1:=by omega
          have hn6:n+1≤M:=by omega
          clear hh3 hp3 hq3 hk3 CP3 HQ4 HN4 HK4
          go_wp2_with fail
          go_roundw
          case rel=>exact⟨n+1,h3,zdd (a.1+b.1,n) r,(U.set a.2 n).set b.2 n,f,by go_num,hn5,hn6,hl5,hUl',HH3,HP3,HSt,HS2,HQ5,HN5,HK5⟩
          case measure=>simp[intOf];omega
        · obtain rfl:n=M:=by omega
          have hDone:=HU.out.done hM.symm hN2;obtain⟨cd,hcd,hmd⟩:=za2 n (by omega)
          obtain⟨m0,hm0⟩:∃ m0,n=m0+1:=⟨n-1,by omega⟩
          have hm2:2*k-2=m0:=by omega
          rw[hm2] at hDone;have HD0:=Lib.hid hDone.1;have HDU:=Lib.hid hDone.2;have hw3:IntKind.i64.wrap ((n:Int)-2)=(m0:Int)-1:=by rw[IntWalk.i64_in _ (by omega)];omega
          have hm0a:n≤m0+1:=by omega
          have hm0b:m0+1≤n:=by omega
          have hkn1:2*k≤n+1:=by omega
          have hkn2:n+1≤2*k:=by omega
          clear hDone hm0 hm2 hM HH HP HU HS HQ
          go_wp2_with fail
          have HR0:Hid (NumRow (wr.alloc (.cells cd 3)) wr.heap.size (List.replicate n 0)):=⟨cd,zae _ _ _ rfl,by rw[hcd];congr 1;simp[ints]⟩
          have HNR1:=Lib.hid (HNR.out.alloc (.cells cd 3));have HK1:=Lib.hid (HK.out.boxed (by omega) (.cells cd 3))
          have hub2:=HNR.out.lt;have hsz:=HK.out.size;generalize wr.alloc (.cells cd 3)=W5 at *
          generalize wr.heap.size=db at *
          clear HNR HK hcd hmd wr
          go_loopw [11] (fun iv wr=>∃ (z:Int) (m:Nat) (DL:List Nat),iv=.int .i64 z∧z=(m:Int)-1∧m≤m0∧DL.length=n∧Hid (∀ x,m≤x→x<n→DL[x]?=some (dpF ws x)∧dpF ws x+x≤n)∧Hid (NumRow wr db DL)∧Hid (NumRow wr ub U)∧Hid (Kept qb W0 wr)) (fun iv _=>(intOf iv+1).toNat)
          case atStart =>
            refine⟨_,m0,List.replicate n 0,rfl,rfl,Nat.le_refl _,by simp,fun x h1 h2=>?_,HR0,HNR1,HK1⟩
            obtain rfl:x=m0:=by omega
            rw[HD0.out];refine⟨?_,by omega⟩
            rw[List.getElem?_replicate,if_pos h2]
          case round =>
            clear HR0 HNR1 HK1;obtain⟨z,m,DL,rfl,hz,hm,hDL,HV1,HR,HNR,HK⟩:=hrel
            by_cases hlt2:0<m
            · obtain⟨m,rfl⟩:∃ m',m=m' + 1:=⟨m-1,by omega⟩
              obtain rfl:z=(m:Int):=by omega
              obtain⟨q,hq1,hq2,hq3,hq4⟩:=HDU.out m (by omega)
              obtain⟨hd1,hd2⟩:=HV1.out q (by omega) (by omega)
              have cu:=HNR.out.cell m q hq1;have cdq:=HR.out.cell q _ hd1;have cdm:=HR.out.ex m (by omega)
              obtain⟨cm,cdm⟩:=cdm;have fd:=HR.out.frozen m;have HQ4:=Lib.hid hq4;have hqn:q<n:=by omega
              have hmn:m<n:=by omega
              obtain⟨v,hv⟩:∃ v,dpF ws q=v:=⟨_,rfl⟩;rw[hv] at cdq hd2;have HVv:=Lib.hid hv;have hwv:IntKind.i64.wrap ((v:Int)+1)=(v:Int)+1:=IntWalk.i64_in _ (by omega)
              have hwm:IntKind.i64.wrap ((m:Int)-1)=(m:Int)-1:=IntWalk.i64_in _ (by omega)
              clear hq1 hq4 hd1 hv hz
              go_wp2_with fail
              have hud:db≠ub:=by omega
              have hR:=HR.out.set m (v+1);rw[show ((v+1:Nat):Int)=(v:Int)+1 by omega] at hR
              have hN:=HNR.out.same (w':=wr.setCell ⟨db,m,none⟩ (.int .i64 ((v:Int)+1))) (Below.heap_setCell _ _ _ _ hud.symm);have hK:=HK.out.past (b:=db) (by omega) (by omega) m (.int .i64 ((v:Int)+1))
              refine⟨⟨(m:Int)-1,m,DL.set m (v+1),rfl,rfl,by omega,by simp[hDL],fun x hx1 hx2=>?_,hR,hN,hK⟩,by simp[intOf]⟩
              rcases Nat.lt_or_ge m x with hx | hx
              · rw[List.getElem?_set_ne (by omega)]
                exact HV1.out x (by omega) hx2
              · obtain rfl:x=m:=by omega
                rw[List.getElem?_set_self (by omega),HQ4.out,HVv.out]
                exact⟨rfl,by omega⟩
            · obtain rfl:m=0:=by omega
              have hz1:z<0:=by omega
              have hz2:¬ (0≤z):=by omega
              clear hz;have hk2:k≤n:=by omega
              have hRes:DL.take k=zao ws:=by
                apply List.ext_getElem?
                intro i;rw[List.getElem?_take];split
                · rename_i hi
                  rw[(HV1.out i (Nat.zero_le _) (by omega)).1,zbv _ _ (by rw[HN.out];exact hi)]
                · rename_i hi
                  symm;rw[List.getElem?_eq_none];simp[zao,HN.out];omega
              have hFin:=HR.out.ints k k (Nat.le_refl _) (by simp[maxLen];omega) (by omega)
              rw[hRes] at hFin;have HFin:=Lib.hid hFin
              have HBel:Hid (Below w.heap.size w wr):=by
                have:=HB0.out.trans HK.out.bel;rw[HWW.out];exact this
              clear hFin hRes
              go_wp2_with fail
              go_ret
              exact⟨_,_,rfl,⟨HFin.out,fun g o n c e=>by
                injection e with e1
                injection e1 with e1
                injection e1 with e1
                subst e1;obtain⟨cs,hcs,_⟩:=HR.out;exact⟨cs,hcs⟩⟩,HBel.out⟩
end Go.Proofs.YtoejfkeofbdalaaGreatDoor
