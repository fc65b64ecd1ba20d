import Derived.Test.YtoejfkeofbdalaaGreatDoorM37
import Derived.Test.YtoejfkeofbdalaaGreatDoorM38
import Derived.Test.YtoejfkeofbdalaaGreatDoorM39
set_option linter.unusedVariables false
set_option maxRecDepth 100000
set_option maxHeartbeats 8000000
namespace Go.Proofs.YtoejfkeofbdalaaGreatDoor
open Go.RowKit Go.Shelf
attribute [local go_sem] Oper.semAt_some
def zvL (p:Part):Value:=.agg #[.string ⟨p.t.toArray⟩,.int .u32 (zby p.t:Nat),.int .i64 (p.at0:Nat),.int .i64 (p.next:Nat)]
def zrX (p:Part):Value:=.agg #[.string ⟨p.t.toArray⟩,.int .u32 (zby p.t:Nat),.int .i64 (p.at0:Nat),.int .i64 (p.next:Nat),.int .i64 (p.room:Nat)]
def ztS:Value:=.agg #[.string ⟨#[]⟩,.int .u32 0,.int .i64 0,.int .i64 0,.int .i64 0]
def evE:Option Part→Array Value
  | some p=>#[zrX p,.int .i64 0]
  | none=>#[ztS,.int .i64 7]
def zpa (t:TypeId):Bool:=t == 292 || t == 53
def zhe (t:TypeId):Bool:=zpa t || t == 9
def zuH (s:ByteArray) (i:Nat) (S:Strm):Prop:=∀ q,q<S.ts.length→∀ W,Calls Tryz.prog 223 #[.string s,.int .i64 (zcj (8*i+32) S.ts q:Nat),.int .i64 ((40*S.lv:Nat):Int)] W fun e w'=>e=.returned (.tuple #[zvL (S.part i q),.int .i64 0])∧Below W.heap.size W w'
def ztc (S:Strm) (i rb:Nat) (s:ByteArray) (pre0:List (Option Part)) (J Jx:List (Option Part)→World→Prop) (b:Bool) (W':World):Prop :=
  (b=true∧S.good=true∧J (pre0++(S.parts i).map some) W'∧∃ sv,zaM W' rb s (8*(i+S.bytes)) sv) ∨
  (b=false∧S.good=false∧J ((pre0++(S.parts i).map some)++[none]) W') ∨
  (b=false∧∃ pre,pre <+: (pre0++(S.parts i).map some)++(if S.good then [] else [none])∧Jx pre W')
theorem ziC {P:Program} {l m m2:Nat} {args:Array Value} {W:World} {R:Ending→World→Prop} (h:YieldAt Fence.wide m P l args W R):YieldAt Fence.wide m2 P l args W R :=
  let ⟨fn,tmps,assign,body,h1,h2⟩:=h
  ⟨fn,tmps,assign,body,h1,h2.1,fun c cs _=>h2.2 c cs (fun d hd=>by cases hd)⟩
theorem IterW.only {n0 k:Nat} {T:TypeId→Bool} {A B:World} (h:Only k A B) (hn:n0≤k) {cs:Array Value} {t:TypeId} {fz:Nat × Nat} (hk:A.heap[k]?=some (Obj.cells cs t fz)) (ht:T t=true):IterW n0 T A B :=
  ⟨h.os,h.tape,h.output,h.size,fun b h1 h2=>h.block b h2 (by omega),fun b o h1 h2=>(h.block b (zab h1) (fun e=>by
    subst e;rw[hk] at h1;cases h1
    have:=h2 _ _ _ rfl;rw[ht] at this;cases this)).trans h1⟩
theorem zmp (S:Strm) (i q:Nat) (hq:q<S.ts.length) (pre0 X:List (Option Part)):((pre0++((S.parts i).take q).map some)++[some (S.part i q)]) <+: (pre0++(S.parts i).map some)++X:=by
  refine⟨((S.parts i).drop (q+1)).map some++X,?_⟩
  have h1:(S.parts i).map some=((S.parts i).take q).map some++([some (S.part i q)]++((S.parts i).drop (q+1)).map some):=by
    have h2:=List.take_append_drop (q+1) (S.parts i);rw[Strm.parts_take i S q hq] at h2
    conv=>lhs;rw[←h2]
    simp
  rw[h1];simp
theorem KeepY.row {T:TypeId→Bool} {A B:World} {base e size n:Nat} {v:Value} {xs:List Value} (h:KeepY T A B) (ho:A.ownsRow base e size v n xs) (ht:T e=true):B.ownsRow base e size v n xs:=by
  refine⟨ho.1,?_⟩;rcases ho.2 with h0 | ⟨g,cap,cur,e1,e2,e3,e4⟩
  · exact .inl h0
  · exact .inr ⟨g,cap,cur,e1,e2,h _ _ _ _ ht e3,e4⟩
theorem zmn {n0 rb q pr c2 sc:Nat} {sq q2:Option Addr} {s:ByteArray} {X Y:List Value} {W8 w1 w2:World} (hR:zaM W8 rb s pr (.slice sq q sc)) (hS:W8.ownsRow (rb+1) 53 1 (.slice sq q sc) q X) (hn0:n0≤rb)
    (hB:Below W8.heap.size W8 w1) (hg:w1.grownBy w2 (Value.slice sq q sc).ownBlock) (ho:w2.ownsRow (rb+1) 53 1 (.slice q2 (q+1) c2) (q+1) Y) :
    zaM (w2.setCell ⟨rb,2,none⟩ (.slice q2 (q+1) c2)) rb s pr (.slice q2 (q+1) c2)∧(w2.setCell ⟨rb,2,none⟩ (.slice q2 (q+1) c2)).ownsRow (rb+1) 53 1 (.slice q2 (q+1) c2) (q+1) Y∧IterW n0 zpa W8 (w2.setCell ⟨rb,2,none⟩ (.slice q2 (q+1) c2)):=by
  have hx:=zab hR;have hz:=hB.size;have h1:=(hB.block rb hx).trans hR;have h2:=(hg.block rb (by omega) (fun e=>by have:=zaF hS e.symm;omega)).trans h1
  refine⟨?_,?_,?_⟩
  · have:=zaf h2 2 (.slice q2 (q+1) c2)
    unfold zaM;simpa using this
  · exact zau ho ((Only.refl rb w2).set 2 _) (Nat.lt_succ_self rb)
  · exact ((IterW.of hB).grown (zag hS hB) (by decide) (by omega) hg).set (q:=⟨rb,2,none⟩) h2 (by decide) hn0 _
theorem zky:ElemT 107 53 (.int .u32 0) 1 4:=⟨Tryz.underlying107,by kernel_rfl,rfl,by decide⟩
theorem zpU (n m:Nat) (hn:3≤n) (y rb n0:Nat) (s:ByteArray) (hs:s.size≤1099511627776) (S:Strm) (i:Nat) (hst:StrmAt s.data.toList i S.lv S.ts S.z S.pad) (hdec:zuH s i S) (hts:S.ts.length≤100000) (hn0:n0≤rb)
    (J Jx:List (Option Part)→World→Prop) (pre0:List (Option Part)) (W:World) (sv0:Value) (hE:zaM W rb s (8*i) sv0)
    (hJ:∀ s A B,J s A→IterW n0 zpa A B→J s B)
    (hY:∀ (q:Nat) (x:Option Part) (W1:World),J (pre0++((S.parts i).take q).map some) W1→(q<S.ts.length∧x=some (S.part i q)∨q=S.ts.length∧x=none∧S.good=false)→YieldAt Fence.wide m Tryz.prog y (evE x) W1 fun e W'=>(e=.returned (.bool true)∧J ((pre0++((S.parts i).take q).map some)++[x]) W'∧KeepY zhe W1 W'∧W1.heap.size≤W'.heap.size)∨(e=.returned (.bool false)∧Jx ((pre0++((S.parts i).take q).map some)++[x]) W'))
    (h0:J pre0 W) :
    CallsIn Fence.wide n Tryz.prog 175 #[.pointer (some ⟨rb,0,none⟩),.func (.yield y) #[] #[]] W fun e W'=>∃ b,e=.returned (.bool b)∧ztc S i rb s pre0 J Jx b W':=by
  obtain⟨P,hP⟩:∃ P,zcj (8*i+32) S.ts=P:=⟨_,rfl⟩;obtain⟨N,hN⟩:∃ N,S.ts.length=N:=⟨_,rfl⟩;obtain⟨R,hR⟩:∃ R,40*S.lv=R:=⟨_,rfl⟩;have hsl:s.data.toList.length=s.size:=by simp
  have CR:Hid (∀ W,Calls Tryz.prog 230 #[.string s,.int .i64 (i:Nat)] W fun e w'=>e=.returned (.tuple #[.int .i64 (R:Nat),.int .i64 0])∧W=w'):=fun W=>by
    have:=zup W s i S.lv hs (by have:=hst.head.1;omega) hst.lv1 hst.lv9 hst.head.2
    rw[hR] at this;exact this
  have hmag:=hst.mag;have hfin:=hst.fin;have hnx:=Strm.next hst;have hlt:=zs4 (8*i+32) S.ts;have hp0:=znS (8*i+32) S.ts;have hi4:=hst.head.1;unfold zuH at hdec;rw[hP,hN] at hfin hnx;rw[hP] at hmag hlt hp0;rw[hP,hN,hR] at hdec;rw[hN] at hmag hlt hY hts;have CG:Hid (∀ q,q<N→∀ W,Calls Tryz.prog 231 #[.string s,.int .i64 (P q:Nat),.int .i64 48] W fun e w'=>e=.returned (.tuple #[.int .u64 54156738319193,.int .i64 0])∧W=w'):=fun q hq W=>znD s (P q) 48 54156738319193 W hs (by omega) (by have:=(hmag q hq).1;omega) (hmag q hq).2
  have HMG:Hid (∀ q,q<N→P q+48≤8*s.size):=fun q hq=>by have:=(hmag q hq).1;omega
  have CE:Hid (∀ W,Calls Tryz.prog 231 #[.string s,.int .i64 (P N:Nat),.int .i64 48] W fun e w'=>e=.returned (.tuple #[.int .u64 25779555029136,.int .i64 0])∧W=w'):=fun W=>znD s (P N) 48 25779555029136 W hs (by omega) (by omega) hfin.2.1
  have CD:=Lib.hid hdec;have HY:=Lib.hid hY;have HJ:=Lib.hid hJ;have HE:=Lib.hid hE;have HST:=Lib.hid hst;have HFIN:=Lib.hid hfin;have HNX:=Lib.hid hnx;have HLT:=Lib.hid hlt;have HP:=Lib.hid hP;have HN:=Lib.hid hN;have HRR:=Lib.hid hR;have HP0:=Lib.hid hp0;have k0:=(zaa hE 0).trans rfl;have k1:=(zaa hE 1).trans rfl;have x0:=zab hE;obtain⟨a8,ha8⟩:∃ a,8*i=a:=⟨_,rfl⟩;have hq1:(a8:Int).tdiv 8=(i:Int):=by rw[Int.tdiv_eq_ediv_of_nonneg (by omega)];omega
  have hwi:IntKind.i64.wrap (i:Int)=(i:Int):=IntWalk.i64_in _ (by omega)
  have hq2:(a8:Int) / 8=(i:Int):=by omega
  have hw32:IntKind.i64.wrap ((a8:Int)+32)=((P 0:Nat):Int):=by rw[IntWalk.i64_in _ (by omega)];omega
  have HA8:=Lib.hid ha8;have hk1:W.cell? ⟨rb,1,none⟩=some (.int .i64 (a8:Nat)):=by rw[←ha8];exact k1
  clear k1 ha8;clear hmag hfin hnx hlt hp0 hP hN hR hY hJ hE hst hdec hsl hi4;refine callsIn_of_wp Tryz.func175 rfl trivial ?_ rfl;simp only[Tryz.ntmps175,List.size_toArray,List.length_cons,List.length_nil,Nat.reduceAdd,Nat.reduceSub,Array.replicate_succ,Array.replicate_zero,List.push_toArray,List.append_toArray,List.nil_append,List.cons_append];have h1n:1≤n:=by omega
  gi_wp2_with fail
  refine wpIn_wide.2 ?_
  go_quiet ((go_at_call 230;exact zdO (CR.out _)))
  have hdr:=below_drewN (Below.refl W.heap.size W) nq;have f1:W.frozen? ⟨rb,1,none⟩=false:=zac HE.out 1;have f2:W.frozen? ⟨rb,2,none⟩=false:=zac HE.out 2;have k2:W.cell? ⟨rb,2,none⟩=some sv0:=(zaa HE.out 2).trans rfl
  gi_wp2_with fail
  have hE0:zaM (((W.drewN nq).setCell ⟨rb,1,none⟩ (.int .i64 (P 0:Nat))).setCell ⟨rb,2,none⟩ (.slice none 0 0)) rb s (P 0) (.slice none 0 0):=by
    have h1:=zaf ((hdr.block rb x0).trans HE.out) 1 (.int .i64 ((P 0:Nat):Int));have h2:=zaf h1 2 (.slice none 0 0);unfold zaM;simpa using h2
  have hI0:IterW n0 zpa W (((W.drewN nq).setCell ⟨rb,1,none⟩ (.int .i64 (P 0:Nat))).setCell ⟨rb,2,none⟩ (.slice none 0 0)):=by
    have h1:=zaf ((hdr.block rb x0).trans HE.out) 1 (.int .i64 ((P 0:Nat):Int));exact ((IterW.of hdr).set (q:=⟨rb,1,none⟩) ((hdr.block rb x0).trans HE.out) (by decide) hn0 _).set (q:=⟨rb,2,none⟩) h1 (by decide) hn0 _
  have HR0:=Lib.hid hE0;have HJ0:=Lib.hid (HJ.out _ _ _ h0 hI0);clear hE0 hI0 hdr f1 f2 k0 hk1 k2 x0 h0 HE;generalize ((W.drewN nq).setCell ⟨rb,1,none⟩ (.int .i64 (P 0:Nat))).setCell ⟨rb,2,none⟩ (.slice none 0 0)=W1 at *
  gi_loopw [6] (fun ev wr=>ev=.int .i64 0∧∃ (q:Nat) (sv:Value),q≤N∧Hid (zaM wr rb s (P q) sv)∧Hid (wr.ownsRow (rb+1) 53 1 sv q (zm5 ((S.ts.take q).map zby)))∧Hid (J (pre0++((S.parts i).take q).map some) wr)) (fun _ wr=>8*s.size+1-(intOf ((wr.cell? ⟨rb,1,none⟩).getD undef)).toNat)
  case atStart=>exact⟨rfl,0,_,by omega,HR0,Lib.hid (World.ownsRow_nil _ _ _ _),by simpa using HJ0⟩
  case round =>
    clear HR0 HJ0;obtain⟨rfl,q,sv,hqN,HR,HS,HJq⟩:=hrel;obtain⟨sq,sc,rfl⟩:=zaB HS.out;have k0:=(zaa HR.out 0).trans rfl;have k1:=(zaa HR.out 1).trans rfl;have x0:=zab HR.out;have hpq0:=HLT.out
    by_cases hlt:q<N
    ·
      obtain⟨pq,hpq⟩:∃ pq,P q=pq:=⟨_,rfl⟩;obtain⟨pr,hpr⟩:∃ pr,P (q+1)=pr:=⟨_,rfl⟩;obtain⟨c,hce⟩:∃ c,zby (S.ts.getD q [])=c:=⟨_,rfl⟩;obtain⟨T,hTe⟩:∃ T:ByteArray,(⟨(S.ts.getD q []).toArray⟩:ByteArray)=T:=⟨_,rfl⟩
      have hbv:zvL (S.part i q) = .agg #[.string T,.int .u32 (c:Nat),.int .i64 (pq:Nat),.int .i64 (pr:Nat)]:=by
        unfold zvL Strm.part;simp only[HP.out,hpq,hpr,hce,hTe]
      have CGq:=Lib.hid (CG.out q hlt);have CDq:=Lib.hid (CD.out q hlt);have hltq:pq+48≤pr:=by have:=hpq0 q hlt;rw[hpq,hpr] at this;exact this
      rw[hbv] at CDq;rw[hpq] at CGq CDq HR;have HPQ:=Lib.hid hpq;have HPR:=Lib.hid hpr;have HCE:=Lib.hid hce;have HTE:=Lib.hid hTe
      have HEV:Hid (evE (some (S.part i q))=#[.agg #[.string T,.int .u32 (c:Nat),.int .i64 (pq:Nat),.int .i64 (pr:Nat),.int .i64 (R:Nat)],.int .i64 0]):=by
        show (#[zrX (S.part i q),Value.int .i64 0]:Array Value)=_
        unfold zrX Strm.part;simp only[HP.out,hpq,hpr,hce,hTe,HRR.out]
      have hk1:wr.cell? ⟨rb,1,none⟩=some (.int .i64 (pq:Nat)):=(zaa HR.out 1).trans rfl;have HK1:=Lib.hid hk1;have HPQS:Hid (pq+48≤8*s.size):=by have:=HMG.out q hlt;rw[hpq] at this;exact this
      clear hpq hpr hce hTe hbv hpq0 k1 CG CD CE
      gi_wp2_with fail
      refine wpIn_wide.2 ?_
      go_quiet ((go_at_call 231;exact zdO (CGq.out _)))
      gi_upto_region 14 with fail
      have hdr:=below_drewN (Below.refl wr.heap.size wr) nq;have HR5:Hid (zaM (wr.drewN nq) rb s pq (.slice sq q sc)):=(hdr.block rb x0).trans HR.out;have HS5:=Lib.hid (zag HS.out hdr);have HJ5:=Lib.hid (HJ.out _ _ _ HJq.out (IterW.of hdr));clear hdr HR HS HJq k0 hk1 x0;generalize wr.drewN nq=W5 at *
      have x0:=zab HR5.out
      gi_upto_region 15 with fail
      obtain⟨bb,hbb⟩:∃ bb,W5.heap.size=bb:=⟨_,rfl⟩;have hX6:(W5.alloc (.cells #[.string ⟨#[]⟩,.int .u32 0,.int .i64 0,.int .i64 0] 87)).heap[bb]?=some (.cells #[.string ⟨#[]⟩,.int .u32 0,.int .i64 0,.int .i64 0] 87 (0,0)):=zae _ _ _ hbb.symm;have hB6:=zk5 (Below.refl W5.heap.size W5) (.cells #[.string ⟨#[]⟩,.int .u32 0,.int .i64 0,.int .i64 0] 87);have HR6:Hid (zaM (W5.alloc (.cells #[.string ⟨#[]⟩,.int .u32 0,.int .i64 0,.int .i64 0] 87)) rb s pq (.slice sq q sc)):=(hB6.block rb x0).trans HR5.out;have HB6:=Lib.hid hB6;have HBB:=Lib.hid hbb;have HX6:=Lib.hid hX6;have hz6:(W5.alloc (.cells #[.string ⟨#[]⟩,.int .u32 0,.int .i64 0,.int .i64 0] 87)).heap.size=bb+1:=by simp[hbb]
      have hrbb:rb<bb:=by omega
      rw[hbb];clear hbb hB6 hX6 x0;generalize W5.alloc (.cells #[.string ⟨#[]⟩,.int .u32 0,.int .i64 0,.int .i64 0] 87)=W6 at *
      have k0:W6.cell? ⟨rb,0,none⟩=some (.string s):=(zaa HR6.out 0).trans rfl;have k1:W6.cell? ⟨rb,1,none⟩=some (.int .i64 (pq:Nat)):=(zaa HR6.out 1).trans rfl;have x0:=zab HR6.out;refine wpIn_wide.2 ?_
      go_region_with
        (go_at_call 223
         refine (CDq.out _).mono ?_;rintro e w5 ⟨rfl,hB5⟩;have hx5:=(hB5.block bb (zab HX6.out)).trans HX6.out;have b0:=zaa hx5 0;have b1:=zaa hx5 1;have b2:=zaa hx5 2;have b3:=zaa hx5 3;have g0:=zac hx5;have HX5:=Lib.hid hx5;have HB5:=Lib.hid hB5;clear hx5 hB5)
      all_goals
        have hB7:Below W5.heap.size W5 ((((w5.setCell ⟨bb,0,none⟩ (.string T)).setCell ⟨bb,1,none⟩ (.int .u32 (c:Nat))).setCell ⟨bb,2,none⟩ (.int .i64 (pq:Nat))).setCell ⟨bb,3,none⟩ (.int .i64 (pr:Nat))):=by
          have h1:=zvS HB5.out (zwd HB6.out);have h2:W5.heap.size≤bb:=Nat.le_of_eq HBB.out;exact zwe (zwe (zwe (zwe h1 h2 _ _) h2 _ _) h2 _ _) h2 _ _
        have hX7:((((w5.setCell ⟨bb,0,none⟩ (.string T)).setCell ⟨bb,1,none⟩ (.int .u32 (c:Nat))).setCell ⟨bb,2,none⟩ (.int .i64 (pq:Nat))).setCell ⟨bb,3,none⟩ (.int .i64 (pr:Nat))).heap[bb]?=some (Obj.cells #[.string T,.int .u32 (c:Nat),.int .i64 (pq:Nat),.int .i64 (pr:Nat)] 87 (0,0)):=by
          have:=zaf (zaf (zaf (zaf HX5.out 0 (.string T)) 1 (.int .u32 (c:Nat))) 2 (.int .i64 (pq:Nat))) 3 (.int .i64 (pr:Nat));simpa using this
        have HX7:=Lib.hid hX7;have HR7:Hid (zaM ((((w5.setCell ⟨bb,0,none⟩ (.string T)).setCell ⟨bb,1,none⟩ (.int .u32 (c:Nat))).setCell ⟨bb,2,none⟩ (.int .i64 (pq:Nat))).setCell ⟨bb,3,none⟩ (.int .i64 (pr:Nat))) rb s pq (.slice sq q sc)):=(hB7.block rb (zab HR5.out)).trans HR5.out;have HS7:=Lib.hid (zag HS5.out hB7);have HJ7:=Lib.hid (HJ.out _ _ _ HJ5.out (IterW.of hB7));have hz7:=hB7.size;have hbl:=zab hX7;clear hX7 hB7 HR5 HS5 HJ5 HB6 HR6 HX6 HX5 HB5 b0 b1 b2 b3 g0 k0 k1 x0;generalize (((w5.setCell ⟨bb,0,none⟩ (.string T)).setCell ⟨bb,1,none⟩ (.int .u32 (c:Nat))).setCell ⟨bb,2,none⟩ (.int .i64 (pq:Nat))).setCell ⟨bb,3,none⟩ (.int .i64 (pr:Nat))=W7 at *
        have m1:W7.cell? ⟨bb,1,none⟩=some (.int .u32 (c:Nat)):=(zaa HX7.out 1).trans rfl;have m3:W7.cell? ⟨bb,3,none⟩=some (.int .i64 (pr:Nat)):=(zaa HX7.out 3).trans rfl;have k1:W7.cell? ⟨rb,1,none⟩=some (.int .i64 (pq:Nat)):=(zaa HR7.out 1).trans rfl;have f1:W7.frozen? ⟨rb,1,none⟩=false:=zac HR7.out 1;have x0:=zab HR7.out
        gi_upto_region 18 with fail
        have hR8:zaM (W7.setCell ⟨rb,1,none⟩ (.int .i64 (pr:Nat))) rb s pr (.slice sq q sc):=by
          have:=zaf HR7.out 1 (.int .i64 (pr:Nat));unfold zaM;simpa using this
        have HX8:Hid ((W7.setCell ⟨rb,1,none⟩ (.int .i64 (pr:Nat))).heap[bb]?=some (Obj.cells #[.string T,.int .u32 (c:Nat),.int .i64 (pq:Nat),.int .i64 (pr:Nat)] 87 (0,0))):=(Below.heap_setCell _ _ _ _ (by show bb≠rb;omega)).trans HX7.out
        have HS8:Hid ((W7.setCell ⟨rb,1,none⟩ (.int .i64 (pr:Nat))).ownsRow (rb+1) 53 1 (.slice sq q sc) q (zm5 ((S.ts.take q).map zby))):=zau HS7.out ((Only.refl rb W7).set 1 _) (Nat.lt_succ_self rb);have HJ8:=Lib.hid (HJ.out _ _ _ HJ7.out ((IterW.refl n0 zpa W7).set (q:=⟨rb,1,none⟩) HR7.out (by decide) hn0 (.int .i64 (pr:Nat))))
        have HR8:=Lib.hid hR8;obtain⟨z8,hz8⟩:∃ z8,(W7.setCell ⟨rb,1,none⟩ (.int .i64 (pr:Nat))).heap.size=z8:=⟨_,rfl⟩;have hbz:bb<z8:=by rw[←hz8];exact zab HX8.out
        have hrz:rb<z8:=by omega
        clear hR8 m1 m3 k1 f1 x0 HX7 HR7 HS7 HJ7 hz7 hbl;generalize W7.setCell ⟨rb,1,none⟩ (.int .i64 (pr:Nat))=W8 at *
        have k2:W8.cell? ⟨rb,2,none⟩=some (.slice sq q sc):=(zaa HR8.out 2).trans rfl;have m1:W8.cell? ⟨bb,1,none⟩=some (.int .u32 (c:Nat)):=(zaa HX8.out 1).trans rfl;refine wpIn_wide.2 ?_
        go_region_law
          (refine zca zky (by rfl) _ _ (by rfl) (rb+1) _ q (zm5 ((S.ts.take q).map zby)) (by rfl) (HS8.out.alloc _) (z8+1) 1 _ [.int .u32 (c:Nat)] (by rfl) (Rd.mono (zap (zae _ _ _ hz8.symm) rfl (by rfl) (by simp[maxLen])) (by simp;omega)) (by intro c hc;simp at hc;subst hc;rfl) (by omega) (by omega) (by simp;omega) ?_
           intro q2 c2 w2 hown2 hg2 hat2;have hw2:=(hg2.block rb (by simp;omega) (fun e=>by have:=zaF HS8.out e.symm;omega)).trans (zah _ HR8.out)
           have kw2:=(zaa hw2 2).trans rfl;have fw2:=zac hw2 2;have HW2:=Lib.hid hw2;have Hown2:=Lib.hid hown2;have Hg2:=Lib.hid hg2;clear hw2 hown2 hg2 hat2)
      all_goals
        obtain⟨hR9,hS9,hI9⟩:=zmn (n0:=n0) HR8.out HS8.out hn0 (by first | exact zwd (zk5 (Below.refl _ _) _) | exact zk5 (zwd (Below.refl _ _)) _ | exact zk5 (Below.refl _ _) _) Hg2.out Hown2.out
        have HR9:=Lib.hid hR9;have HS9:=Lib.hid hS9;have HX9:=Lib.hid (hI9.box HX8.out (by decide))
        have HJ9:=Lib.hid (HJ.out _ _ _ HJ8.out hI9);clear hR9 hS9 hI9 Hg2 Hown2 HW2 kw2 fw2 HR8 HS8 HX8 HJ8 k2 m1 hz8;generalize w2.setCell ⟨rb,2,none⟩ (.slice q2 (q+1) c2)=W9 at *
        have m0:W9.cell? ⟨bb,0,none⟩=some (.string T):=(zaa HX9.out 0).trans rfl;have m1:W9.cell? ⟨bb,1,none⟩=some (.int .u32 (c:Nat)):=(zaa HX9.out 1).trans rfl;have m2:W9.cell? ⟨bb,2,none⟩=some (.int .i64 (pq:Nat)):=(zaa HX9.out 2).trans rfl;have m3:W9.cell? ⟨bb,3,none⟩=some (.int .i64 (pr:Nat)):=(zaa HX9.out 3).trans rfl;obtain⟨fn,tmps,assign,body,hy,hRR⟩:=ziC (m2:=n-1) (HY.out q (some (S.part i q)) W9 HJ9.out (.inl ⟨hlt,rfl⟩));rw[HEV.out] at hy
        gi_wp2_with fail
        refine hRR.mono ?_;rintro e W' (⟨rfl,hJ',hk',hz'⟩ | ⟨rfl,hJx'⟩)
        · have HR10:Hid (zaM W' rb s pr (.slice q2 (q+1) c2)):=hk' _ _ _ _ (by decide) HR9.out
          have HS10:=Lib.hid (hk'.row HS9.out (by decide))
          have HJ10:=Lib.hid hJ';clear hy hRR hJ' hk' hz' m0 m1 m2 m3 HR9 HS9 HX9 HJ9
          gi_wp2_with fail
          refine⟨⟨rfl,q+1,.slice q2 (q+1) c2,by omega,by rw[HPR.out];exact HR10,?_,?_⟩,?_⟩
          · rw[zsO S.ts q (by rw[HN.out];exact hlt),zlz,HCE.out]
            exact HS10
          · rw[Strm.parts_take i S q (by rw[HN.out];exact hlt),List.map_append,←List.append_assoc]
            exact HJ10
          · rw[HK1.out,(zaa HR10.out 1).trans rfl]
            have:=HPQS.out;simp[intOf];omega
        · clear hy hRR m0 m1 m2 m3 HR9 HS9 HX9 HJ9
          gi_wp2_with fail
          exact bodyPost_ret (results_tmp rfl _ _ _) rfl ⟨false,rfl,.inr (.inr ⟨rfl,_,zmp S i q (by rw[HN.out];exact hlt) pre0 _,hJx'⟩)⟩
    · obtain rfl:q=N:=by omega
      obtain⟨pn,hpn⟩:∃ pn,P q=pn:=⟨_,rfl⟩;obtain⟨f1,f2,f3,f4,f5,f6⟩:=HFIN.out;have hnx:=HNX.out;have hsl:s.data.toList.length=s.size:=by simp
      obtain⟨L,hL⟩:∃ L,S.ts.map zby=L:=⟨_,rfl⟩;have hLl:L.length=q:=by rw[←hL,List.length_map,HN.out]
      have hSq:S.ts.take q=S.ts:=List.take_of_length_le (by rw[HN.out];exact Nat.le_refl _)
      have hPq:(S.parts i).take q=S.parts i:=List.take_of_length_le (by rw[Strm.length_parts,HN.out];exact Nat.le_refl _)
      have HS0:Hid (wr.ownsRow (rb+1) 53 1 (.slice sq q sc) L.length (zm5 L)):=by
        have:=HS.out;rw[hSq,hL] at this;rw[hLl];exact this
      have HJ0:Hid (J (pre0++(S.parts i).map some) wr):=by
        have:=HJq.out;rw[hPq] at this;exact this
      have HYE:Hid (∀ W1,J (pre0++(S.parts i).map some) W1→S.good=false→YieldAt Fence.wide (n-1) Tryz.prog y #[.agg #[.string ⟨#[]⟩,.int .u32 0,.int .i64 0,.int .i64 0,.int .i64 0],.int .i64 7] W1 fun e W'=>(e=.returned (.bool true)∧J ((pre0++(S.parts i).map some)++[none]) W'∧KeepY zhe W1 W'∧W1.heap.size≤W'.heap.size)∨(e=.returned (.bool false)∧Jx ((pre0++(S.parts i).map some)++[none]) W')):=fun W1 h1 h2=>by
        have:=ziC (m2:=n-1) (HY.out q none W1 (by rw[hPq];exact h1) (.inr ⟨rfl,rfl,h2⟩))
        rw[hPq] at this;exact this
      have hLlt:∀ x∈L,x<4294967296:=fun x hx=>by
        rw[←hL] at hx;obtain⟨t,-,rfl⟩:=List.mem_map.1 hx;exact zdE t
      rw[hpn] at f1 f2 f3 f4 f5 hnx CE HR;obtain⟨er,her⟩:∃ er:Int,(if S.z=zhU L then (0:Int) else 7)=er:=⟨_,rfl⟩
      have CN:Hid (∀ W,zaM W rb s pn (.slice sq q sc)→W.ownsRow (rb+1) 53 1 (.slice sq q sc) L.length (zm5 L)→Calls Tryz.prog 232 #[.pointer (some ⟨rb,0,none⟩)] W fun e w'=>e=.returned (.int .i64 er)∧zaM w' rb s (8*(i+S.bytes)) (.slice sq q sc)∧Only rb W w'):=fun W h1 h2=>by
        have:=zsE W rb s pn S.z S.pad (.slice sq q sc) L h1 hs f5 f6 (by omega) f3 f4 h2 hLlt (by omega)
        rw[her,hnx] at this;exact this
      have hgd:S.good=true∧er=0∨S.good=false∧er=7:=by
        unfold Strm.good;rw[hL,←her]
        by_cases h:S.z=zhU L
        · exact .inl ⟨by simp[h],if_pos h⟩
        · exact .inr ⟨by simp[h],if_neg h⟩
      have hk1:wr.cell? ⟨rb,1,none⟩=some (.int .i64 (pn:Nat)):=(zaa HR.out 1).trans rfl;clear f1 f2 f3 f4 f5 f6 hnx hsl hL hLl hSq hPq HS HJq hLlt her hpn k1 HNX HFIN HMG HLT hpq0 CG CD HY
      gi_wp2_with fail
      refine wpIn_wide.2 ?_
      go_quiet ((go_at_call 231;exact zdO (CE.out _)))
      have hdr:=below_drewN (Below.refl wr.heap.size wr) nq;have HR5:Hid (zaM (wr.drewN nq) rb s pn (.slice sq q sc)):=(hdr.block rb x0).trans HR.out;have HS5:=Lib.hid (zag HS0.out hdr);have HJ5:=Lib.hid (HJ.out _ _ _ HJ0.out (IterW.of hdr));clear hdr HR HS0 HJ0 k0 hk1 x0;generalize wr.drewN nq=W5 at *
      rcases hgd with ⟨hgd,rfl⟩ | ⟨hgd,rfl⟩
      · gi_wp2_with fail
        refine⟨trivial,(callsIn_wide.2 (CN.out _ HR5.out HS5.out)).mono ?_⟩;rintro e w6 ⟨rfl,hr6,ho6⟩;have HJ6:=Lib.hid (HJ.out _ _ _ HJ5.out (IterW.only ho6 hn0 HR5.out (by decide)))
        have HR6:=Lib.hid hr6;clear hr6 ho6 HR5 HS5 HJ5 CN HYE
        gi_wp2_with fail
        refine⟨(fun _ h=>by cases h),?_⟩
        gi_wp2_with fail
        exact bodyPost_ret (results_tmp rfl _ _ _) rfl ⟨true,rfl,.inl ⟨rfl,hgd,HJ6.out,_,HR6.out⟩⟩
      · gi_wp2_with fail
        refine⟨trivial,(callsIn_wide.2 (CN.out _ HR5.out HS5.out)).mono ?_⟩;rintro e w6 ⟨rfl,hr6,ho6⟩;have HJ6:=Lib.hid (HJ.out _ _ _ HJ5.out (IterW.only ho6 hn0 HR5.out (by decide)))
        have HR6:=Lib.hid hr6;obtain⟨fn,tmps,assign,body,hy,hRR⟩:=HYE.out w6 HJ6.out hgd;clear hr6 ho6 HR5 HS5 HJ5 CN HYE
        gi_wp2_with fail
        refine hRR.mono ?_;rintro e W' (⟨rfl,hJ',hk',hz'⟩ | ⟨rfl,hJx'⟩)
        · gi_wp2_with fail
          exact bodyPost_ret (results_tmp rfl _ _ _) rfl ⟨false,rfl,.inr (.inl ⟨rfl,hgd,hJ'⟩)⟩
        · gi_wp2_with fail
          exact bodyPost_ret (results_tmp rfl _ _ _) rfl ⟨false,rfl,.inr (.inr ⟨rfl,_,by rw[hgd];exact List.prefix_refl _,hJx'⟩)⟩
end Go.Proofs.YtoejfkeofbdalaaGreatDoor
