import Derived.Test.YtoejfkeofbdalaaGreatDoorM40
import Derived.Test.YtoejfkeofbdalaaGreatDoorM42
set_option linter.unusedVariables false
set_option maxRecDepth 100000
set_option maxHeartbeats 8000000
namespace Go.Proofs.YtoejfkeofbdalaaGreatDoor
open Go.RowKit Go.Shelf
attribute [local go_sem] Oper.semAt_some
theorem zsC {s:ByteArray} {i:Nat} {S:Strm} (h:StrmAt s.data.toList i S.lv S.ts S.z S.pad) (hs:s.size≤1000000):zuH s i S:=by
  intro q hq W;have ht:=h.ok S.ts[q] (List.getElem_mem hq);have h1:=h.lv1;have h9:=h.lv9;have:=zqb W s (zcj (8*i+32) S.ts q) (40*S.lv) S.ts[q] hs ht.1 ht.2 (by omega) (by omega) (h.block q hq)
  rw[←ziD _ _ _ hq] at this;unfold zvL Strm.part;rw[List.getD_eq_getElem?_getD,List.getElem?_eq_getElem hq];exact this
theorem zpy (s:ByteArray) (w:World) :
    Calls Tryz.prog 128 #[.string s] w fun e w'=>e=.returned (.func (.func 174) #[] #[.pointer (some ⟨w.heap.size,0,none⟩)])∧w.alloc (.cells #[.string s] 9)=w':=by
  have hmf:=hmf
  go_enter Tryz.func128,Tryz.ntmps128
  go_wp2
  go_ret
  exact⟨rfl,rfl⟩
theorem zkk:Enters Tryz.prog 174:=enters_of Tryz.func174 (by kernel_rfl) rfl
theorem IterW.wider {n0:Nat} {T U:TypeId→Bool} {A B:World} (h:IterW n0 T A B) (hTU:∀ t,T t=true→U t=true):IterW n0 U A B :=
  ⟨h.os,h.tape,h.output,h.size,h.low,fun b o h1 h2=>h.kept b o h1 fun cs t fz e=>by
    have:=h2 cs t fz e;cases hT:T t with
    | false=>rfl
    | true=>rw[hTU t hT] at this;cases this⟩
theorem zuG (t:TypeId) (h:zpa t=true):zhe t=true:=by unfold zhe;rw[h];rfl
theorem zoy (i:Nat) (S:Strm) (L:List Strm) (pre all:List (Option Part)) (h:pre++evs i (S::L)=all):(pre++(S.parts i).map some)++(if S.good then [] else [none]) <+: all:=by
  rw[←h,evs];cases S.good with
  | true=>simp
  | false=>simp
theorem zoL {F:Fence} {m:Nat} {P:Program} {l:Nat} {args:Array Value} {W:World} {R R':Ending→World→Prop} (h:YieldAt F m P l args W R) (hr:∀ e w,R e w→R' e w):YieldAt F m P l args W R' :=
  let ⟨fn,tmps,assign,body,h1,h2⟩:=h
  ⟨fn,tmps,assign,body,h1,h2.mono hr⟩
theorem zte (i:Nat) (S:Strm) (L:List Strm) (pre all:List (Option Part)) (h:pre++evs i (S::L)=all) (q:Nat) (x:Option Part) (hq:q<S.ts.length∧x=some (S.part i q)∨q=S.ts.length∧x=none∧S.good=false):(pre++((S.parts i).take q).map some).length<all.length:=by
  rw[←h,List.length_append,List.length_append,List.length_map,List.length_take,evs,List.length_append,List.length_map,Strm.length_parts];rcases hq with ⟨h1,-⟩ | ⟨h1,-,h3⟩
  · omega
  · rw[h3];simp;omega
theorem zsl (n:Nat) (hn:6≤n) (y b1 n0:Nat) (s:ByteArray) (hs:s.size≤1000000) (L:List Strm) (hL:L≠[]) (hA:zdI s.data.toList 0 L) (hLs:∀ S∈L,S.ts.length≤100000)
    (J Jx:List (Option Part)→World→Prop) (W:World) (hn0:n0≤W.heap.size) (hb1:W.heap[b1]?=some (.cells #[.string s] 9 (0,0)))
    (hJ:∀ s A B,J s A→IterW n0 zhe A B→J s B)
    (hY:∀ (pre:List (Option Part)) (x:Option Part) (W1:World),J pre W1→pre.length<(evs 0 L).length→YieldAt Fence.wide (n-1) Tryz.prog y (evE x) W1 fun e W'=>(e=.returned (.bool true)∧J (pre++[x]) W'∧KeepY zhe W1 W'∧W1.heap.size≤W'.heap.size)∨(e=.returned (.bool false)∧Jx (pre++[x]) W'))
    (h0:J [] W) :
    CallsIn Fence.wide n Tryz.prog 174 #[.func (.yield y) #[] #[],.pointer (some ⟨b1,0,none⟩)] W fun e W'=>(∃ v,e=.returned v)∧((∃ xs,xs=evs 0 L∧J xs W')∨(∃ pre,pre <+: evs 0 L∧Jx pre W')):=by
  have hs0:0<s.size:=by
    cases L with
    | nil=>exact absurd rfl hL
    | cons S L2 =>
      have h1:=Strm.fits hA.1;have h2:=Strm.bytes_pos S;have h3:s.data.toList.length=s.size:=by simp
      omega
  have hse:s.toList.isEmpty=false:=by
    rw[Lib.toList_data];have h3:s.data.toList.length=s.size:=by simp
    cases hd:s.data.toList with
    | nil=>rw[hd] at h3;simp at h3;omega
    | cons x y=>rfl
  have HJ:=Lib.hid hJ;have HY:=Lib.hid hY;have HB1:=Lib.hid hb1;have HLS:=Lib.hid hLs;have kb1:W.cell? ⟨b1,0,none⟩=some (.string s):=(zaa hb1 0).trans rfl;clear hJ hY hb1 hL hLs;have HA:=Lib.hid hA;clear hA;refine callsIn_of_wp Tryz.func174 rfl trivial ?_ rfl;simp only[Tryz.ntmps174,List.size_toArray,List.length_cons,List.length_nil,Nat.reduceAdd,Nat.reduceSub,Array.replicate_succ,Array.replicate_zero,List.push_toArray,List.append_toArray,List.nil_append,List.cons_append];have h1n:1≤n:=by omega
  gi_wp2_with fail
  obtain⟨rb,hrb⟩:∃ rb,W.heap.size=rb:=⟨_,rfl⟩;have hE1:zaM (W.alloc (.cells #[.string s,.int .i64 0,.slice none 0 0] 292)) rb s (8*0) (.slice none 0 0):=zae _ _ _ hrb.symm;have hB1:=zk5 (Below.refl W.heap.size W) (.cells #[.string s,.int .i64 0,.slice none 0 0] 292);have HE1:=Lib.hid hE1;have HJ1:=Lib.hid (HJ.out _ _ _ h0 (IterW.of hB1));have HS1:=Lib.hid ((hB1.block b1 (zab HB1.out)).trans HB1.out);rw[hrb] at hn0 ⊢;clear hE1 hB1 HB1 kb1 h0 hrb;generalize W.alloc (.cells #[.string s,.int .i64 0,.slice none 0 0] 292)=W1 at *
  gi_loopw [22] (fun _ wr=>∃ (pre:List (Option Part)) (i:Nat) (M:List Strm) (sv:Value),(∀ S∈M,S.ts.length≤100000)∧Hid (zdI s.data.toList i M)∧Hid (zaM wr rb s (8*i) sv)∧Hid (J pre wr)∧Hid (pre++evs i M=evs 0 L)∧Hid (wr.heap[b1]?=some (.cells #[.string s] 9 (0,0)))) (fun _ wr=>8*s.size+1-(intOf ((wr.cell? ⟨rb,1,none⟩).getD undef)).toNat)
  case atStart=>exact⟨[],0,L,_,HLS.out,HA,HE1,HJ1,rfl,HS1⟩
  case round =>
    clear HE1 HJ1 HS1 HLS HA;obtain⟨pre,i,M,sv,hM,HA,HE,HJ0,HP,HS⟩:=hrel;have hsl:s.data.toList.length=s.size:=by simp
    obtain⟨a8,ha8⟩:∃ a,8*i=a:=⟨_,rfl⟩;have kb1:wr.cell? ⟨b1,0,none⟩=some (.string s):=(zaa HS.out 0).trans rfl;have k1:wr.cell? ⟨rb,1,none⟩=some (.int .i64 (a8:Nat)):=by rw[←ha8];exact (zaa HE.out 1).trans rfl
    have x0:=zab HE.out;have hw8:IntKind.i64.wrap (8*(s.size:Int))=((8*s.size:Nat):Int):=by rw[IntWalk.i64_in _ (by omega)];omega
    cases M with
    | nil =>
      have hi:i=s.size:=by have:=HA.out;rw[←hsl];exact this
      have hd:decide ((a8:Int)<8*(s.size:Int))=false:=decide_eq_false (by omega)
      have hd2:decide ((a8:Int)<((8*s.size:Nat):Int))=false:=decide_eq_false (by omega)
      have hxs:pre=evs 0 L:=by
        have:=HP.out;rw[evs,List.append_nil] at this;exact this
      have HXS:=Lib.hid hxs;clear ha8 hi hsl hxs
      gi_wp2_with fail
      gi_quiet (fail)
      gi_wp2_with fail
      exact bodyPost_end (results_none rfl _ _ _) rfl ⟨⟨_,rfl⟩,.inl ⟨pre,HXS.out,HJ.out _ _ _ HJ0.out (IterW.of (below_drewN (Below.refl _ _) _))⟩⟩
    | cons S M =>
      obtain⟨hst,hA2⟩:=HA.out;have hfit:=Strm.fits hst;have hbp:=Strm.bytes_pos S;have hd:decide ((a8:Int)<8*(s.size:Int))=true:=decide_eq_true (by omega)
      have hd2:decide ((a8:Int)<((8*s.size:Nat):Int))=true:=decide_eq_true (by omega)
      have HST:=Lib.hid hst;have HA2:=Lib.hid hA2;have HK1:=Lib.hid k1;have HA8:=Lib.hid ha8;have hts:=hM S (by simp)
      have hM2:∀ S'∈M,S'.ts.length≤100000:=fun S' h=>hM S' (by simp[h])
      have hroom:=zte i S M pre _ HP.out;have hprf:=zoy i S M pre _ HP.out;have HROOM:=Lib.hid hroom;have HPRF:=Lib.hid hprf;have HFIT:Hid (a8<8*s.size∧14≤S.bytes):=⟨by omega,hbp⟩
      clear hst hA2 ha8 hsl hfit hbp hroom hprf hM
      gi_wp2_with fail
      gi_quiet (fail)
      have hdr:=below_drewN (Below.refl wr.heap.size wr) nq;have HE2:=Lib.hid ((hdr.block rb x0).trans HE.out);have HJ2:=Lib.hid (HJ.out _ _ _ HJ0.out (IterW.of hdr));have HS2:=Lib.hid ((hdr.block b1 (zab HS.out)).trans HS.out);clear hdr HE HJ0 HS kb1 k1 x0;generalize wr.drewN nq=W2 at *
      gi_wp2_with fail
      refine⟨trivial,(zpU (n-1) (n-1) (by omega) y rb n0 s (by omega) S i HST.out (zsC HST.out hs) hts hn0 (fun pre W=>J pre W∧W.heap[b1]?=some (.cells #[.string s] 9 (0,0))) Jx pre W2 sv HE2.out
        (fun s A B h hI=>⟨HJ.out _ _ _ h.1 (hI.wider zuG),hI.box h.2 (by decide)⟩)
        (fun q x W1 h hq=>zoL (HY.out _ x W1 h.1 (HROOM.out q x hq)) fun e w h2=>by
          rcases h2 with ⟨h3,h4,h5,h6⟩ | h3
          · exact .inl ⟨h3,⟨h4,h5 _ _ _ _ (by decide) h.2⟩,h5,h6⟩
          · exact .inr h3)
        ⟨HJ2.out,HS2.out⟩).mono ?_⟩
      rintro e W3 ⟨b,rfl,hends⟩;rcases hends with ⟨rfl,hg,⟨hj,hbx⟩,sv3,hr3⟩ | ⟨rfl,hg,hj,hbx⟩ | ⟨rfl,pre3,hp3,hj3⟩
      · clear HE2 HJ2 HS2
        gi_wp2_with fail
        refine⟨⟨_,i+S.bytes,M,sv3,hM2,HA2.out,hr3,hj,?_,hbx⟩,?_⟩
        · show _=_
          rw[←HP.out,evs,hg];simp
        · rw[HK1.out,(zaa hr3 1).trans rfl]
          have h1:=HFIT.out;have h2:=HA8.out
          show 8*s.size+1-(((8*(i+S.bytes):Nat):Int)).toNat<8*s.size+1-((a8:Nat):Int).toNat
          omega
      · clear HE2 HJ2 HS2
        gi_wp2_with fail
        refine bodyPost_ret (results_none rfl _ _ _) rfl ⟨⟨_,rfl⟩,.inl ⟨_,?_,hj⟩⟩;rw[←HP.out,evs,hg];simp
      · clear HE2 HJ2 HS2
        gi_wp2_with fail
        exact bodyPost_ret (results_none rfl _ _ _) rfl ⟨⟨_,rfl⟩,.inr ⟨pre3,hp3.trans HPRF.out,hj3⟩⟩
theorem zqF (n:Nat) (hn:6≤n) (b1 n0:Nat) (s:ByteArray) (hs:s.size≤1000000) (L:List Strm) (hL:L≠[]) (hA:zdI s.data.toList 0 L) (hLs:∀ S∈L,S.ts.length≤100000) (w0:World) (hn0:n0≤w0.heap.size) (hb1:w0.heap[b1]?=some (.cells #[.string s] 9 (0,0))) :
    ztK n0 zhe n 174 #[.pointer (some ⟨b1,0,none⟩)] evE (fun _ _=>True) (fun xs=>xs=evs 0 L) (fun pre=>pre <+: evs 0 L) (evs 0 L).length w0 :=
  fun y J Jx W hBW hJ hJx hY h0=>zsl n hn y b1 n0 s hs L hL hA hLs J Jx W (Nat.le_trans hn0 hBW.size) ((hBW.block b1 (zab hb1)).trans hb1) hJ (fun pre x W1 h1 h2=>hY pre x W1 h1 h2 trivial) h0
end Go.Proofs.YtoejfkeofbdalaaGreatDoor
namespace Go.Proofs.YtoejfkeofbdalaaGreatDoor
open Go.RowKit Go.Shelf
attribute [local go_sem] Oper.semAt_some
theorem zc3 {F:Fence} {k:Nat} {w:World} {ops:Array Oper} {rest:List Oper} {o:Oper} {a:Act} {Q:Exit→Act→World→Prop} {t e:TypeId} {z:Value} {size bytes:Nat} (E:ElemT t e z size bytes) (hgd:o.guard=none) (s x:Operand)
    (ho:o.op=.call { callee:=.builtin .append,args:=#[s,x],argTypes:=#[t,t] })
    (base:Nat) (v:Value) (n:Nat) (xs:List Value) (hs:a.eval s=v) (hown:w.ownsRow base e size v n xs)
    (ad:Addr) (m c:Nat) (news:List Value) (hx:a.eval x=.slice (some ad) m c) (hn:news.length=m*size) (hc:∀ j u,news[j]?=some u→w.cell? (ad.add j)=some u) (h1:∀ c∈news,c.oneCell'=true)
    (hlen:n+m≤17592186044416) (hb:bytes≤8∨n+m≤1099511627776∧bytes≤128) (hbase:base≤w.heap.size)
    (h:∀ q c w',w'.ownsRow base e size (.slice q (n+m) c) (n+m) (xs++news)→w.grownBy w' v.ownBlock→wpListIn F k Tryz.prog ops Q rest (a.put o.dst (.slice q (n+m) c)) w') :
    wpListIn F k Tryz.prog ops Q (o::rest) a w:=by
  obtain⟨i0,hi,hz0,hz1,hz2⟩:=info_parts E.info
  have hbb:(n+m)*bytes≤140737488355328:=by
    rcases hb with hb | ⟨hb1,hb2⟩
    · exact Nat.le_trans (Nat.mul_le_mul hlen hb) (by omega)
    · exact Nat.le_trans (Nat.mul_le_mul hb1 hb2) (by omega)
  refine wpListIn_append_own w hgd s x t ho base e i0 z size bytes E.under hi hz0 hz1 hz2 E.cells E.pos v n xs hs hown ad m c news hx hn hc h1 (by unfold maxLen;omega) hbb hbase ?_
  intro v' w' h2 h3 h4;obtain⟨q,c,rfl⟩:=zaB h2;exact h q c w' h2 h3
theorem zb9 {D:Nat} {W W':World} (h:Below W.heap.size W W'):KeepsFrom D W W':=⟨h.size,fun k o _ hk _=>(h.block k (zab hk)).trans hk⟩
theorem zd0 {D base e size n:Nat} {W W':World} {v:Value} {xs:List Value} (ho:W.ownsRow base e size v n xs) (hg:W.grownBy W' v.ownBlock):KeepsFrom D W W':=⟨hg.size,fun k o _ hk hc=>(hg.block k (zab hk) (fun e'=>by
  obtain⟨c,hc2⟩:=zaN ho e'.symm;rw[hk] at hc2;cases hc2
  cases hc)).trans hk⟩
def zcI (p:Part):List Value:=[.string ⟨p.t.toArray⟩,.int .u32 (zby p.t:Nat),.int .i64 (p.at0:Nat),.int .i64 (p.next:Nat),.int .i64 (p.room:Nat)]
def zaD (ps:List Part):List Value:=ps.flatMap zcI
theorem zio (ps:List Part) (p:Part):zaD (ps++[p])=zaD ps++zcI p:=by simp[zaD]
theorem zdq (ps:List Part):(zaD ps).length=ps.length*5:=by
  induction ps with
  | nil=>rfl
  | cons p ps ih =>
    have:zaD (p::ps)=zcI p++zaD ps:=by simp[zaD]
    rw[this,List.length_append,ih];simp[zcI];omega
theorem zp7:ElemT 129 136 (.agg #[.string ⟨#[]⟩,.int .u32 0,.int .i64 0,.int .i64 0,.int .i64 0]) 5 48:=⟨Tryz.underlying129,by kernel_rfl,rfl,by decide⟩
structure AllSt (g:Nat) (w:World) (pre:List (Option Part)) (W:World):Prop where
  bel:Below g w W
  st:∃ (v:Value) (ps:List Part),pre=ps.map some∧W.heap[g]?=some (Obj.cells #[v] 129 (0,0))∧W.ownsRow (g+2) 136 5 v ps.length (zaD ps)
  er:W.heap[g+1]?=some (Obj.cells #[.int .i64 0] 25 (0,0))
structure AllX (g:Nat) (w:World) (c:Go.Code) (pre:List (Option Part)) (W:World):Prop where
  bel:Below g w W
  out:c=.ret∧∃ ps:List Part,pre=ps.map some++[none]
  res:W.heap[g]?=some (Obj.cells #[.slice none 0 0] 129 (0,0))
  er:W.heap[g+1]?=some (Obj.cells #[.int .i64 7] 25 (0,0))
def zbT (L:List Strm):Bool:=L.all Strm.good
def zc5 (L:List Strm):List Part:=if zbT L then zhS 0 L else []
def ziF (L:List Strm):Int:=if zbT L then 0 else 7
theorem zsG (L:List Strm):∀ (i:Nat) (ps:List Part),evs i L=ps.map some→zbT L=true∧ps=zhS i L:=by
  induction L with
  | nil=>intro i ps h;rw[evs] at h;refine⟨rfl,?_⟩;rw[zhS];exact (List.map_eq_nil_iff.1 h.symm)
  | cons S L ih =>
    intro i ps h;rw[evs] at h;cases hg:S.good with
    | false =>
      rw[hg] at h
      exfalso
      have h2:(none:Option Part)∈ps.map some:=by rw[←h];simp
      simp at h2
    | true =>
      rw[hg,if_pos rfl] at h
      have h3:∃ qs,ps=S.parts i++qs∧evs (i+S.bytes) L=qs.map some:=by
        obtain⟨a,b,h4,h5,h6⟩:=List.map_eq_append_iff.1 h.symm;have h7:a=S.parts i:=(List.map_inj_right (f:=some) (fun _ _ e=>Option.some.inj e)).1 h5;exact⟨b,by rw[h4,h7],h6.symm⟩
      obtain⟨qs,rfl,h4⟩:=h3;obtain⟨h5,h6⟩:=ih _ _ h4;refine⟨?_,by rw[zhS,h6]⟩
      unfold zbT at h5 ⊢;rw[List.all_cons,hg,h5];rfl
theorem zsi (L:List Strm):∀ (i:Nat) (ps:List Part) (rest:List (Option Part)),(ps.map some++[none])++rest=evs i L→zbT L=false:=by
  induction L with
  | nil=>intro i ps rest h;rw[evs] at h;simp at h
  | cons S L ih =>
    intro i ps rest h;unfold zbT;rw[List.all_cons];cases hg:S.good with
    | false=>rfl
    | true =>
      rw[evs,hg,if_pos rfl] at h;rw[Bool.true_and]
      have h2:∃ qs:List Part,(qs.map some++[none])++rest=evs (i+S.bytes) L:=by
        rw[List.append_assoc] at h;rcases List.append_eq_append_iff.1 h with ⟨a,h3,h4⟩ | ⟨a,h3,h4⟩
        · cases a with
          | nil=>exact⟨[],by simpa using h4⟩
          | cons x a =>
            exfalso
            have h5:x=none:=by
              have:=congrArg List.head? h4;simp at this;exact this.symm
            subst h5;have h6:(none:Option Part)∈(S.parts i).map some:=by rw[h3];simp
            simp at h6
        · obtain⟨a1,a2,h5,h6,h7⟩:=List.map_eq_append_iff.1 h3
          refine⟨a2,?_⟩;rw[h7,List.append_assoc];exact h4.symm
      obtain⟨qs,h3⟩:=h2;exact ih _ _ _ h3
theorem AllSt.own {g D:Nat} {w:World} (hg:g=w.heap.size) (hD:g+2≤D):OwnFrom D (fun pre W=>AllSt g w pre W):=by
  intro pre W W' row h hgr hr
  have hne:∀ k cs t fz,W.heap[k]?=some (Obj.cells cs t fz)→W'.heap[k]?=some (Obj.cells cs t fz):=fun k cs t fz hk=>(hgr.block k (zab hk) (fun e=>by
    obtain⟨-,o,h1,h2⟩:=hr k e.symm;rw[hk] at h1;cases h1
    cases h2)).trans hk
  obtain⟨v,ps,h1,h2,h3⟩:=h.st;exact⟨h.bel.grown hgr (by have:=h.bel.size;omega) (fun k hk=>by have:=(hr k hk).1;omega),⟨v,ps,h1,hne _ _ _ _ h2,zc7 h3 hgr (fun r e=>(hr r e).2)⟩,hne _ _ _ _ h.er⟩
theorem AllSt.iter {g:Nat} {w A B:World} {pre:List (Option Part)} (h:AllSt g w pre A) (hg:g=w.heap.size) (hI:IterW g zhe A B):AllSt g w pre B:=by
  obtain⟨v,ps,h1,h2,h3⟩:=h.st;exact⟨hI.below h.bel (Nat.le_refl _) (by omega),⟨v,ps,h1,hI.box h2 (by decide),hI.row h3 (by decide)⟩,hI.box h.er (by decide)⟩
theorem AllX.own {g D:Nat} {w:World} (hg:g=w.heap.size) (hD:g+2≤D) (c:Go.Code):OwnFrom D (fun pre W=>AllX g w c pre W):=by
  intro pre W W' row h hgr hr
  have hne:∀ k cs t fz,W.heap[k]?=some (Obj.cells cs t fz)→W'.heap[k]?=some (Obj.cells cs t fz):=fun k cs t fz hk=>(hgr.block k (zab hk) (fun e=>by
    obtain⟨-,o,h1,h2⟩:=hr k e.symm;rw[hk] at h1;cases h1
    cases h2)).trans hk
  exact⟨h.bel.grown hgr (by have:=h.bel.size;omega) (fun k hk=>by have:=(hr k hk).1;omega),h.out,hne _ _ _ _ h.res,hne _ _ _ _ h.er⟩
theorem AllX.iter {g:Nat} {w A B:World} {c:Go.Code} {pre:List (Option Part)} (h:AllX g w c pre A) (hg:g=w.heap.size) (hI:IterW g zhe A B):AllX g w c pre B :=
  ⟨hI.below h.bel (Nat.le_refl _) (by omega),h.out,hI.box h.res (by decide),hI.box h.er (by decide)⟩
def zu6:Option Part→List Value
  | some p=>zcI p
  | none=>[.string ⟨#[]⟩,.int .u32 0,.int .i64 0,.int .i64 0,.int .i64 0]
def evN:Option Part→Int
  | some _=>0
  | none=>7
theorem zfb (a:Addr) (w:World) (v:Value) (hc:w.cell? a=some v):(loadVar 129 a).run Tryz.prog w=.ok v w:=by
  simp[loadVar,isAgg,hc]
theorem zjP (s:ByteArray) (w:World) (hs:s.size≤1000000) (L:List Strm) (hL:L≠[]) (hA:zdI s.data.toList 0 L) (hLs:∀ S∈L,S.ts.length≤100000) (hev:(evs 0 L).length≤1000000) :
    Calls Tryz.prog 69 #[.string s] w fun e w'=>∃ v,e=.returned (.tuple #[v,.int .i64 (ziF L)])∧w'.ownsRow (w.heap.size+2) 136 5 v (zc5 L).length (zaD (zc5 L))∧Below w.heap.size w w':=by
  have CP:=Lib.hid (fun W=>zpy s W);obtain⟨D,hD⟩:∃ D:Nat,8≤D:=⟨8,by omega⟩
  have h1D:1≤D:=by omega
  refine (callsIn_wide (n:=D)).1 ?_;refine callsIn_of_wp_marks Tryz.func69 rfl trivial ?_ rfl;simp only[Tryz.ntmps69,List.size_toArray,List.length_cons,List.length_nil,Nat.reduceAdd,Nat.reduceSub,Array.replicate_succ,Array.replicate_zero,List.push_toArray,List.append_toArray,List.nil_append,List.cons_append]
  gi_wp2_with fail
  refine⟨trivial,(callsIn_wide.2 (CP.out _)).mono ?_⟩;rintro e w1 ⟨rfl,rfl⟩
  gi_wp2_with fail
  obtain⟨g,hg⟩:∃ g,w.heap.size=g:=⟨_,rfl⟩;have hW0:(((w.alloc (.cells #[.slice none 0 0] 129)).alloc (.cells #[.int .i64 0] 25)).alloc (.cells #[.string s] 9)).heap[g]?=some (Obj.cells #[.slice none 0 0] 129 (0,0)):=zah _ (zah _ (zae _ _ _ hg.symm));have hW1:(((w.alloc (.cells #[.slice none 0 0] 129)).alloc (.cells #[.int .i64 0] 25)).alloc (.cells #[.string s] 9)).heap[g+1]?=some (Obj.cells #[.int .i64 0] 25 (0,0)):=zah _ (zae _ _ _ (by simp[hg]))
  have hW2:(((w.alloc (.cells #[.slice none 0 0] 129)).alloc (.cells #[.int .i64 0] 25)).alloc (.cells #[.string s] 9)).heap[g+2]?=some (Obj.cells #[.string s] 9 (0,0)):=zae _ _ _ (by simp[hg])
  have hWs:(((w.alloc (.cells #[.slice none 0 0] 129)).alloc (.cells #[.int .i64 0] 25)).alloc (.cells #[.string s] 9)).heap.size=g+3:=by simp[hg]
  have hBW:Below g w (((w.alloc (.cells #[.slice none 0 0] 129)).alloc (.cells #[.int .i64 0] 25)).alloc (.cells #[.string s] 9)):=by
    rw[←hg];exact zk5 (zk5 (zk5 (Below.refl _ _) _) _) _
  rw[hg];have HGG:Hid (g=w.heap.size):=hg.symm;clear hg;generalize ((w.alloc (.cells #[.slice none 0 0] 129)).alloc (.cells #[.int .i64 0] 25)).alloc (.cells #[.string s] 9)=W0 at *
  refine zqh (n:=D) (n0:=g) h1D (gf:=174) (lb:=#[.pointer (some ⟨g+2,0,none⟩)]) rfl zkk (encs:=evE) (fun x=>by cases x <;> rfl) (fun _ _=>True) zhe
    (zqF (D-1) (by omega) (g+2) g s hs L hL hA hLs W0 (by omega) hW2) (Below.refl _ _)
    (fun pre W=>AllSt g w pre W) (fun c pre W=>AllX g w c pre W) (AllSt.own HGG.out (by omega)) (AllX.own HGG.out (by omega)) (fun pre A B h hI=>h.iter HGG.out hI) (fun c pre A B h hI=>h.iter HGG.out hI)
    ⟨hBW,⟨_,[],rfl,hW0,World.ownsRow_nil _ _ _ _⟩,hW1⟩
    (fun x a' W=>∃ pb:Nat,W.heap[pb]?=some (Obj.cells (zu6 x).toArray 136 (0,0))∧a' = { tmps:=#[.string s,undef,.pointer (some ⟨g,0,none⟩),.pointer (some ⟨g+1,0,none⟩),.pointer (some ⟨pb,0,none⟩),.int .i64 (evN x),.string s,.func (.func 174) #[] #[.pointer (some ⟨g+2,0,none⟩)],.agg (zu6 x).toArray,.int .i64 (evN x),undef,undef,undef,undef,undef,undef,undef,undef],defers:=[] })
    (fun x a' _ W W' row ⟨pb,h1,h2⟩ hgr hr=>⟨pb,(hgr.block pb (zab h1) (fun e=>by
      obtain⟨-,o,h3,h4⟩:=hr pb e.symm;rw[h1] at h3;cases h3
      cases h4)).trans h1,h2⟩)
    ?assign ?body ?done ?stop
  case assign =>
    intro y pre x W K hi hok hlt hK;cases x with
    | none =>
      simp only[evE,ztS];simp only[zu6,evN] at hK
      gi_wp2_with fail
      have hB:=zk5 (Below.refl W.heap.size W) (.cells #[.string ⟨#[]⟩,.int .u32 0,.int .i64 0,.int .i64 0,.int .i64 0] 136);exact hK _ _ (zb9 hB) (KeepY.of hB) (hi.iter HGG.out (IterW.of hB)) ⟨W.heap.size,zae _ _ _ rfl,rfl⟩
    | some p =>
      simp only[evE,zrX];simp only[zu6,evN,zcI] at hK
      gi_wp2_with fail
      have hB:=zk5 (Below.refl W.heap.size W) (.cells #[.string ⟨p.t.toArray⟩,.int .u32 (zby p.t:Nat),.int .i64 (p.at0:Nat),.int .i64 (p.next:Nat),.int .i64 (p.room:Nat)] 136);exact hK _ _ (zb9 hB) (KeepY.of hB) (hi.iter HGG.out (IterW.of hB)) ⟨W.heap.size,zae _ _ _ rfl,rfl⟩
  case body =>
    rintro y pre x a' W hi ⟨pb,hpb,rfl⟩ hlt hlen;obtain⟨v,ps,hpre,hbox,hrow⟩:=hi.st;obtain⟨vq,vc,rfl⟩:=zaB hrow
    have hlp:ps.length≤1000000:=by
      have:=congrArg List.length hpre;rw[List.length_map] at this;omega
    have k0:=(zaa hbox 0).trans rfl;have f0:=zac hbox 0;have k3:=(zaa hi.er 0).trans rfl;have f3:=zac hi.er 0;have HI:=Lib.hid hi;have HBOX:=Lib.hid hbox;have HROW:=Lib.hid hrow;have HPRE:=Lib.hid hpre;have HER:=Lib.hid hi.er;have hds:1≤D-1-1:=by omega
    clear hi hbox hrow hpre hlen hev hW0 hW1 hW2 hBW hA hLs;cases x with
    | none =>
      simp only[evN,zu6];clear hpb
      gi_wp2_with fail
      have hb1:Below g w ((W.setCell ⟨g,0,none⟩ (.slice none 0 0)).setCell ⟨g+1,0,none⟩ (.int .i64 7)):=(HI.out.bel.setCell (p:=⟨g,0,none⟩) (Nat.le_refl _) _).setCell (p:=⟨g+1,0,none⟩) (by show g≤g+1;omega) _
      refine⟨((KeepsOthers.setCell W _ _).trans (KeepsOthers.setCell _ _ _)).from _,⟨hb1,⟨rfl,ps,by rw[HPRE.out]⟩,?_,?_⟩⟩
      · exact (Below.heap_setCell _ _ _ _ (by show g≠g+1;omega)).trans (zaf HBOX.out 0 _)
      · exact zaf ((Below.heap_setCell _ _ _ _ (by show g+1≠g;omega)).trans HER.out) 0 _
    | some p =>
      have c0:=zaa hpb 0;have c1:=zaa hpb 1;have c2:=zaa hpb 2;have c3:=zaa hpb 3;have c4:=zaa hpb 4;have xpb:=zab hpb;simp only[evN,zu6,zcI] at c0 c1 c2 c3 c4 ⊢;clear hpb
      gi_wp2_with
        (gi_at_builtin
         refine zc3 zp7 rfl _ _ rfl (g+2) _ ps.length (zaD ps) rfl (HROW.out.alloc _) ⟨W.heap.size,0,none⟩ 1 1 (zcI p) rfl rfl (fun j u hu=>by rw[show (⟨W.heap.size,0,none⟩:Addr).add j=⟨W.heap.size,j,none⟩ by simp[Addr.add];intro h;exact h.symm];rw[zaa (zae _ _ _ rfl) j];simpa [zcI] using hu) (by intro u hu;simp[zcI] at hu;rcases hu with rfl | rfl | rfl | rfl | rfl <;> rfl) (by omega) (by omega) (by have:=HI.out.bel.size;simp;omega) ?_
         intro q2 c2 w2 hown2 hg2;have hB:=zk5 (Below.refl W.heap.size W) (.cells #[.string ⟨p.t.toArray⟩,.int .u32 (zby p.t:Nat),.int .i64 (p.at0:Nat),.int .i64 (p.next:Nat),.int .i64 (p.room:Nat)] 136);have hg3:(W.alloc (.cells #[.string ⟨p.t.toArray⟩,.int .u32 (zby p.t:Nat),.int .i64 (p.at0:Nat),.int .i64 (p.next:Nat),.int .i64 (p.room:Nat)] 136)).grownBy w2 (Value.slice vq ps.length vc).ownBlock:=hg2;have hgeb:∀ r,(Value.slice vq ps.length vc).ownBlock=some r→g+2≤r:=fun r e=>zaF HROW.out e;have hw2:=(hg3.block g (by simp;have:=zab HBOX.out;omega) (fun e=>by have:=hgeb g e.symm;omega)).trans (zah (.cells #[.string ⟨p.t.toArray⟩,.int .u32 (zby p.t:Nat),.int .i64 (p.at0:Nat),.int .i64 (p.next:Nat),.int .i64 (p.room:Nat)] 136) HBOX.out)
         have he2:=(hg3.block (g+1) (by simp;have:=zab HER.out;omega) (fun e=>by have:=hgeb (g+1) e.symm;omega)).trans (zah (.cells #[.string ⟨p.t.toArray⟩,.int .u32 (zby p.t:Nat),.int .i64 (p.at0:Nat),.int .i64 (p.next:Nat),.int .i64 (p.room:Nat)] 136) HER.out)
         have kw2:=(zaa hw2 0).trans rfl;have fw2:=zac hw2 0;have HW2:=Lib.hid hw2;have HE2:=Lib.hid he2;have HKF:Hid (KeepsFrom W0.heap.size W w2):=(zb9 hB).trans (zd0 (HROW.out.alloc _) hg3);have HKY:Hid (KeepY zhe W w2):=(KeepY.of hB).grown (HROW.out.alloc _) (by decide) hg3
         have HB2:Hid (Below g w w2):=(HI.out.bel.trans (hB.mono (by have:=HI.out.bel.size;have:=HGG.out;omega))).grown hg3 (by have:=HI.out.bel.size;have:=HGG.out;simp;omega) (fun r e=>by have:=hgeb r e;omega)
         have HOWN:=Lib.hid hown2;clear hown2 hg2 hg3 hB hgeb hw2 he2)
      refine⟨HKF.out.trans ((KeepsOthers.setCell w2 _ _).from _),HKY.out.set (q:=⟨g,0,none⟩) HW2.out (by decide) _,?_⟩
      refine⟨HB2.out.setCell (p:=⟨g,0,none⟩) (Nat.le_refl _) _,⟨_,ps++[p],by rw[HPRE.out];simp,zaf HW2.out 0 _,?_⟩,(Below.heap_setCell _ _ _ _ (by show g+1≠g;omega)).trans HE2.out⟩
      rw[List.length_append,zio];exact zau HOWN.out ((Only.refl g w2).set 0 _) (by omega)
  case done =>
    rintro E xs W hE rfl hi hd;obtain⟨v,ps,hpre,hbox,hrow⟩:=hi.st;obtain⟨vq,vc,hvv⟩:=zaB hrow;subst hvv;obtain⟨hgood,hps⟩:=zsG L 0 ps hpre;have HRA:Hid (zc5 L=ps∧ziF L=0):=⟨by unfold zc5;rw[if_pos hgood,hps],by unfold ziF;rw[if_pos hgood]⟩
    have k0:=(zaa hbox 0).trans rfl;have f0:=zac hbox 0;have k3:=(zaa hi.er 0).trans rfl;have f3:=zac hi.er 0;have HI:=Lib.hid hi;have HBOX:=Lib.hid hbox;have HROW:=Lib.hid hrow;have HER:=Lib.hid hi.er;have hne:E≠g:=by omega
    have hne1:E≠g+1:=by omega
    have HGE:Hid (w.heap.size≤E):=by show _≤_;have:=HGG.out;omega
    clear hi hbox hrow hpre hgood hps hW0 hW1 hW2 hBW hA hLs hWs hE hev
    gi_wp2_with fail
    have hd2:((W.setCell ⟨g,0,none⟩ (.slice vq ps.length vc)).setCell ⟨g+1,0,none⟩ (.int .i64 0)).heap[E]?=some (.deferred (some [])):=(Below.heap_setCell _ _ _ _ hne1).trans ((Below.heap_setCell _ _ _ _ hne).trans hd);have hb2:((W.setCell ⟨g,0,none⟩ (.slice vq ps.length vc)).setCell ⟨g+1,0,none⟩ (.int .i64 0)).heap[g]?=some (Obj.cells #[.slice vq ps.length vc] 129 (0,0)):=(Below.heap_setCell _ _ _ _ (by show g≠g+1;omega)).trans (zaf HBOX.out 0 _)
    have he2:((W.setCell ⟨g,0,none⟩ (.slice vq ps.length vc)).setCell ⟨g+1,0,none⟩ (.int .i64 0)).heap[g+1]?=some (Obj.cells #[.int .i64 0] 25 (0,0)):=zaf ((Below.heap_setCell _ _ _ _ (by show g+1≠g;omega)).trans HER.out) 0 _
    have hr2:=zau HROW.out (((Only.refl g W).set 0 (.slice vq ps.length vc))) (by omega:g<g+2)
    have hr3:=zau hr2 (((Only.refl (g+1) (W.setCell ⟨g,0,none⟩ (.slice vq ps.length vc))).set 0 (.int .i64 0))) (by omega:g+1<g+2)
    have hB2:=(HI.out.bel.setCell (p:=⟨g,0,none⟩) (Nat.le_refl _) (.slice vq ps.length vc)).setCell (p:=⟨g+1,0,none⟩) (by show g≤g+1;omega) (.int .i64 0)
    refine⟨by simp,.inl ⟨_,_,rfl,run_takeDeferred hd2,?_⟩⟩
    have hb3:=(World.putObj_heap_other (o:=.deferred none) (fun e=>hne e.symm)).trans hb2;have he3:=(World.putObj_heap_other (o:=.deferred none) (fun e=>hne1 e.symm)).trans he2;refine⟨_,zbP rfl _ _ _ ⟨g,0,none⟩ ⟨g+1,0,none⟩ _ _ rfl rfl (zfb _ _ _ ((zaa hb3 0).trans rfl)) (zaZ _ _ _ ((zaa he3 0).trans rfl)),_,by rw[HRA.out.2];rfl,?_,?_⟩
    · rw[HRA.out.1,←HGG.out]
      exact zc7 hr3 (grownBy_putObj' _ E _) (fun r e=>by cases e;exact⟨_,hd2,rfl⟩)
    · rw[←HGG.out]
      exact hB2.trans (belowK_b (w:=w) (by have:=HGG.out;omega) _ E _ _ HGE.out hd2 rfl rfl)
  case stop =>
    rintro E c pre W hE ⟨rest,hrest⟩ hx hd;obtain⟨hc,ps,hps⟩:=hx.out;subst hc;have hbad:=zsi L 0 ps rest (by rw[←hps];exact hrest)
    have HRA:Hid (zc5 L=[]∧ziF L=7):=⟨by unfold zc5;rw[hbad];rfl,by unfold ziF;rw[hbad];rfl⟩
    have HX:=Lib.hid hx;have hne:E≠g:=by omega
    have hne1:E≠g+1:=by omega
    have HGE:Hid (w.heap.size≤E):=by show _≤_;have:=HGG.out;omega
    clear hx hps hbad hrest hW0 hW1 hW2 hBW hA hLs hWs hE hev
    gi_wp2_with fail
    refine⟨by simp,.inl ⟨_,_,rfl,run_takeDeferred hd,?_⟩⟩
    have hb3:=(World.putObj_heap_other (o:=.deferred none) (fun e=>hne e.symm)).trans HX.out.res;have he3:=(World.putObj_heap_other (o:=.deferred none) (fun e=>hne1 e.symm)).trans HX.out.er;refine⟨_,zbP rfl _ _ _ ⟨g,0,none⟩ ⟨g+1,0,none⟩ _ _ rfl rfl (zfb _ _ _ ((zaa hb3 0).trans rfl)) (zaZ _ _ _ ((zaa he3 0).trans rfl)),_,by rw[HRA.out.2];rfl,?_,?_⟩
    · rw[HRA.out.1]
      exact World.ownsRow_nil _ _ _ _
    · rw[←HGG.out]
      exact HX.out.bel.trans (belowK_b (w:=w) (by have:=HGG.out;omega) _ E _ _ HGE.out hd rfl rfl)
end Go.Proofs.YtoejfkeofbdalaaGreatDoor
