import Derived.Test.YtoejfkeofbdalaaGreatDoorM29
set_option linter.unusedVariables false
set_option maxRecDepth 100000
set_option maxHeartbeats 8000000
namespace Go.Proofs.YtoejfkeofbdalaaGreatDoor
open Go.RowKit
def WrAt (w:World) (wb:Nat) (ls:List (List Bool)):Prop:=∃ v,w.heap[wb]?=some (.cells #[v] 118 (0,0))∧w.ownsRow (wb+1) 50 2 v ls.length (zam (ls.map zaC))
structure KeptW (wb:Nat) (w w':World):Prop where
  bel:Below wb w w'
  size:w.heap.size≤w'.heap.size
  other:∀ (k:Nat) (cs:Array Value) (t:TypeId),t≠118→t≠50→w.heap[k]?=some (Obj.cells cs t (0,0))→w'.heap[k]?=some (Obj.cells cs t (0,0))
theorem KeptW.of {wb:Nat} {w w':World} (h:Below w.heap.size w w') (hb:wb≤w.heap.size):KeptW wb w w':=⟨h.mono hb,h.size,fun k cs t _ _ hk=>(h.block k (zab hk)).trans hk⟩
theorem KeptW.trans {wb:Nat} {a b c:World} (h:KeptW wb a b) (g:KeptW wb b c):KeptW wb a c:=⟨h.bel.trans g.bel,Nat.le_trans h.size g.size,fun k cs t h1 h2 hk=>g.other k cs t h1 h2 (h.other k cs t h1 h2 hk)⟩
theorem KeptW.own {wb base e size n:Nat} {w w':World} {v:Value} {xs:List Value} (h:KeptW wb w w') (ho:w.ownsRow base e size v n xs) (h1:e≠118) (h2:e≠50):w'.ownsRow base e size v n xs:=by
  refine⟨ho.1,?_⟩;rcases ho.2 with h0 | ⟨g,cap,cur,e1,e2,e3,e4⟩
  · exact .inl h0
  · exact .inr ⟨g,cap,cur,e1,e2,h.other g _ _ h1 h2 e3,e4⟩
theorem KeptW.sl {wb base:Nat} {w w':World} {v:Value} {L:List SV} (h:KeptW wb w w') (ho:SlOwn w base v L):SlOwn w' base v L:=⟨h.own ho.own (by decide) (by decide),fun p hp=>h.own (ho.has p hp) (by decide) (by decide)⟩
theorem ze8:ElemT 106 50 (.agg #[.string ⟨#[]⟩,.int .i64 0]) 2 24:=⟨Tryz.underlying106,zk7,rfl,by decide⟩
theorem zdS {w:World} {base n:Nat} {v:Value} {xs:List Value} (h:w.ownsRow base 50 2 v n xs) {k:Nat} (hk:v.ownBlock=some k):base≤k:=zaF h hk
theorem zka {w w1 w2:World} {wb:Nat} {v v':Value} {l:List Bool} {ls:List (List Bool)} (hw:w.heap[wb]?=some (.cells #[v] 118 (0,0))) (ho:w.ownsRow (wb+1) 50 2 v ls.length (zam (ls.map zaC)))
    (hB:Below w.heap.size w w1) (hg:w1.grownBy w2 v.ownBlock) (h2:w2.ownsRow (wb+1) 50 2 v' (ls.length+1) (zam (ls.map zaC)++[.string (txt l),.int .i64 (l.length:Nat)])) :
    WrAt (w2.setCell ⟨wb,0,none⟩ v') wb (ls++[l])∧KeptW wb w (w2.setCell ⟨wb,0,none⟩ v'):=by
  have hwl:=zab hw;have hge:∀ k,v.ownBlock=some k→wb+1≤k:=fun k hk=>zdS ho hk;have hz:=hB.size;have hw1:w1.heap[wb]?=some (.cells #[v] 118 (0,0)):=(hB.block wb hwl).trans hw;have hw2:w2.heap[wb]?=some (.cells #[v] 118 (0,0)):=(hg.block wb (by omega) (fun e=>by have:=hge wb e.symm;omega)).trans hw1
  refine⟨⟨v',?_,?_⟩,?_,?_,?_⟩
  · have:=zaf hw2 0 v'
    simpa using this
  · have e1:(ls++[l]).length=ls.length+1:=by simp
    have e2:zam ((ls++[l]).map zaC)=zam (ls.map zaC)++[.string (txt l),.int .i64 (l.length:Nat)]:=by simp[zam,zaC]
    rw[e1,e2];refine⟨h2.1,?_⟩;rcases h2.2 with h0 | ⟨g,cap,cur,e1,e2,e3,e4⟩
    · exact .inl h0
    · exact .inr ⟨g,cap,cur,e1,e2,(Below.heap_setCell _ ⟨wb,0,none⟩ _ g (by show g≠wb;omega)).trans e3,e4⟩
  · exact (((hB.mono (Nat.le_of_lt hwl))).grown hg (by omega) (fun k hk=>by have:=hge k hk;omega)).setCell (p:=⟨wb,0,none⟩) (Nat.le_refl _) _
  · have:=hg.size
    simp only[World.setCell,Array.size_modify];omega
  · intro k cs t h1 h3 hk
    have hkl:=zab hk
    have hne:k≠wb:=fun e=>by
      subst e;rw[hw] at hk;injection hk with hk
      injection hk with _ hk
      exact h1 hk.symm
    rw[Below.heap_setCell _ ⟨wb,0,none⟩ _ k hne];rw[hg.block k (by omega) (fun e=>?_)]
    · exact (hB.block k hkl).trans hk
    · obtain⟨cur,hc⟩:=zaN ho e.symm
      rw[hk] at hc;injection hc with hc
      injection hc with _ hc
      exact h3 hc
theorem zgK (w:World) (wb:Nat) (ls:List (List Bool)) (l:List Bool) (er:Int) (hw:WrAt w wb ls) (hl:ls.length≤100000) :
    Calls Tryz.prog 59 #[.pointer (some ⟨wb,0,none⟩),.agg #[.string (txt l),.int .i64 (l.length:Nat)],.int .i64 er] w fun e w'=>e=.returned (.tuple #[])∧WrAt w' wb (ls++[l])∧KeptW wb w w':=by
  obtain⟨v,hwb,hrow⟩:=hw;obtain⟨q0,c0,rfl⟩:=zaB hrow;have HWB:=Lib.hid hwb;have HRW:=Lib.hid hrow;have hwl:=zab hwb;clear hwb hrow
  go_enter Tryz.func59,Tryz.ntmps59
  go_wp2_with fail
  obtain⟨bx,hbx⟩:∃ b,w.heap.size=b:=⟨_,rfl⟩;have hX0:(w.alloc (.cells #[.string (txt l),.int .i64 (l.length:Nat)] 50)).heap[bx]?=some (.cells #[.string (txt l),.int .i64 (l.length:Nat)] 50 (0,0)):=zae _ _ _ hbx.symm;have HW1:=Lib.hid (zah (.cells #[.string (txt l),.int .i64 (l.length:Nat)] 50) HWB.out);have HR1:=Lib.hid (HRW.out.alloc (.cells #[.string (txt l),.int .i64 (l.length:Nat)] 50));have HB1:Hid (Below w.heap.size w (w.alloc (.cells #[.string (txt l),.int .i64 (l.length:Nat)] 50))):=(Below.refl _ _).alloc (Nat.le_refl _) _;have hz1:(w.alloc (.cells #[.string (txt l),.int .i64 (l.length:Nat)] 50)).heap.size=bx+1:=by simp[hbx]
  generalize w.alloc (.cells #[.string (txt l),.int .i64 (l.length:Nat)] 50)=W1 at *
  have kx0:=(zaa hX0 0).trans rfl;have kx1:=(zaa hX0 1).trans rfl;have kw0:=(zaa HW1.out 0).trans rfl;rw[hbx] at hwl ⊢;have HBX:=Lib.hid hbx;clear hX0 hbx
  go_region_law
    (refine zca ze8 (by rfl) _ _ (by rfl) (wb+1) _ ls.length (zam (ls.map zaC)) (by rfl) (HR1.out.alloc _) (bx+2) 1 _ [.string (txt l),.int .i64 (l.length:Nat)] (by rfl) (Rd.mono (zap (zae _ _ _ hz1.symm) rfl (by rfl) (by simp[maxLen])) (by simp;omega)) (by intro c hc;simp at hc;rcases hc with rfl | rfl <;> rfl) (by omega) (by omega) (by simp;omega) ?_
     intro q2 c2 w2 hown2 hg2 hat2;have hw2:=(hg2.block wb (by simp;omega) (fun e=>by have:=zdS HR1.out e.symm;omega)).trans (zah _ HW1.out)
     have kw2:=(zaa hw2 0).trans rfl;have fw2:=zac hw2 0;have Hown2:=Lib.hid hown2;have Hg2:=Lib.hid hg2;clear hw2 hown2 hg2 hat2)
  all_goals
    obtain⟨h1,h2⟩:=zka HWB.out HRW.out (by first | exact zk5 HB1.out.drew _ | exact (zk5 HB1.out _).drew | exact zk5 HB1.out _) Hg2.out Hown2.out
    exact bodyPost_end (results_none rfl _ _ _) rfl ⟨rfl,h1,h2⟩
theorem zcx (w:World) (wb:Nat) (ls:List (List Bool)) (v k:Nat) (l:List Bool) (hw:WrAt w wb ls) (hl:ls.length≤100000) (hv:v<18446744073709551616) (hk:k≤64) (hlv:B.low v k=l) :
    Calls Tryz.prog 58 #[.pointer (some ⟨wb,0,none⟩),.int .u64 (v:Nat),.int .i64 (k:Nat)] w fun e w'=>e=.returned (.tuple #[])∧WrAt w' wb (ls++[l])∧KeptW wb w w':=by
  obtain⟨v0,hwb,hrow⟩:=hw;obtain⟨q0,c0,rfl⟩:=zaB hrow;have CP:=Lib.hid fun W=>zg5 W v k l hlv hv hk;have HWB0:=Lib.hid hwb;have HRW0:=Lib.hid hrow;have hwl0:=zab hwb;clear hwb hrow
  go_enter Tryz.func58,Tryz.ntmps58
  go_wp2_with fail
  refine (CP.out _).mono ?_;rintro e w1 ⟨rfl,hBp⟩;have HKP:=Lib.hid (KeptW.of (wb:=wb) hBp (Nat.le_of_lt hwl0));have HWB:=Lib.hid ((hBp.block wb hwl0).trans HWB0.out);have HRW:=Lib.hid (zag HRW0.out hBp);have hwl:=zab HWB.out;clear hBp CP HWB0 HRW0 hwl0
  go_wp2_with fail
  obtain⟨bx,hbx⟩:∃ b,w1.heap.size=b:=⟨_,rfl⟩;have hX0:(w1.alloc (.cells #[.string (txt l),.int .i64 (l.length:Nat)] 50)).heap[bx]?=some (.cells #[.string (txt l),.int .i64 (l.length:Nat)] 50 (0,0)):=zae _ _ _ hbx.symm;have HW1:=Lib.hid (zah (.cells #[.string (txt l),.int .i64 (l.length:Nat)] 50) HWB.out);have HR1:=Lib.hid (HRW.out.alloc (.cells #[.string (txt l),.int .i64 (l.length:Nat)] 50));have HB1:Hid (Below w1.heap.size w1 (w1.alloc (.cells #[.string (txt l),.int .i64 (l.length:Nat)] 50))):=(Below.refl _ _).alloc (Nat.le_refl _) _;have hz1:(w1.alloc (.cells #[.string (txt l),.int .i64 (l.length:Nat)] 50)).heap.size=bx+1:=by simp[hbx]
  generalize w1.alloc (.cells #[.string (txt l),.int .i64 (l.length:Nat)] 50)=W1 at *
  have kx0:=(zaa hX0 0).trans rfl;have kx1:=(zaa hX0 1).trans rfl;have kw0:=(zaa HW1.out 0).trans rfl;rw[hbx] at hwl ⊢;have HBX:=Lib.hid hbx;clear hX0 hbx
  go_region_law
    (refine zca ze8 (by rfl) _ _ (by rfl) (wb+1) _ ls.length (zam (ls.map zaC)) (by rfl) (HR1.out.alloc _) (bx+2) 1 _ [.string (txt l),.int .i64 (l.length:Nat)] (by rfl) (Rd.mono (zap (zae _ _ _ hz1.symm) rfl (by rfl) (by simp[maxLen])) (by simp;omega)) (by intro c hc;simp at hc;rcases hc with rfl | rfl <;> rfl) (by omega) (by omega) (by simp;omega) ?_
     intro q2 c2 w2 hown2 hg2 hat2;have hw2:=(hg2.block wb (by simp;omega) (fun e=>by have:=zdS HR1.out e.symm;omega)).trans (zah _ HW1.out)
     have kw2:=(zaa hw2 0).trans rfl;have fw2:=zac hw2 0;have Hown2:=Lib.hid hown2;have Hg2:=Lib.hid hg2;clear hw2 hown2 hg2 hat2)
  all_goals
    obtain⟨h1,h2⟩:=zka HWB.out HRW.out (by first | exact zk5 HB1.out.drew _ | exact (zk5 HB1.out _).drew | exact zk5 HB1.out _) Hg2.out Hown2.out
    exact bodyPost_end (results_none rfl _ _ _) rfl ⟨rfl,h1,HKP.out.trans h2⟩
theorem zkv (room:Int) (w:World):Calls Tryz.prog 52 #[.int .i64 room] w fun e w'=>e=.returned (.bool (decide (1≤room) && decide (room≤360)))∧w=w':=by
  go_enter Tryz.func52,Tryz.ntmps52
  by_cases h1:1≤room
  · have d1:decide (1≤room)=true:=decide_eq_true h1
    go_wp2_with fail
    go_ret
    exact⟨by first | rfl | (rw[d1];rfl),rfl⟩
  · have d1:decide (1≤room)=false:=decide_eq_false h1
    go_wp2_with fail
    go_ret
    exact⟨by first | rfl | (rw[d1];rfl),rfl⟩
end Go.Proofs.YtoejfkeofbdalaaGreatDoor
namespace Go.Proofs.YtoejfkeofbdalaaGreatDoor
open Go.RowKit Go.Shelf
attribute [local go_sem] Oper.semAt_some
def ze0 (pre:List (List UInt8)):Nat:=(pre.map List.length).sum
theorem ziM (pre:List (List UInt8)) (x:List UInt8):ze0 (pre++[x])=ze0 pre+x.length:=by simp[ze0]
def zog (room:Int) (pre:List (List UInt8)):Prop:=∀ rest,zdh (pre++rest) room=ze0 pre+zdh rest (room-zfu pre)
theorem zq1 (room:Int):zog room []:=fun rest=>by simp[ze0,zfu]
theorem zoa {room:Int} {pre:List (List UInt8)} (h:zog room pre) (x:List UInt8) (hx:(zba x.length:Int)≤room-zfu pre):zog room (pre++[x]):=fun rest=>by
  rw[List.append_assoc,List.singleton_append,h,zdh,if_pos hx,ziM,zhv,Nat.add_assoc,show room-(zfu pre:Int)-(zba x.length:Int)=room-((zfu pre+zba x.length:Nat):Int) by omega]
theorem zoT {room:Int} {pre:List (List UInt8)} (h:zog room pre) (x:List UInt8) (hx:¬ (zba x.length:Int)≤room-zfu pre):∀ rest,zdh ((pre++[x])++rest) room=ze0 pre+min (min (room-zfu pre).toNat 3) x.length:=fun rest=>by
  rw[List.append_assoc,List.singleton_append,h,zdh,if_neg hx]
theorem zpK {room:Int} {pre:List (List UInt8)} (h:zog room pre):zdh pre room=ze0 pre:=by
  have:=h [];rw[List.append_nil] at this;rw[this];rfl
theorem znx:∀ pre:List (List UInt8),(∀ x∈pre,x.length≤255)→ze0 pre≤255*pre.length
  | [],_=>Nat.le_refl _
  | p::pre,h=>by
    have h1:=znx pre fun x hx=>h x (List.mem_cons_of_mem _ hx);have h2:=h p List.mem_cons_self;unfold ze0 at h1 ⊢;rw[List.map_cons,List.sum_cons,List.length_cons];omega
theorem zsT (s:ByteArray) (room:Int) (w:World) (hs:s.size≤1000000) (hr0:-1000000000000≤room) (hr1:room≤1000000000000) :
    Calls Tryz.prog 102 #[.string s,.int .i64 room] w fun e w'=>e=.returned (.int .i64 (zh1 s.data.toList room:Nat))∧Below w.heap.size w w':=by
  have CP:=Lib.hid (fun W=>zfR s W);obtain⟨D,hD⟩:∃ D:Nat,8≤D:=⟨8,by omega⟩
  have h1D:1≤D:=by omega
  refine (callsIn_wide (n:=D)).1 ?_;refine callsIn_of_wp_marks Tryz.func102 rfl trivial ?_ rfl;simp only[Tryz.ntmps102,List.size_toArray,List.length_cons,List.length_nil,Nat.reduceAdd,Nat.reduceSub,Array.replicate_succ,Array.replicate_zero,List.push_toArray,List.append_toArray,List.nil_append,List.cons_append]
  gi_wp2_with fail
  refine⟨trivial,(callsIn_wide.2 (CP.out _)).mono ?_⟩;rintro e w1 ⟨rfl,rfl⟩
  gi_wp2_with fail
  obtain⟨g,hg⟩:∃ g,w.heap.size=g:=⟨_,rfl⟩;have hW0:(((w.alloc (.cells #[.int .i64 room] 3)).alloc (.cells #[.int .i64 0] 3)).alloc (.cells #[.string s] 9)).heap[g]?=some (.cells #[.int .i64 room] 3 (0,0)):=zah _ (zah _ (zae _ _ _ hg.symm));have hW1:(((w.alloc (.cells #[.int .i64 room] 3)).alloc (.cells #[.int .i64 0] 3)).alloc (.cells #[.string s] 9)).heap[g+1]?=some (.cells #[.int .i64 0] 3 (0,0)):=zah _ (zae _ _ _ (by simp[hg]))
  have hW2:(((w.alloc (.cells #[.int .i64 room] 3)).alloc (.cells #[.int .i64 0] 3)).alloc (.cells #[.string s] 9)).heap[g+1+1]?=some (.cells #[.string s] 9 (0,0)):=zae _ _ _ (by simp[hg])
  have hWs:(((w.alloc (.cells #[.int .i64 room] 3)).alloc (.cells #[.int .i64 0] 3)).alloc (.cells #[.string s] 9)).heap.size=g+3:=by simp[hg]
  have hBW:Below g w (((w.alloc (.cells #[.int .i64 room] 3)).alloc (.cells #[.int .i64 0] 3)).alloc (.cells #[.string s] 9)):=by
    rw[←hg];exact (((Below.refl _ w).alloc (Nat.le_refl _) _).alloc (by simp) _).alloc (by simp;omega) _
  rw[hg];generalize (((w.alloc (.cells #[.int .i64 room] 3)).alloc (.cells #[.int .i64 0] 3)).alloc (.cells #[.string s] 9))=W0 at *
  refine zfn (n:=D) (ib:=g+1+1) h1D (gf:=164) (lb:=#[.pointer (some ⟨g+1+1,0,none⟩)]) rfl zdm (encs:=pcE) (fun _=>rfl) zrP (fun k=>k=g∨k=g+1)
    (zf4 (D-1) (by omega) (g+1+1) s hs (fun k=>k=g∨k=g+1) W0 hW2 (by show ¬ (g+1+1=g∨g+1+1=g+1);omega)) (Below.refl _ _) (by omega)
    (fun pre W=>((Boxed W g 3 (.int .i64 (room-zfu pre))∧Boxed W (g+1) 3 (.int .i64 (ze0 pre:Nat)))∧(zog room pre∧∀ x∈pre,x.length≤255))∧Below g w W)
    (fun c pre W=>(Boxed W (g+1) 3 (.int .i64 (zdh pre room:Nat))∧(c=.ret∧∀ rest,zdh (pre++rest) room=zdh pre room))∧Below g w W)
    (OwnFrom.and (OwnFrom.and (OwnFrom.and (Own.from (boxed_own _ _ (fun pre:List (List UInt8)=>.int .i64 (room-zfu pre))) _) (Own.from (boxed_own _ _ (fun pre:List (List UInt8)=>.int .i64 (ze0 pre:Nat))) _)) (ownFrom_pure _ _)) (ownFrom_below (by omega) (by omega)))
    (fun pre A u ⟨⟨⟨h0,h1⟩,h2⟩,h3⟩=>⟨⟨⟨(Below.heap_setCell _ _ _ _ (by show g≠g+1+1;omega)).trans h0,(Below.heap_setCell _ _ _ _ (by show g+1≠g+1+1;omega)).trans h1⟩,h2⟩,h3.setCell (p:=⟨g+1+1,0,none⟩) (by show g≤g+1+1;omega) u⟩)
    (fun c=>OwnFrom.and (OwnFrom.and (Own.from (boxed_own _ _ (fun pre:List (List UInt8)=>.int .i64 (zdh pre room:Nat))) _) (ownFrom_pure _ _)) (ownFrom_below (by omega) (by omega)))
    ⟨⟨⟨by rw[show room-((zfu []:Nat):Int)=room by simp[zfu]];exact hW0,hW1⟩,zq1 room,fun x hx=>absurd hx List.not_mem_nil⟩,hBW⟩
    (fun x a' W=>zrP x W∧a' = { tmps:=#[.string s,.int .i64 room,undef,.pointer (some ⟨g,0,none⟩),.pointer (some ⟨g+1,0,none⟩),.string ⟨x.toArray⟩,undef,.string s,.func (.func 164) #[] #[.pointer (some ⟨g+1+1,0,none⟩)],.string ⟨x.toArray⟩,undef,undef,undef,undef,undef,undef,undef,undef,undef,undef,undef,undef,undef,undef,undef,undef,undef,undef,undef,undef,undef],defers:=[] })
    (fun x a' s W W' row h hgr hr=>h)
    ?assign ?body ?done ?stop
  case assign =>
    intro y pre x W K hi hok hlt hK;simp only[pcE]
    gi_wp2_with fail
    exact hK _ _ (KeepsFrom.refl _ _) (KeepC.refl _ _) hi ⟨hok,rfl⟩
  case body =>
    rintro y pre x a' W ⟨⟨⟨hb0,hb1⟩,hRo,h255⟩,hB⟩ ⟨hok,rfl⟩ hlt hlen;have hpc:=zcL s.data.toList;have hsl:s.data.toList.length=s.size:=by simp
    have hle:=zjx pre;have hle2:=znx pre h255;have hxl:(⟨x.toArray⟩:ByteArray).size=x.length:=rfl;have hx2:=hok.2;have hl5:zba x.length≤5:=by unfold zba;split <;> omega
    have hsn:=zhv pre x;have hsn2:=ziM pre x;have h255':∀ z∈pre++[x],z.length≤255:=fun z hz=>(List.mem_append.1 hz).elim (h255 z) fun h=>by rw[List.mem_singleton.1 h];exact hx2
    have hst:=zoa hRo x;have hsp:=zoT hRo x;obtain⟨S,hS⟩:∃ S,zfu pre=S:=⟨_,rfl⟩;obtain⟨LS,hLS⟩:∃ LS,ze0 pre=LS:=⟨_,rfl⟩;obtain⟨T,hT⟩:∃ T,zba x.length=T:=⟨_,rfl⟩;obtain⟨L,hL⟩:∃ L,x.length=L:=⟨_,rfl⟩
    have hlow:Hid (∀ W1,Calls Tryz.prog 113 #[.int .i64 L] W1 fun e w'=>e=.returned (.int .i64 T)∧W1=w'):=fun W1=>by
      have:=zi4 L W1 (by omega)
      rw[←hL,hT,hL] at this;exact this
    rw[hT] at hst hsp hsn hl5;rw[hL] at hsp hxl hx2 hsn2;rw[hS] at hst hsp hb0 hle hsn;rw[hLS] at hsp hb1 hle2 hsn2;have HSN:=Lib.hid hsn;have HSN2:=Lib.hid hsn2;have HST:=Lib.hid hst;have HSP:=Lib.hid hsp;have H255:=Lib.hid h255';have HB0:=Lib.hid hb0;have HB1:=Lib.hid hb1;have HBB:=Lib.hid hB;have hS0:S≤5000000:=by omega
    have hLS0:LS≤255000000:=by omega
    have hc0:=hb0.cell;have hf0:=hb0.frozen;have hc1:=hb1.cell;have hf1:=hb1.frozen;obtain⟨R,hR⟩:∃ R,room-(S:Int)=R:=⟨_,rfl⟩;rw[hR] at hc0;have HR:=Lib.hid hR;have hRb:-1000005000000≤R∧R≤1000000000000:=by omega
    have hds:1≤D-1-1:=by omega
    clear hsn hsn2 hb0 hb1 hB hok hpc hsl hle hle2 hS hLS hT hL hlen hW0 hW1 hW2 hBW hst hsp h255 h255' hRo hR
    by_cases hfit:(T:Int)≤R
    · have hdec:decide ((T:Int)≤R)=true:=decide_eq_true hfit
      gi_wp2_with (refine⟨trivial,(CallsIn.inRound y (callsIn_wide.2 (hlow.out _))).mono ?_⟩;rintro e w' ⟨rfl,rfl⟩)
      have hn1:room-((zfu (pre++[x]):Nat):Int)=R-(T:Int):=by have h1:=HSN.out;have h2:=HR.out;omega
      have hn2:((ze0 (pre++[x]):Nat):Int)=(LS:Int)+(L:Int):=by have h1:=HSN2.out;omega
      refine⟨((KeepsOthers.setCell W _ _).trans (KeepsOthers.setCell _ _ _)).from _,((KeepC.refl _ _).set (q:=⟨g,0,none⟩) (.inl rfl) _).set (q:=⟨g+1,0,none⟩) (.inr rfl) _,⟨⟨?_,?_⟩,HST.out (by rw[HR.out];exact hfit),H255.out⟩,(HBB.out.setCell (p:=⟨g,0,none⟩) (Nat.le_refl g) _).setCell (p:=⟨g+1,0,none⟩) (by show g≤g+1;omega) _⟩
      · rw[hn1];exact (Below.heap_setCell _ _ _ _ (by show g≠g+1;omega)).trans (zaf HB0.out 0 _)
      · rw[hn2];exact zaf ((Below.heap_setCell _ _ _ _ (by show g+1≠g;omega)).trans HB1.out) 0 _
    · have hdec:decide ((T:Int)≤R)=false:=decide_eq_false hfit
      gi_wp2_with (refine⟨trivial,(CallsIn.inRound y (callsIn_wide.2 (hlow.out _))).mono ?_⟩;rintro e w' ⟨rfl,rfl⟩)
      all_goals
        have hsp:=HSP.out (by rw[HR.out];exact hfit)
        rw[HR.out] at hsp;have hcg:=hsp [];rw[List.append_nil] at hcg;refine⟨(KeepsOthers.setCell W _ _).from _,⟨?_,rfl,fun rest=>(hsp rest).trans hcg.symm⟩,HBB.out.setCell (p:=⟨g+1,0,none⟩) (by show g≤g+1;omega) _⟩
        first
          | (rw[show ((zdh (pre++[x]) room:Nat):Int)=(LS:Int)+(L:Int) by omega];exact zaf HB1.out 0 _)
          | (rw[show ((zdh (pre++[x]) room:Nat):Int)=(LS:Int)+3 by omega];exact zaf HB1.out 0 _)
          | (rw[show ((zdh (pre++[x]) room:Nat):Int)=(LS:Int)+R by omega];exact zaf HB1.out 0 _)
          | (rw[show ((zdh (pre++[x]) room:Nat):Int)=(LS:Int)+0 by omega];exact zaf HB1.out 0 _)
          | (rw[show ((zdh (pre++[x]) room:Nat):Int)=(LS:Int) by omega];exact zaf HB1.out 0 _)
  case done =>
    rintro E xs W hE rfl ⟨⟨⟨hb0,hb1⟩,hRo,h255⟩,hB⟩ hd;obtain⟨N,hN⟩:∃ N,ze0 (zaz s.data.toList)=N:=⟨_,rfl⟩;have HN:Hid (zh1 s.data.toList room=N):=(zpK hRo).trans hN;rw[hN] at hb1;have hcb:=hb1.cell;have hfb:=hb1.frozen;have HB:=Lib.hid hb1;have HBB:=Lib.hid hB;have hne:E≠g+1:=by omega
    have hgE:w.heap.size≤E:=by omega
    clear hW0 hW1 hW2 hWs hBW hb1 hB hb0 hN hRo h255
    gi_wp2_with fail
    have hd2:(W.setCell ⟨g+1,0,none⟩ (.int .i64 ((N:Nat):Int))).heap[E]?=some (.deferred (some [])):=(Below.heap_setCell _ _ _ _ hne).trans hd;have hs2:(W.setCell ⟨g+1,0,none⟩ (.int .i64 ((N:Nat):Int))).heap[g+1]?=some (.cells #[.int .i64 ((N:Nat):Int)] 3 (0,0)):=zaf HB.out 0 _;have hB2:=HBB.out.setCell (p:=⟨g+1,0,none⟩) (by show g≤g+1;omega) (.int .i64 ((N:Nat):Int))
    refine⟨by simp,.inl ⟨_,_,rfl,run_takeDeferred hd2,?_⟩⟩
    have hs3:((W.setCell ⟨g+1,0,none⟩ (.int .i64 ((N:Nat):Int))).putObj E (.deferred none)).heap[g+1]?=some (.cells #[.int .i64 ((N:Nat):Int)] 3 (0,0)):=(World.putObj_heap_other (fun e=>hne e.symm)).trans hs2;refine⟨_,zbH rfl _ _ _ _ _ rfl (zaV _ _ _ ((zaa hs3 0).trans rfl)),by rw[HN.out];rfl,?_⟩
    rw[hg];refine hB2.trans (belowK_b (w:=w) (Nat.le_of_eq hg.symm) _ E _ _ hgE hd2 rfl rfl)
  case stop =>
    rintro E c pre W hE hpre ⟨⟨hb1,rfl,hall⟩,hB⟩ hd;obtain⟨N,hN⟩:∃ N,zdh pre room=N:=⟨_,rfl⟩
    have HN:Hid (zh1 s.data.toList room=N):=by
      obtain⟨rest,hrest⟩:=hpre
      show zh1 _ _=N
      unfold zh1;rw[←hrest,hall,hN]
    rw[hN] at hb1;have hcb:=hb1.cell;have hfb:=hb1.frozen;have HB:=Lib.hid hb1;have HBB:=Lib.hid hB;have hne:E≠g+1:=by omega
    have hgE:w.heap.size≤E:=by omega
    clear hW0 hW1 hW2 hWs hBW hb1 hB hall hN hpre
    gi_wp2_with fail
    refine⟨by simp,.inl ⟨_,_,rfl,run_takeDeferred hd,?_⟩⟩
    have hs3:(W.putObj E (.deferred none)).heap[g+1]?=some (.cells #[.int .i64 ((N:Nat):Int)] 3 (0,0)):=(World.putObj_heap_other (fun e=>hne e.symm)).trans HB.out;refine⟨_,zbH rfl _ _ _ _ _ rfl (zaV _ _ _ ((zaa hs3 0).trans rfl)),by rw[HN.out];rfl,?_⟩
    rw[hg];refine HBB.out.trans (belowK_b (w:=w) (Nat.le_of_eq hg.symm) _ E _ _ hgE hd rfl rfl)
end Go.Proofs.YtoejfkeofbdalaaGreatDoor
