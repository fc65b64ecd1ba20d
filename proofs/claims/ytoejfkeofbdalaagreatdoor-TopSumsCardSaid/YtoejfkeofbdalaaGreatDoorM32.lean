import Derived.Test.YtoejfkeofbdalaaGreatDoorM19
import Derived.Test.YtoejfkeofbdalaaGreatDoorM17
set_option linter.unusedVariables false
set_option maxRecDepth 100000
set_option maxHeartbeats 8000000
namespace Go.Proofs.YtoejfkeofbdalaaGreatDoor
open Go.RowKit
def grN (m:List Nat) (i:Nat):List Nat:=(m.take (10*i+10)).drop (10*i)
theorem znI (m:List Nat) (i:Nat):grp (ints m) i=ints (grN m i):=by simp[grp,grN,ints,List.map_drop,List.map_take]
theorem zbR (m:List Nat) (i:Nat):(grN m i).length≤10:=by simp[grN];omega
theorem zje {m:List Nat} {i s:Nat} (h:s∈grN m i):s∈m:=List.mem_of_mem_take (List.mem_of_mem_drop h)
def zcz (m:List Nat) (which i:Nat):List Nat:=(List.range i).flatMap fun j=>if j % 2=which then grN m j else []
theorem ziI (m:List Nat) (which i:Nat):zcz m which (i+1)=zcz m which i++if i % 2=which then grN m i else []:=by
  unfold zcz;rw[List.range_succ,List.flatMap_append];simp
theorem zgj (m:List Nat) (which i:Nat):(zcz m which i).length≤10*i:=by
  induction i with
  | zero=>simp[zcz]
  | succ i ih =>
    rw[ziI,List.length_append];have:=zbR m i;split
    · omega
    · simp;omega
def zb4 (m:List Nat) (which i t:Nat):List Nat:=zcz m which i++if i % 2=which then (grN m i).take t else []
theorem ziE (m:List Nat) (which i:Nat):zb4 m which i 0=zcz m which i:=by simp[zb4]
theorem zk6 (m:List Nat) (which i:Nat):zb4 m which i (grN m i).length=zcz m which (i+1):=by rw[ziI,zb4,List.take_length]
theorem zgR (m:List Nat) (which i t:Nat) (h:i % 2≠which):zb4 m which i t=zcz m which i:=by simp[zb4,h]
theorem zlq (m:List Nat) (which i t s:Nat) (h:i % 2=which) (hs:(grN m i)[t]?=some s):zb4 m which i (t+1)=zb4 m which i t++[s]:=by
  unfold zb4;rw[if_pos h,if_pos h,List.take_add_one,hs,List.append_assoc];rfl
theorem zgl (m:List Nat) (which i t:Nat):(zb4 m which i t).length≤10*i+10:=by
  unfold zb4;rw[List.length_append];have h1:=zgj m which i;have h2:=zbR m i;split
  · rw[List.length_take];omega
  · simp;omega
def zd7 (n:Nat) (l:List Nat):List Nat:=zcE (List.replicate n 0) l
theorem zaE (n:Nat) (l:List Nat):(zd7 n l).length=n:=by rw[zd7,zdf,List.length_replicate]
theorem zgI (n:Nat) (l:List Nat) (s:Nat) (h:s<n):(zd7 n l)[s]?=some (l.count s):=by
  unfold zd7;rw[ziQ l _ s 0 (by simp[h]),Nat.zero_add]
theorem zkV (n:Nat) (l:List Nat) (s:Nat) (h:s<n):zd7 n (l++[s])=(zd7 n l).set s (l.count s+1):=by
  have:=zml (List.replicate n 0) (l++[s]) l.length s (by simp)
  rw[List.take_of_length_le (by simp)] at this
  rw[show (l++[s]).take l.length=l by simp] at this
  show zcE _ _=_
  rw[this]
  show (zd7 n l).set s ((zd7 n l)[s]?.getD 0+1)=_
  rw[zgI n l s h];rfl
theorem zt9 (n:Nat) (l:List Nat):∀ x∈zd7 n l,x≤l.length:=by
  intro x hx;obtain⟨i,hi,he⟩:=List.getElem_of_mem hx;rw[zaE] at hi;have:=zgI n l i hi;rw[List.getElem?_eq_getElem (by rw[zaE];exact hi),he] at this
  injection this with this
  rw[this];exact List.count_le_length
def za6 (m:List Nat) (n which:Nat):List Nat:=zpv (zd7 n (zcz m which (zbX m.length))) 20
theorem ziv (m:List Nat) (n which:Nat) (hm:m.length≤100000) (h2:2≤n) (h258:n≤258):Code (za6 m n which)∧(za6 m n which).length=n:=by
  unfold za6;have hl:=zaE n (zcz m which (zbX m.length));exact⟨zpE _ 20 (by omega) (by omega) (by omega) (by omega),by rw[zez _ 20 (by omega) (by omega) (by omega),hl]⟩
def zk0 (m:List Nat) (n i:Nat):Nat:=if zej (za6 m n 1) (grN m i)<zej (za6 m n 0) (grN m i) then 1 else 0
def zal (m:List Nat) (n:Nat):List Nat:=(List.range (zbX m.length)).map (zk0 m n)
structure SlTy (w:World) (base:Nat) (v:Value) (L:List SV):Prop where
  own:w.ownsRow base 67 1 v L.length (L.map (·.1))
  has:∀ p∈L,IsInts w w.heap.size p.1 p.2∧TypedInts w p.1
theorem SlTy.nil (w:World) (base:Nat):SlTy w base (.slice none 0 0) []:=⟨World.ownsRow_nil _ _ _ _,fun p hp=>by simp at hp⟩
theorem SlTy.is {w:World} {base:Nat} {v:Value} {L:List SV} (h:SlTy w base v L):IsSl w w.heap.size v L:=⟨Rd.own h.own,fun p hp=>(h.has p hp).1⟩
theorem SlTy.shape {w:World} {base:Nat} {v:Value} {L:List SV} (h:SlTy w base v L):∃ q c,v=.slice q L.length c:=zgS h.own
theorem SlTy.below {w w':World} {base:Nat} {v:Value} {L:List SV} (h:SlTy w base v L) (hB:Below w.heap.size w w'):SlTy w' base v L:=⟨zag h.own hB,fun p hp=>⟨zwb (h.has p hp).1 hB,(h.has p hp).2.below hB⟩⟩
theorem ziu {w w':World} {row:Option Nat} {x:Value} {xs:List Int} (h:IsInts w w.heap.size x xs) (ht:TypedInts w x) (hg:w.grownBy w' row) (hr:∀ r,row=some r→∃ cs,w.heap[r]?=some (.cells cs 67 (0,0))):IsInts w' w'.heap.size x xs∧TypedInts w' x:=by
  have key:∀ g o n c,x=.slice (some ⟨g,o,none⟩) n c→w'.heap[g]?=w.heap[g]?:=fun g o n c e=>by
    obtain⟨cs,hc⟩:=ht g o n c e;refine hg.block g (zab hc) fun e2=>?_;obtain⟨cs2,hc2⟩:=hr g e2.symm;rw[hc] at hc2;injection hc2 with hc2
    injection hc2 with _ hc2
    exact ztV hc2.symm
  refine⟨?_,fun g o n c e=>by obtain⟨cs,hc⟩:=ht g o n c e;exact⟨cs,(key g o n c e).trans hc⟩⟩
  obtain⟨h1,A,cap,hv,h2,h3,h4⟩:=h;refine⟨h1,A,cap,hv,h2,h3,fun hn=>?_⟩;obtain⟨g,o,hA,hgs,hc⟩:=h4 hn;refine⟨g,o,hA,Nat.lt_of_lt_of_le hgs hg.size,fun i u hu=>?_⟩;rw[World.cell?_of_block (w:=w) (key g o _ _ (by rw[hv,hA]))]
  exact hc i u hu
theorem zqg {w:World} {B:Nat} {v:Value} {xs:List Int} (h:IsInts w B v xs):v.oneCell'=true:=by
  obtain⟨q,c,rfl,_⟩:=h.shape;rfl
theorem zdt {w:World} {ops:Array Oper} {rest:List Oper} {o:Oper} {a:Act} {Q:Exit→Act→World→Prop} (hgd:o.guard=none) (s x:Operand)
    (ho:o.op=.call { callee:=.builtin .append,args:=#[s,x],argTypes:=#[113,113] })
    (base:Nat) (v:Value) (L:List SV) (hs:a.eval s=v) (hown:SlTy w base v L) (k:Nat) (p:SV) (hx:a.eval x=.slice (some ⟨k,0,none⟩) 1 1) (hk:w.heap[k]?=some (.cells #[p.1] 67 (0,0))) (hp:IsInts w w.heap.size p.1 p.2∧TypedInts w p.1)
    (hlen:L.length≤1000000) (hbase:base≤w.heap.size)
    (h:∀ q c w',SlTy w' base (.slice q (L.length+1) c) (L++[p])→w.grownBy w' v.ownBlock→wpList Tryz.prog ops Q rest (a.put o.dst (.slice q (L.length+1) c)) w') :
    wpList Tryz.prog ops Q (o::rest) a w:=by
  refine wpList_plain hgd fun K hK=>?_;obtain⟨i0,hi,hz0,hz1,hz2⟩:=info_parts zmD
  have hr:Rd w (k+1) 1 (.slice (some ⟨k,0,none⟩) 1 1) 1 [p.1]:=⟨rfl,_,1,rfl,Nat.le_refl _,by simp[maxLen],fun _=>⟨k,0,rfl,Nat.lt_succ_self _,fun i u hu=>by
    rw[Nat.zero_add,zaa hk,←hu];simp⟩⟩
  obtain⟨v',w',hrun,h2,h3,h4⟩:=zbN (P:=Tryz.prog) w base 113 o.type 67 i0 (.slice none 0 0) 1 24 Tryz.underlying113 hi hz0 hz1 hz2 rfl (by decide) v L.length (L.map (·.1)) hown.own (k+1) 1 _ [p.1] hr (fun u hu=>by simp at hu;subst hu;exact zqg hp.1) (by unfold maxLen;omega) (by omega) hbase
  have hrow:∀ r,v.ownBlock=some r→∃ cs,w.heap[r]?=some (.cells cs 67 (0,0)):=fun r e=>zaN hown.own e
  have h6:SlTy w' base v' (L++[p]):=⟨by rw[List.length_append,List.map_append];exact h2,fun t ht=>by
    rcases List.mem_append.1 ht with ht | ht
    · exact ziu (hown.has t ht).1 (hown.has t ht).2 h3 hrow
    · simp at ht
      subst ht;exact ziu hp.1 hp.2 h3 hrow⟩
  obtain⟨q,c,rfl⟩:=h6.shape;rw[List.length_append] at hrun h6;unfold Oper.wp execOp;simp only[ho,resolve,invoke,builtin,Sem.run_bind,Sem.run_pure,Result.andThen_ok,List.map_toArray,List.map_cons,List.map_nil,hs,hx,hrun];exact hK _ _ (h q c w' h6 h3)
theorem zeX {w w':World} {d base e size n:Nat} {v:Value} {xs:List Value} (h:w.ownsRow base e size v n xs) (ho:Only d w w') (hd:d<base):w'.ownsRow base e size v n xs:=by
  refine⟨h.1,?_⟩;rcases h.2 with h0 | ⟨g,cap,cur,e1,e2,e3,e4⟩
  · exact .inl h0
  · exact .inr ⟨g,cap,cur,e1,e2,ho.other e3 (by omega),e4⟩
theorem SlOwn.only {w w':World} {d base:Nat} {v:Value} {L:List SV} (h:SlOwn w base v L) (ho:Only d w w') (hd:d<base):SlOwn w' base v L:=⟨zeX h.own ho hd,fun p hp=>zeX (h.has p hp) ho hd⟩
theorem zef (w1:World) (X Y Z:Obj):(((w1.alloc X).alloc Y).alloc Z).drew.heap[w1.heap.size]?=some X∧(((w1.alloc X).alloc Y).alloc Z).drew.heap[w1.heap.size+1]?=some Y∧(((w1.alloc X).alloc Y).alloc Z).drew.heap[w1.heap.size+1+1]?=some Z :=
  ⟨zah (w:=(w1.alloc X).alloc Y) _ (zah _ (zae _ _ _ rfl)),zah (w:=(w1.alloc X).alloc Y) _ (zae _ _ _ (by simp)),zae ((w1.alloc X).alloc Y) _ _ (by simp)⟩
theorem zjW (a b:Value):(∀ W,(Instr.index 203 (.agg #[a,b]) (.int .i64 0)).run Tryz.prog W=.ok a W)∧(∀ W,(Instr.index 203 (.agg #[a,b]) (.int .i64 1)).run Tryz.prog W=.ok b W):=by
  have h2:∀ W,(sizeOf 67).run Tryz.prog W=.ok 1 W:=fun W=>by kernel_rfl
  constructor <;> intro W <;> simp[Instr.index,run_underlying Tryz.underlying203,asIntOf,h2,go_sem]
theorem zfc {w w':World} {d base g n cap:Nat} {xs:List Int} (h:OwnInts w base (.slice (some ⟨g,0,none⟩) n cap) xs) (ho:Only d w w') (hd:g≠d):OwnInts w' base (.slice (some ⟨g,0,none⟩) n cap) xs:=by
  refine⟨h.1,?_⟩;rcases h.2 with ⟨e,_⟩ | ⟨g',cap',cur,e1,e2,e3,e4⟩
  · cases e
  · injection e1 with e5 e6 e7
    injection e5 with e5
    injection e5 with e5
    subst e5;exact .inr ⟨g,cap',cur,by rw[e6,e7],e2,ho.other e3 hd,e4⟩
theorem zeI {W:World} {base g n:Nat} {cs:Array Value} {xs:List Int} (h:W.heap[g]?=some (.cells cs 3 (0,0))) (hcs:cs.toList=zaj xs) (hb:base≤g) (hn:xs.length=n) (hm:n≤maxLen):OwnInts W base (.slice (some ⟨g,0,none⟩) n n) xs:=by
  subst hn;have hl:cs.size=xs.length:=by rw[←Array.length_toList,hcs,zak]
  refine⟨by rw[zak];omega,.inr ⟨g,xs.length,cs,rfl,hb,h,Nat.le_refl _,hm,by omega,?_⟩⟩
  rw[hcs,List.take_of_length_le (by rw[zak];omega)]
set_option maxHeartbeats 12800000 in
theorem zp5 (w:World) (v:Value) (m:List Nat) (n:Nat) (hv:IsInts w w.heap.size v (ints m)) (hm0:0<m.length) (hm:m.length≤100000) (h2:2≤n) (h258:n≤258) (hs:∀ s∈m,s<n) :
    Calls Tryz.prog 56 #[v,.int .i64 (n:Nat)] w fun e w'=>∃ (va vb:Value) (q:Option Addr) (c:Nat) (q2:Option Addr) (c2:Nat),e=.returned (.tuple #[.slice q 2 c,.slice q2 (zbX m.length) c2,.int .i64 0]) ∧
      IsSl w' w'.heap.size (.slice q 2 c) [(va,ints (za6 m n 0)),(vb,ints (za6 m n 1))]∧IsInts w' w'.heap.size (.slice q2 (zbX m.length) c2) (ints (zal m n))∧Below w.heap.size w w':=by
  have hodd:(ints m).any (zrR (n:Nat))=false:=by
    rw[List.any_eq_false];intro x hx;simp only[ints,List.mem_map] at hx;obtain⟨s,hs',rfl⟩:=hx;have:=hs s hs';simp[zrR];omega
  have CO:Hid (∀ W,IsInts W W.heap.size v (ints m)→Calls Tryz.prog 118 #[v,.int .i64 (n:Nat)] W fun e w'=>e=.returned (.bool false)∧Below W.heap.size W w'):=fun W h=>by
    have:=zqV W v (ints m) (n:Nat) h (by rw[zad];omega)
    rw[hodd] at this;exact this
  have CG:Hid (∀ W,IsInts W W.heap.size v (ints m)→Calls Tryz.prog 61 #[v] W fun e w'=>∃ (L:List SV) (q:Option Addr) (c:Nat),e=.returned (.slice q L.length c)∧SlOwn w' W.heap.size (.slice q L.length c) L∧L.map (·.2)=zdK (ints m)∧Below W.heap.size W w'):=fun W h=>zi3 W v (ints m) h (by rw[zad];omega)
  obtain⟨A,ca,rfl,hc1,hc2⟩:=hv.shape;rw[zad] at hc1 CO CG hv ⊢;obtain⟨cz,hcz,hmk⟩:=za2 n (by omega)
  obtain⟨M,hM⟩:∃ M,m.length=M:=⟨_,rfl⟩;rw[hM] at hm0 hm hc1 CO CG hv ⊢;have HM:=Lib.hid hM;have HV:=Lib.hid hv;have HS:=Lib.hid hs;have HCZ:=Lib.hid hcz;have d1:decide ((n:Int)<2)=false:=decide_eq_false (by omega)
  have d2:decide (258<(n:Int))=false:=decide_eq_false (by omega)
  have d3:((M:Int) == 0)=false:=by rw[beq_eq_false_iff_ne];omega
  have d4:decide (1048576<(M:Int))=false:=decide_eq_false (by omega)
  clear hv hs hM hodd hcz
  go_enter Tryz.func56,Tryz.ntmps56
  go_wp2_with fail
  refine (CO.out _ HV.out).mono ?_;rintro e w1 ⟨rfl,hB1⟩;have HB1:=Lib.hid hB1;have HV1:=Lib.hid (zwb HV.out hB1);clear hB1 CO
  go_wp2_with fail
  have HCZo:cz.toList=zaj (ints (zd7 n [])):=by
    rw[HCZ.out];congr 1
    simp[zd7,zcE,ints]
  have HLo:(ints (zd7 n [])).length=n:=by rw[zad,zaE]
  have HCo:=Lib.hid HCZo;have HLo2:=Lib.hid HLo;clear HCZo HLo
  go_cut [7] (fun sb wx=>∃ b g0 g1:Nat,sb=.pointer (some ⟨b,0,none⟩)∧wx.heap[b]?=some (.cells #[.slice (some ⟨g0,0,none⟩) n n,.slice (some ⟨g1,0,none⟩) n n] 203 (0,0))∧g0≠g1∧b≠g0∧b≠g1∧OwnInts wx w1.heap.size (.slice (some ⟨g0,0,none⟩) n n) (ints (zd7 n []))∧OwnInts wx w1.heap.size (.slice (some ⟨g1,0,none⟩) n n) (ints (zd7 n []))∧Below w1.heap.size w1 wx)
  case first =>
    first | go_region_with (fail) | fail
    all_goals
      go_wp2_with fail
      go_meet
    all_goals have HCZo:=HCo.out
    all_goals have HLo:=HLo2.out
    all_goals
      first
        | refine⟨_,_,_,rfl,(zef _ _ _ _).1,?_,?_,?_,?_,?_,?_⟩
        | refine⟨_,_,_,rfl,(zef _ _ _ _).2.1,?_,?_,?_,?_,?_,?_⟩
        | refine⟨_,_,_,rfl,(zef _ _ _ _).2.2,?_,?_,?_,?_,?_,?_⟩
    all_goals first
      | omega
      | exact zeI (zef _ _ _ _).1 HCZo (by omega) HLo (by simp[maxLen];omega)
      | exact zeI (zef _ _ _ _).2.1 HCZo (by omega) HLo (by simp[maxLen];omega)
      | exact zeI (zef _ _ _ _).2.2 HCZo (by omega) HLo (by simp[maxLen];omega)
      | exact (((((Below.refl w1.heap.size w1).alloc (Nat.le_refl _) _).alloc (by simp) _).alloc (by simp;omega) _)).drew
  case rest =>
    obtain⟨b,g0,g1,rfl,hbx,hn1,hn2,hn3,ho0,ho1,hB2⟩:=hcut;have hb1s:=HB1.out.size;have HBc:=Lib.hid (HB1.out.trans (hB2.mono hb1s));have HV2:=Lib.hid (zwb HV1.out hB2);obtain⟨bs,hbs⟩:∃ bs,w1.heap.size=bs:=⟨_,rfl⟩;rw[hbs] at ho0 ho1 hb1s;have hg0:=(ho0.mine (by rw[zad,zaE]) (by omega)).2.2.2.2
    have hg1:=(ho1.mine (by rw[zad,zaE]) (by omega)).2.2.2.2
    have hgb:=zab hbx;have H0:=Lib.hid ho0;have H1:=Lib.hid ho1;have HBX:=Lib.hid hbx;clear ho0 ho1 hbx hB2 hbs HV HV1 HB1 HCo HLo2 HCZ hmk
    go_wp2_with fail
    refine (CG.out _ HV2.out).mono ?_;rintro e w3 ⟨L,q,c,rfl,hsl,hL,hB3⟩
    have hLl:L.length=zbX M:=by
      have:=congrArg List.length hL;rw[List.length_map] at this;rw[this];simp[zdK,zad,HM.out]
    have hLi:∀ i,i<zbX M→∃ vi,L[i]?=some (vi,ints (grN m i)):=fun i hi=>by
      have hx:L[i]?=some L[i]:=List.getElem?_eq_getElem (by omega)
      have h2:(L.map (·.2))[i]?=some (grp (ints m) i):=by
        rw[hL];unfold zdK;rw[zad,HM.out,List.getElem?_map,List.getElem?_range hi];rfl
      rw[List.getElem?_map,hx] at h2;injection h2 with h2
      exact⟨L[i].1,by rw[hx,←znI,←h2]⟩
    rw[hLl] at hsl ⊢;obtain⟨gb,hgbd⟩:∃ gb,wc.heap.size=gb:=⟨_,rfl⟩;rw[hgbd] at hsl hg0 hg1 hgb;have hG:zbX M≤10001:=by unfold zbX;omega
    have hGM:10*zbX M≤M+9:=by unfold zbX;omega
    obtain⟨G,hGe⟩:∃ G,zbX M=G:=⟨_,rfl⟩;rw[hGe] at hsl hLi hLl hG hGM ⊢;have HLI:=Lib.hid hLi;have HSL:=Lib.hid hsl;have H0':Hid (OwnInts w3 bs (.slice (some ⟨g0,0,none⟩) n n) (ints (zd7 n (zcz m 0 0)))):=H0.out.below hB3;have H1':Hid (OwnInts w3 bs (.slice (some ⟨g1,0,none⟩) n n) (ints (zd7 n (zcz m 1 0)))):=H1.out.below hB3;have HBX3:=Lib.hid (zwc hB3 HBX.out);have HB3:Hid (Below w.heap.size w w3):=HBc.out.trans (hB3.mono HBc.out.size);have HGE:=Lib.hid hGe;clear hsl hLi hLl hL hB3 hgbd H0 H1 HBX HBc HV2 CG hGe
    go_wp2_with fail
    go_loopw [54] (fun iv wr=>∃ i:Nat,i≤G∧iv=.int .i64 i∧Hid (OwnInts wr bs (.slice (some ⟨g0,0,none⟩) n n) (ints (zd7 n (zcz m 0 i))))∧Hid (OwnInts wr bs (.slice (some ⟨g1,0,none⟩) n n) (ints (zd7 n (zcz m 1 i))))∧Hid (SlOwn wr gb (.slice q G c) L) ∧
      Hid (wr.heap[b]?=some (.cells #[.slice (some ⟨g0,0,none⟩) n n,.slice (some ⟨g1,0,none⟩) n n] 203 (0,0)))∧Hid (Below w.heap.size w wr)) (fun iv _=>G+1-(intOf iv).toNat)
    case atStart=>exact⟨0,Nat.zero_le _,rfl,H0',H1',HSL,HBX3,HB3⟩
    case round =>
      clear H0' H1' HSL HBX3 HB3;obtain⟨i,hi,rfl,H0,H1,HSL,HBX,HB⟩:=hrel
      by_cases hlt:i<G
      · obtain⟨vi,hvi⟩:=HLI.out i hlt
        obtain⟨g,o,hq,hg,hci,hiv⟩:=HSL.out.is.at i _ hvi;subst hq
        dsimp only at hci hiv
        obtain⟨qi,di,hve,hdi,-⟩:=hiv.shape;rw[zad] at hve;subst hve;have hlg:=zbR m i;obtain⟨T,hT⟩:∃ T,(grN m i).length=T:=⟨_,rfl⟩;rw[hT] at hci hiv hvi hlg;have HT:=Lib.hid hT;have HVI:=Lib.hid hvi;have H0a:Hid (OwnInts wr bs (.slice (some ⟨g0,0,none⟩) n n) (ints (zd7 n (zb4 m 0 i 0)))):=by rw[ziE];exact H0
        have H1a:Hid (OwnInts wr bs (.slice (some ⟨g1,0,none⟩) n n) (ints (zd7 n (zb4 m 1 i 0)))):=by rw[ziE];exact H1
        clear hiv hT H0 H1 hvi
        go_wp2_with fail
        go_loopw [61] (fun tv wr=>∃ t:Nat,t≤T∧tv=.int .i64 t∧Hid (OwnInts wr bs (.slice (some ⟨g0,0,none⟩) n n) (ints (zd7 n (zb4 m 0 i t))))∧Hid (OwnInts wr bs (.slice (some ⟨g1,0,none⟩) n n) (ints (zd7 n (zb4 m 1 i t))))∧Hid (SlOwn wr gb (.slice (some ⟨g,o,none⟩) G c) L) ∧
          Hid (wr.heap[b]?=some (.cells #[.slice (some ⟨g0,0,none⟩) n n,.slice (some ⟨g1,0,none⟩) n n] 203 (0,0)))∧Hid (Below w.heap.size w wr)) (fun tv _=>T+1-(intOf tv).toNat)
        case atStart=>exact⟨0,Nat.zero_le _,rfl,H0a,H1a,HSL,HBX,HB⟩
        case round =>
          clear H0a H1a HSL HBX HB hci;obtain⟨t,ht,rfl,H0,H1,HSL,HBX,HB⟩:=hrel
          by_cases hlt2:t<T
          · obtain⟨s,hs⟩:∃ s,(grN m i)[t]?=some s:=⟨_,List.getElem?_eq_getElem (by rw[HT.out];exact hlt2)⟩
            have hsn:=HS.out s (zje (List.mem_of_getElem? hs));obtain⟨g5,o5,hq5,hg5,hc5⟩:=((HSL.out.has _ (List.mem_of_getElem? HVI.out)).is).at t (by rw[zad,HT.out];exact hlt2)
            subst hq5;rw[show (ints (grN m i))[t]?.getD 0=(s:Int) by simp[ints,hs]] at hc5
            have kb0:=(zaa HBX.out 0).trans rfl;have kb1:=(zaa HBX.out 1).trans rfl;rcases Nat.mod_two_eq_zero_or_one i with hp | hp
            · have hrem:(i:Int).tmod 2=0:=by rw[Int.tmod_eq_emod_of_nonneg (by omega)];omega
              obtain⟨m1,m2,m3,m4,m5⟩:=H0.out.mine (by rw[zad,zaE]) (by omega)
              obtain⟨x,hx⟩:∃ x,(zb4 m 0 i t).count s=x:=⟨_,rfl⟩
              have hxl:x≤200000:=by
                have h1:(zb4 m 0 i t).count s≤(zb4 m 0 i t).length:=List.count_le_length;have h2:=zgl m 0 i t;omega
              have hcx:=m1 s x (zft _ _ _ (by rw[zgI n _ s hsn,hx]))
              have hfx:=m2 s
              have HO2:Hid (OwnInts (wr.setCell ⟨g0,s,none⟩ (.int .i64 ((x+1:Nat):Int))) bs (.slice (some ⟨g0,0,none⟩) n n) (ints (zd7 n (zb4 m 0 i (t+1))))):=by
                have:=m3 s ((x+1:Nat):Int);rw[zgP,←hx,←zkV n _ s hsn,←zlq m 0 i t s hp hs] at this;rw[←hx];exact this
              have ho:=(Only.refl g0 wr).set s (.int .i64 ((x+1:Nat):Int))
              have HO1:Hid (OwnInts (wr.setCell ⟨g0,s,none⟩ (.int .i64 ((x+1:Nat):Int))) bs (.slice (some ⟨g1,0,none⟩) n n) (ints (zd7 n (zb4 m 1 i (t+1))))):=by
                rw[zgR m 1 i (t+1) (by omega),←zgR m 1 i t (by omega)]
                exact zfc H1.out ho hn1.symm
              have HSL2:=Lib.hid (HSL.out.only ho hg0);have HBX2:=Lib.hid (ho.other HBX.out hn2);have HB2:Hid (Below w.heap.size w (wr.setCell ⟨g0,s,none⟩ (.int .i64 ((x+1:Nat):Int)))):=HB.out.setCell (p:=⟨g0,s,none⟩) (by show w.heap.size≤g0;omega) _
              have hyw:Hid (((x+1:Nat):Int)=(x:Int)+1):=by show _=_;omega
              clear m1 m2 m3 hx hs ho
              go_wp2_with fail
              go_roundw
              case rel=>exact⟨t+1,by omega,by go_num,by rw[←hyw.out];exact HO2,by rw[←hyw.out];exact HO1,by rw[←hyw.out];exact HSL2,by rw[←hyw.out];exact HBX2,by rw[←hyw.out];exact HB2⟩
              case measure=>simp[intOf];omega
            · have hrem:(i:Int).tmod 2=1:=by rw[Int.tmod_eq_emod_of_nonneg (by omega)];omega
              obtain⟨m1,m2,m3,m4,m5⟩:=H1.out.mine (by rw[zad,zaE]) (by omega)
              obtain⟨x,hx⟩:∃ x,(zb4 m 1 i t).count s=x:=⟨_,rfl⟩
              have hxl:x≤200000:=by
                have h1:(zb4 m 1 i t).count s≤(zb4 m 1 i t).length:=List.count_le_length;have h2:=zgl m 1 i t;omega
              have hcx:=m1 s x (zft _ _ _ (by rw[zgI n _ s hsn,hx]))
              have hfx:=m2 s
              have HO2:Hid (OwnInts (wr.setCell ⟨g1,s,none⟩ (.int .i64 ((x+1:Nat):Int))) bs (.slice (some ⟨g1,0,none⟩) n n) (ints (zd7 n (zb4 m 1 i (t+1))))):=by
                have:=m3 s ((x+1:Nat):Int);rw[zgP,←hx,←zkV n _ s hsn,←zlq m 1 i t s hp hs] at this;rw[←hx];exact this
              have ho:=(Only.refl g1 wr).set s (.int .i64 ((x+1:Nat):Int))
              have HO1:Hid (OwnInts (wr.setCell ⟨g1,s,none⟩ (.int .i64 ((x+1:Nat):Int))) bs (.slice (some ⟨g0,0,none⟩) n n) (ints (zd7 n (zb4 m 0 i (t+1))))):=by
                rw[zgR m 0 i (t+1) (by omega),←zgR m 0 i t (by omega)]
                exact zfc H0.out ho hn1
              have HSL2:=Lib.hid (HSL.out.only ho hg1);have HBX2:=Lib.hid (ho.other HBX.out hn3);have HB2:Hid (Below w.heap.size w (wr.setCell ⟨g1,s,none⟩ (.int .i64 ((x+1:Nat):Int)))):=HB.out.setCell (p:=⟨g1,s,none⟩) (by show w.heap.size≤g1;omega) _
              have hyw:Hid (((x+1:Nat):Int)=(x:Int)+1):=by show _=_;omega
              clear m1 m2 m3 hx hs ho
              go_wp2_with fail
              go_roundw
              case rel=>exact⟨t+1,by omega,by go_num,by rw[←hyw.out];exact HO1,by rw[←hyw.out];exact HO2,by rw[←hyw.out];exact HSL2,by rw[←hyw.out];exact HBX2,by rw[←hyw.out];exact HB2⟩
              case measure=>simp[intOf];omega
          · obtain rfl:t=T:=by omega
            have H0e:Hid (OwnInts wr bs (.slice (some ⟨g0,0,none⟩) n n) (ints (zd7 n (zcz m 0 (i+1))))):=by rw[←zk6,HT.out];exact H0
            have H1e:Hid (OwnInts wr bs (.slice (some ⟨g1,0,none⟩) n n) (ints (zd7 n (zcz m 1 (i+1))))):=by rw[←zk6,HT.out];exact H1
            go_wp2_with fail
            go_roundw
            case rel=>exact⟨i+1,by omega,by go_num,H0e,H1e,HSL,HBX,HB⟩
            case measure=>simp[intOf];omega
      · obtain rfl:i=G:=by omega
        have hz3:=HB.out.size;have kb0:=(zaa HBX.out 0).trans rfl;have kb1:=(zaa HBX.out 1).trans rfl;obtain⟨W2,hW2⟩:∃ W2,wr=W2:=⟨_,rfl⟩;rw[hW2] at H0 H1 HSL HBX HB hz3 kb0 kb1 ⊢;clear hW2;obtain⟨hk0,hl0⟩:=ziv m n 0 (by rw[HM.out];exact hm) h2 h258
        obtain⟨hk1,hl1⟩:=ziv m n 1 (by rw[HM.out];exact hm) h2 h258
        have hT0:zpv (zd7 n (zcz m 0 i)) 20=za6 m n 0:=by unfold za6;rw[HM.out,HGE.out]
        have hT1:zpv (zd7 n (zcz m 1 i)) 20=za6 m n 1:=by unfold za6;rw[HM.out,HGE.out]
        have hle:∀ w0:Nat,∀ x∈zd7 n (zcz m w0 i),x≤1048576:=fun w0 x hx=>by
          have h1:=zt9 n _ x hx;have h2:=zgj m w0 i;omega
        have CL0:Hid (∀ W,Below W2.heap.size W2 W→Calls Tryz.prog 26 #[.slice (some ⟨g0,0,none⟩) n n,.int .i64 20] W fun e w'=>∃ q c,e=.returned (.tuple #[.slice q n c,.int .i64 0])∧(IsInts w' w'.heap.size (.slice q n c) (ints (za6 m n 0))∧TypedInts w' (.slice q n c))∧Below W.heap.size W w'):=fun W hB=>by
          have:=zfP W _ (zd7 n (zcz m 0 i)) 20 (zwb H0.out.is hB) (hle 0) (by rw[zaE];exact h2) (by rw[zaE];exact h258) (by omega) (by omega)
          rw[zaE,hT0] at this;exact this
        have CL1:Hid (∀ W,Below W2.heap.size W2 W→Calls Tryz.prog 26 #[.slice (some ⟨g1,0,none⟩) n n,.int .i64 20] W fun e w'=>∃ q c,e=.returned (.tuple #[.slice q n c,.int .i64 0])∧(IsInts w' w'.heap.size (.slice q n c) (ints (za6 m n 1))∧TypedInts w' (.slice q n c))∧Below W.heap.size W w'):=fun W hB=>by
          have:=zfP W _ (zd7 n (zcz m 1 i)) 20 (zwb H1.out.is hB) (hle 1) (by rw[zaE];exact h2) (by rw[zaE];exact h258) (by omega) (by omega)
          rw[zaE,hT1] at this;exact this
        clear hT0 hT1 hle H0 H1 HBX;have hx0:=zjW (.slice (some ⟨g0,0,none⟩) n n) (.slice (some ⟨g1,0,none⟩) n n);obtain⟨hx1,hx2⟩:=hx0
        go_wp2_with fail
        go_loopw [4,77] (fun tv kv wr=>∃ (k ct:Nat) (qt:Option Addr) (LT:List SV),k≤2∧kv=.int .i64 k∧tv=.slice qt k ct∧Hid (LT.map (·.2)=[ints (za6 m n 0),ints (za6 m n 1)].take k)∧Hid (SlTy wr W2.heap.size (.slice qt k ct) LT)∧Hid (Below W2.heap.size W2 wr)) (fun _ kv _=>3-(intOf kv).toNat)
        case atStart=>exact⟨0,0,none,[],by omega,rfl,rfl,rfl,SlTy.nil _ _,Below.refl _ _⟩
        case round =>
          obtain⟨k,ct,qt,LT,hk,rfl,rfl,HLT,HTY,HBt⟩:=hrel;have hzt:=HBt.out.size
          have hltl:LT.length=k:=by
            have:=congrArg List.length HLT.out;rw[List.length_map,List.length_take] at this;simp at this;omega
          have HLTL:=Lib.hid hltl;clear hltl
          by_cases hk2:k<2
          · rcases (show k=0∨k=1 by omega) with rfl | rfl
            · go_wp2_with fail
              refine (CL0.out _ HBt.out).mono ?_;rintro e w5 ⟨q5,c5,rfl,⟨hv5,hty5⟩,hB5⟩;have HTY5:=Lib.hid ((HTY.out.below hB5).below ((Below.refl w5.heap.size w5).alloc (Nat.le_refl _) (.cells #[.slice q5 n c5] 67)));have HP5:Hid (IsInts (w5.alloc (.cells #[.slice q5 n c5] 67)) (w5.alloc (.cells #[.slice q5 n c5] 67)).heap.size (.slice q5 n c5) (ints (za6 m n 0))∧TypedInts (w5.alloc (.cells #[.slice q5 n c5] 67)) (.slice q5 n c5)):=⟨zwb hv5 ((Below.refl _ _).alloc (Nat.le_refl _) _),hty5.below ((Below.refl _ _).alloc (Nat.le_refl _) _)⟩;have HB5:=Lib.hid (HBt.out.trans (hB5.mono hzt));have hz5:=HB5.out.size;clear hv5 hty5 hB5 HTY HBt
              go_wp2_with
                (at_builtin
                 refine zdt rfl _ _ rfl W2.heap.size _ LT rfl HTY5.out w5.heap.size (.slice q5 n c5,ints (za6 m n 0)) rfl (zae _ _ _ rfl) HP5.out (by rw[HLTL.out];omega) (by simp;omega) ?_
                 intro q6 c6 w6 hown6 hg6;rw[HLTL.out] at hown6 ⊢;have HO6:=Lib.hid hown6;have HB6:Hid (Below W2.heap.size W2 w6):=(HB5.out.alloc hz5 _).grown hg6 (by simp;omega) (fun r e=>zaF HTY5.out.own e)
                 clear hown6 hg6)
              go_roundw
              case rel=>exact⟨0+1,c6,q6,LT++[(.slice q5 n c5,ints (za6 m n 0))],by omega,by go_num,rfl,by show _=_;rw[List.map_append,HLT.out];rfl,HO6,HB6⟩
              case measure=>simp[intOf]
            · go_wp2_with fail
              refine (CL1.out _ HBt.out).mono ?_;rintro e w5 ⟨q5,c5,rfl,⟨hv5,hty5⟩,hB5⟩;have HTY5:=Lib.hid ((HTY.out.below hB5).below ((Below.refl w5.heap.size w5).alloc (Nat.le_refl _) (.cells #[.slice q5 n c5] 67)));have HP5:Hid (IsInts (w5.alloc (.cells #[.slice q5 n c5] 67)) (w5.alloc (.cells #[.slice q5 n c5] 67)).heap.size (.slice q5 n c5) (ints (za6 m n 1))∧TypedInts (w5.alloc (.cells #[.slice q5 n c5] 67)) (.slice q5 n c5)):=⟨zwb hv5 ((Below.refl _ _).alloc (Nat.le_refl _) _),hty5.below ((Below.refl _ _).alloc (Nat.le_refl _) _)⟩;have HB5:=Lib.hid (HBt.out.trans (hB5.mono hzt));have hz5:=HB5.out.size;clear hv5 hty5 hB5 HTY HBt
              go_wp2_with
                (at_builtin
                 refine zdt rfl _ _ rfl W2.heap.size _ LT rfl HTY5.out w5.heap.size (.slice q5 n c5,ints (za6 m n 1)) rfl (zae _ _ _ rfl) HP5.out (by rw[HLTL.out];omega) (by simp;omega) ?_
                 intro q6 c6 w6 hown6 hg6;rw[HLTL.out] at hown6 ⊢;have HO6:=Lib.hid hown6;have HB6:Hid (Below W2.heap.size W2 w6):=(HB5.out.alloc hz5 _).grown hg6 (by simp;omega) (fun r e=>zaF HTY5.out.own e)
                 clear hown6 hg6)
              go_roundw
              case rel=>exact⟨1+1,c6,q6,LT++[(.slice q5 n c5,ints (za6 m n 1))],by omega,by go_num,rfl,by show _=_;rw[List.map_append,HLT.out];rfl,HO6,HB6⟩
              case measure=>simp[intOf]
          · obtain rfl:k=2:=by omega
            obtain⟨⟨va,xa⟩,⟨vb,xb⟩,rfl⟩:∃ pa pb,LT=[pa,pb]:=by
              match LT,HLTL.out with
              | [pa,pb],_=>exact⟨pa,pb,rfl⟩
            have hab:=HLT.out;simp at hab;obtain⟨rfl,rfl⟩:=hab;have HTB:Hid (IsSl wr wr.heap.size (.slice qt 2 ct) [(va,ints (za6 m n 0)),(vb,ints (za6 m n 1))]):=HTY.out.is;have HSL3:=Lib.hid ((HSL.out.is).up HBt.out);have HB3:=Lib.hid (HB.out.trans (HBt.out.mono hz3));obtain⟨W3,hW3⟩:∃ W3,wr=W3:=⟨_,rfl⟩;rw[hW3] at HTB HSL3 HB3 ⊢;clear hW3 HTY HBt HLT HLTL hzt CL0 CL1 hx1 hx2 kb0 kb1;have hz33:=HB3.out.size
            have CB0:Hid (∀ W u j,Below W3.heap.size W3 W→IsInts W W.heap.size u (ints (grN m j))→Calls Tryz.prog 119 #[va,u] W fun e w'=>e=.returned (.tuple #[.int .i64 (zej (za6 m n 0) (grN m j):Nat),.int .i64 0])∧Below W.heap.size W w'):=fun W u j hB hu =>
              znd W va u _ _ (zwb (HTB.out.2 _ (List.mem_cons_self ..)) hB) hu hk0 (by have:=zbR m j;omega) (fun s hs=>by rw[hl0];exact HS.out s (zje hs))
            have CB1:Hid (∀ W u j,Below W3.heap.size W3 W→IsInts W W.heap.size u (ints (grN m j))→Calls Tryz.prog 119 #[vb,u] W fun e w'=>e=.returned (.tuple #[.int .i64 (zej (za6 m n 1) (grN m j):Nat),.int .i64 0])∧Below W.heap.size W w'):=fun W u j hB hu =>
              znd W vb u _ _ (zwb (HTB.out.2 _ (List.mem_cons_of_mem _ (List.mem_cons_self ..))) hB) hu hk1 (by have:=zbR m j;omega) (fun s hs=>by rw[hl1];exact HS.out s (zje hs))
            obtain⟨gt,ot,hqt,hgt,hta,hia⟩:=HTB.out.at 0 _ rfl;obtain⟨gt',ot',hqt',hgt',htb,hib⟩:=HTB.out.at 1 _ rfl;subst hqt;injection hqt' with hqt'
            injection hqt' with e1 e2
            subst e1 e2;rw[Nat.add_zero] at hta
            dsimp only at hta htb
            obtain⟨qva,cva,hvae,-⟩:=hia.shape;obtain⟨qvb,cvb,hvbe,-⟩:=hib.shape
            dsimp only at hvae hvbe
            rw[zad,hl0] at hvae;rw[zad,hl1] at hvbe;subst hvae hvbe;have HTA:=Lib.hid hta;have HTBc:=Lib.hid htb;have hchl:(zal m n).length=i:=by unfold zal;rw[List.length_map,List.length_range,HM.out,HGE.out]
            have HCH:=Lib.hid hchl;have HCI:Hid (∀ j,j<i→(zal m n)[j]?=some (zk0 m n j)):=fun j hj=>by unfold zal;rw[HM.out,HGE.out,List.getElem?_map,List.getElem?_range hj];rfl
            clear hta htb hia hib hk0 hk1 hchl
            go_wp2_with fail
            go_loopw [5,92] (fun cv jv wr=>∃ (j cc:Nat) (qc:Option Addr),j≤i∧jv=.int .i64 j∧cv=.slice qc j cc∧Hid (OwnInts wr W3.heap.size (.slice qc j cc) (ints ((zal m n).take j)))∧Hid (Below W3.heap.size W3 wr)) (fun _ jv _=>i+1-(intOf jv).toNat)
            case atStart=>exact⟨0,0,none,Nat.zero_le _,rfl,rfl,OwnInts.nil _ _,Below.refl _ _⟩
            case round =>
              obtain⟨j,cc,qc,hj,rfl,rfl,HO,HBj⟩:=hrel;have hzj:=HBj.out.size
              by_cases hji:j<i
              · obtain⟨vi,hvi⟩:=HLI.out j hji
                obtain⟨g,o,hq,hg,hci,hiv⟩:=HSL3.out.at j _ hvi;subst hq
                dsimp only at hci hiv
                obtain⟨qi,di,hve,-⟩:=hiv.shape;rw[zad] at hve;obtain⟨T,hT⟩:∃ T,(grN m j).length=T:=⟨_,rfl⟩;rw[hT] at hve;subst hve;have HIV:=Lib.hid (zwb hiv HBj.out);have hci:=(HBj.out.cell (p:=⟨g,o+j,none⟩) hg).trans hci;have hta:=(HBj.out.cell (p:=⟨gt,ot,none⟩) hgt).trans HTA.out;have hcj:=HCI.out j hji;unfold zk0 at hcj;have C0:=Lib.hid (CB0.out wr _ j HBj.out HIV.out);have C1:Hid (∀ W,Below wr.heap.size wr W→Calls Tryz.prog 119 #[.slice qvb n cvb,.slice qi T di] W fun e w'=>e=.returned (.tuple #[.int .i64 (zej (za6 m n 1) (grN m j):Nat),.int .i64 0])∧Below W.heap.size W w'):=fun W hB=>CB1.out W _ j (HBj.out.trans (hB.mono hzj)) (zwb HIV.out hB);generalize zej (za6 m n 0) (grN m j)=x0 at *
                generalize zej (za6 m n 1) (grN m j)=x1 at *
                have HCJ:=Lib.hid hcj;clear hvi hiv hT hcj
                go_wp2_with fail
                refine C0.out.mono ?_;rintro e w7 ⟨rfl,hB7⟩;have htb:=((HBj.out.trans (hB7.mono hzj)).cell (p:=⟨gt,ot+1,none⟩) hgt).trans HTBc.out;have C1':=Lib.hid (C1.out w7 hB7);have HB7:=Lib.hid (HBj.out.trans (hB7.mono hzj));have HO7:=Lib.hid (HO.out.below hB7);have hz7:=HB7.out.size;clear hB7 C0 C1 HO HBj
                go_wp2_with fail
                refine C1'.out.mono ?_;rintro e w8 ⟨rfl,hB8⟩;have HB8:=Lib.hid (HB7.out.trans (hB8.mono hz7));have HO8:=Lib.hid (HO7.out.below hB8);have hz8:=HB8.out.size;clear hB8 C1' HO7 HB7 htb hta
                by_cases hx:x1<x0
                · have HTK:Hid ((zal m n).take (j+1)=(zal m n).take j++[1]):=by
                    show _=_
                    rw[List.take_add_one,HCJ.out,if_pos hx];rfl
                  have HTL:Hid ((ints ((zal m n).take j)).length=j):=by
                    show _=_
                    rw[zad,List.length_take,HCH.out];omega
                  go_wp2_with
                    (at_builtin
                     refine zar rfl _ _ rfl W3.heap.size _ (ints ((zal m n).take j)) rfl (HO8.out.alloc _) (w8.heap.size+1) _ [1] rfl (IsInts.new w8 [1] _ _ _ rfl rfl rfl (by simp[maxLen])) (by rw[HTL.out];simp;omega) (by simp;omega) ?_
                     intro q' c' w9 hown1 hg1' hat1;rw[show (ints ((zal m n).take j)).length + [(1:Int)].length=j+1 by rw[HTL.out];rfl] at hown1 ⊢
                     rw[show ints ((zal m n).take j)++[(1:Int)]=ints ((zal m n).take (j+1)) by rw[HTK.out];simp[ints]] at hown1
                     have Hown1:=Lib.hid hown1;have HB9:Hid (Below W3.heap.size W3 w9):=(HB8.out.alloc hz8 _).grown hg1' (by simp;omega) (fun r e=>zaF HO8.out e)
                     clear hg1' hat1 hown1)
                  go_roundw
                  case rel=>exact⟨j+1,_,_,by omega,by go_num,rfl,Hown1,HB9⟩
                  case measure=>simp[intOf];omega
                · have HTK:Hid ((zal m n).take (j+1)=(zal m n).take j++[0]):=by
                    show _=_
                    rw[List.take_add_one,HCJ.out,if_neg hx];rfl
                  have HTL:Hid ((ints ((zal m n).take j)).length=j):=by
                    show _=_
                    rw[zad,List.length_take,HCH.out];omega
                  go_wp2_with
                    (at_builtin
                     refine zar rfl _ _ rfl W3.heap.size _ (ints ((zal m n).take j)) rfl (HO8.out.alloc _) (w8.heap.size+1) _ [0] rfl (IsInts.new w8 [0] _ _ _ rfl rfl rfl (by simp[maxLen])) (by rw[HTL.out];simp;omega) (by simp;omega) ?_
                     intro q' c' w9 hown1 hg1' hat1;rw[show (ints ((zal m n).take j)).length + [(0:Int)].length=j+1 by rw[HTL.out];rfl] at hown1 ⊢
                     rw[show ints ((zal m n).take j)++[(0:Int)]=ints ((zal m n).take (j+1)) by rw[HTK.out];simp[ints]] at hown1
                     have Hown1:=Lib.hid hown1;have HB9:Hid (Below W3.heap.size W3 w9):=(HB8.out.alloc hz8 _).grown hg1' (by simp;omega) (fun r e=>zaF HO8.out e)
                     clear hg1' hat1 hown1)
                  go_roundw
                  case rel=>exact⟨j+1,_,_,by omega,by go_num,rfl,Hown1,HB9⟩
                  case measure=>simp[intOf];omega
              · obtain rfl:j=i:=by omega
                have hO:=HO.out;rw[List.take_of_length_le (by rw[HCH.out];exact Nat.le_refl _)] at hO
                have HO1:=Lib.hid hO.is;have HT3:=Lib.hid (HTB.out.up HBj.out);have HBe:=Lib.hid (HB3.out.trans (HBj.out.mono hz33));clear hO HO HBj
                go_wp2_with fail
                go_ret3
                exact⟨_,_,_,ct,qc,cc,by rw[HGE.out];rfl,HT3.out,by rw[HGE.out];exact HO1.out,HBe.out⟩
end Go.Proofs.YtoejfkeofbdalaaGreatDoor
