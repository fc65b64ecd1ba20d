import Derived.Test.YtoejfkeofbdalaaGreatDoorM09
import Derived.Sort.QuietIn
set_option linter.unusedVariables false
set_option maxRecDepth 100000
set_option maxHeartbeats 8000000
namespace Go.Proofs.YtoejfkeofbdalaaGreatDoor
open Go.RowKit
theorem Rd.up {w c:World} {k n:Nat} {v:Value} {xs:List Value} (h:Rd w w.heap.size k v n xs) (hB:Below w.heap.size w c):Rd c c.heap.size k v n xs:=(Rd.below h hB (Nat.le_refl _)).mono hB.size
theorem Rd.isSlice {w:World} {B k n:Nat} {v:Value} {xs:List Value} (h:Rd w B k v n xs):∃ q c,v=.slice q n c∧n≤c∧c≤maxLen:=by
  obtain⟨_,A,cap,hv,h2,h3,_⟩:=h;exact⟨A,cap,hv,h2,h3⟩
theorem Rd.cellAt {w:World} {B k n m c:Nat} {q:Option Addr} {xs:List Value} (h:Rd w B k (.slice q m c) n xs) (hn:0<n) :
    ∃ g o,q=some ⟨g,o,none⟩∧g<B∧∀ j x,xs[j]?=some x→w.cell? ⟨g,o+j,none⟩=some x:=by
  obtain⟨h1,A',cap',hv,h2,h3,h4⟩:=h;injection hv with e1 e2 e3
  subst e1 e2 e3;obtain⟨g,o,hA,hg,hc⟩:=h4 hn;exact⟨g,o,hA,hg,fun j x hx=>hc j x hx⟩
structure ElemT (t e:TypeId) (z:Value) (size bytes:Nat):Prop where
  under:Tryz.prog.underlying t=some (.slice e)
  info:(Tryz.prog.info? e).map (fun i=>(i.zero,i.size,i.bytes))=some (some z,size,bytes)
  cells:z.cells.size=size
  pos:0<size
theorem zaB {w:World} {base size n:Nat} {e:TypeId} {v:Value} {xs:List Value} (h:w.ownsRow base e size v n xs):∃ q c,v=.slice q n c:=by
  obtain⟨q,c,h2,_⟩:=(Rd.own h).isSlice;exact⟨q,c,h2⟩
theorem zav {w:World} {ops:Array Oper} {rest:List Oper} {o:Oper} {a:Act} {Q:Exit→Act→World→Prop} {t e:TypeId} {z:Value} {size bytes:Nat} (E:ElemT t e z size bytes) (hgd:o.guard=none) (s x:Operand)
    (ho:o.op=.call { callee:=.builtin .append,args:=#[s,x],argTypes:=#[t,t] })
    (base:Nat) (v:Value) (n:Nat) (xs:List Value) (hs:a.eval s=v) (hown:w.ownsRow base e size v n xs)
    (B m:Nat) (u:Value) (news:List Value) (hx:a.eval x=u) (hr:Rd w B size u m news) (h1:∀ c∈news,c.oneCell'=true)
    (hlen:n+m≤17592186044416) (hb:bytes≤8∨n+m≤1099511627776∧bytes≤128) (hbase:base≤w.heap.size)
    (h:∀ q c w',w'.ownsRow base e size (.slice q (n+m) c) (n+m) (xs++news)→w.grownBy w' v.ownBlock→((Value.slice q (n+m) c).ownBlock=v.ownBlock∨(Value.slice q (n+m) c).ownBlock=some w.heap.size)→wpList Tryz.prog ops Q rest (a.put o.dst (.slice q (n+m) c)) w') :
    wpList Tryz.prog ops Q (o::rest) a w:=by
  obtain⟨i0,hi,hz0,hz1,hz2⟩:=info_parts E.info
  have hbb:(n+m)*bytes≤140737488355328:=by
    rcases hb with hb | ⟨hb1,hb2⟩
    · exact Nat.le_trans (Nat.mul_le_mul hlen hb) (by omega)
    · exact Nat.le_trans (Nat.mul_le_mul hb1 hb2) (by omega)
  refine zb6 hgd s x t ho base e i0 z size bytes E.under hi hz0 hz1 hz2 E.cells E.pos v n xs hs hown B m u news hx hr h1 (by unfold maxLen;omega) hbb hbase ?_
  intro v' w' h2 h3 h4;obtain⟨q,c,rfl⟩:=zaB h2;exact h q c w' h2 h3 h4
theorem zca {w:World} {ops:Array Oper} {o:Oper} {a:Act} {K:Act→World→Prop} {Q:Exit→Act→World→Prop} {E0:Prop} {t e:TypeId} {z:Value} {size bytes:Nat} (E:ElemT t e z size bytes) (hgd:o.guard=none) (s x:Operand)
    (ho:o.op=.call { callee:=.builtin .append,args:=#[s,x],argTypes:=#[t,t] })
    (base:Nat) (v:Value) (n:Nat) (xs:List Value) (hs:a.eval s=v) (hown:w.ownsRow base e size v n xs)
    (B m:Nat) (u:Value) (news:List Value) (hx:a.eval x=u) (hr:Rd w B size u m news) (h1:∀ c∈news,c.oneCell'=true)
    (hlen:n+m≤17592186044416) (hb:bytes≤8∨n+m≤1099511627776∧bytes≤128) (hbase:base≤w.heap.size)
    (h:∀ q c w',w'.ownsRow base e size (.slice q (n+m) c) (n+m) (xs++news)→w.grownBy w' v.ownBlock→((Value.slice q (n+m) c).ownBlock=v.ownBlock∨(Value.slice q (n+m) c).ownBlock=some w.heap.size)→K (a.put o.dst (.slice q (n+m) c)) w') :
    if Region.wanted o (yielded ops a.tmps)=true then Oper.wp Tryz.prog o a w K Q else E0:=by
  have hw:Region.wanted o (yielded ops a.tmps)=true:=by simp[Region.wanted,hgd]
  rw[if_pos hw];obtain⟨i0,hi,hz0,hz1,hz2⟩:=info_parts E.info
  have hbb:(n+m)*bytes≤140737488355328:=by
    rcases hb with hb | ⟨hb1,hb2⟩
    · exact Nat.le_trans (Nat.mul_le_mul hlen hb) (by omega)
    · exact Nat.le_trans (Nat.mul_le_mul hb1 hb2) (by omega)
  obtain⟨v',w',hrun,h2,h3,h4⟩:=zbN (P:=Tryz.prog) w base t o.type e i0 z size bytes E.under hi hz0 hz1 hz2 E.cells E.pos v n xs hown B m u news hr h1 (by unfold maxLen;omega) hbb hbase
  unfold Oper.wp execOp;simp only[ho,resolve,invoke,builtin,Sem.run_bind,Sem.run_pure,Result.andThen_ok,List.map_toArray,List.map_cons,List.map_nil,hs,hx,hrun];obtain⟨q,c,rfl⟩:=zaB h2;exact h q c w' h2 h3 h4
theorem zap {w:World} {g k n:Nat} {cs:Array Value} {t:TypeId} {xs:List Value} (h:w.heap[g]?=some (.cells cs t (0,0))) (hcs:cs.toList=xs) (hn:xs.length=n*k) (hm:n≤maxLen):Rd w w.heap.size k (.slice (some ⟨g,0,none⟩) n n) n xs:=by
  subst hcs
  exact⟨hn,_,n,rfl,Nat.le_refl _,hm,fun _=>⟨g,0,rfl,zab h,fun i u hu=>by
    rw[Nat.zero_add,zaa h,←Array.getElem?_toList];exact hu⟩⟩
def zm5 (l:List Nat):List Value:=l.map fun n=>Value.int .u32 (n:Nat)
theorem zs1 (l:List Nat) (i x:Nat) (h:l[i]?=some x):(zm5 l)[i]?=some (.int .u32 (x:Nat)):=by simp[zm5,h]
theorem zlz (l:List Nat) (x:Nat):zm5 (l++[x])=zm5 l++[.int .u32 (x:Nat)]:=by simp[zm5]
def rest (s:List UInt8) (a:Nat):List Bool:=B.slice s a (8*s.length-a)
theorem zbt (s:List UInt8) (a:Nat):(rest s a).length=8*s.length-a:=B.length_slice _ _ _
theorem zgy (s:List UInt8) (a:Nat) (h:8*s.length≤a):rest s a=[]:=List.eq_nil_of_length_eq_zero (by rw[zbt];omega)
theorem zgJ (s:List UInt8) (a n:Nat) (h:a+n≤8*s.length):rest s a=B.slice s a n++rest s (a+n):=by
  unfold rest;rw[←B.slice_append,show n+(8*s.length-(a+n))=8*s.length-a by omega]
theorem zg8 (s:List UInt8) (a:Nat) (h:a<8*s.length):rest s a=B.bitAt s a::rest s (a+1):=by
  rw[zgJ s a 1 (by omega)]
  rfl
theorem zhV (s:List UInt8) (a:Nat):B.num (B.slice s a 1)=if B.bitAt s a then 1 else 0:=by
  rw[show B.slice s a 1=[B.bitAt s a] from rfl]
  cases B.bitAt s a <;> rfl
end Go.Proofs.YtoejfkeofbdalaaGreatDoor
namespace Go.Proofs.YtoejfkeofbdalaaGreatDoor
def zc8:List Nat→List Nat→Bool
  | [],_=>true
  | _::_,[]=>false
  | a::x,b::y=>decide (a<b) || (a == b && zc8 x y)
theorem zfo (x:List Nat):zc8 x x=true:=by
  induction x with
  | nil=>rfl
  | cons a x ih=>simp[zc8,ih]
theorem zci:∀ x y:List Nat,zc8 x y=true→zc8 y x=true→x=y
  | [],[],_,_=>rfl
  | [],_::_,_,h=>by simp[zc8] at h
  | _::_,[],h,_=>by simp[zc8] at h
  | a::x,b::y,h,g=>by
    simp only[zc8,Bool.or_eq_true,decide_eq_true_eq,Bool.and_eq_true,beq_iff_eq] at h g;rcases h with h | ⟨rfl,h⟩
    · rcases g with g | ⟨rfl,g⟩ <;> omega
    · rcases g with g | ⟨_,g⟩
      · omega
      · rw[zci x y h g]
theorem ziG:∀ x y:List Nat,zc8 x y=true∨zc8 y x=true
  | [],_=>.inl rfl
  | _::_,[]=>.inr rfl
  | a::x,b::y=>by
    simp only[zc8,Bool.or_eq_true,decide_eq_true_eq,Bool.and_eq_true,beq_iff_eq];rcases Nat.lt_trichotomy a b with h | rfl | h
    · exact .inl (.inl h)
    · rcases ziG x y with h | h
      · exact .inl (.inr ⟨rfl,h⟩)
      · exact .inr (.inr ⟨rfl,h⟩)
    · exact .inr (.inl h)
theorem zd5:∀ x y z:List Nat,zc8 x y=true→zc8 y z=true→zc8 x z=true
  | [],_,_,_,_=>rfl
  | _::_,[],_,h,_=>by simp[zc8] at h
  | _::_,_::_,[],_,h=>by simp[zc8] at h
  | a::x,b::y,c::z,h,g=>by
    simp only[zc8,Bool.or_eq_true,decide_eq_true_eq,Bool.and_eq_true,beq_iff_eq] at h g ⊢;rcases h with h | ⟨rfl,h⟩
    · rcases g with g | ⟨rfl,g⟩
      · exact .inl (by omega)
      · exact .inl h
    · rcases g with g | ⟨rfl,g⟩
      · exact .inl g
      · exact .inr ⟨rfl,zd5 x y z h g⟩
theorem zeL:∀ x y u v:List Nat,x.length=y.length→zc8 (x++u) (y++v)=true→zc8 x y=true
  | [],[],_,_,_,_=>rfl
  | [],_::_,_,_,h,_=>by simp at h
  | _::_,[],_,_,h,_=>by simp at h
  | a::x,b::y,u,v,hl,h=>by
    simp only[List.cons_append,zc8,Bool.or_eq_true,decide_eq_true_eq,Bool.and_eq_true,beq_iff_eq] at h ⊢;rcases h with h | ⟨rfl,h⟩
    · exact .inl h
    · exact .inr ⟨rfl,zeL x y u v (by simpa using hl) h⟩
def zhx (l:List (List Nat)):Prop:=l.Pairwise fun x y=>zc8 x y=true
theorem zeT:∀ l m:List (List Nat),l.Perm m→zhx l→zhx m→l=m
  | [],m,h,_,_=>(List.nil_perm.1 h).symm
  | a::l,[],h,_,_=>by simp at h
  | a::l,b::m,h,hl,hm=>by
    have hl':=List.pairwise_cons.1 hl;have hm':=List.pairwise_cons.1 hm
    have hab:a=b:=by
      rcases List.mem_cons.1 (h.mem_iff.1 (List.mem_cons_self ..)) with e | e
      · exact e
      · rcases List.mem_cons.1 (h.mem_iff.2 (List.mem_cons_self ..)) with e2 | e2
        · exact e2.symm
        · exact zci a b (hl'.1 b e2) (hm'.1 a e)
    subst hab;rw[zeT l m h.cons_inv hl'.2 hm'.2]
def zcB (S:List Nat) (k:Nat):List Nat:=S.drop k++S.take k
theorem zcn (S:List Nat) (k:Nat):(zcB S k).length=S.length:=by simp[zcB];omega
theorem zkA (S:List Nat):zcB S 0=S:=by simp[zcB]
def zcd (n k:Nat):Nat:=if k=0 then n-1 else k-1
theorem zjH {n k:Nat} (h:k<n):zcd n k<n:=by unfold zcd;split <;> omega
theorem zn1 (n:Nat):((List.range n).map (zcd n)).Perm (List.range n):=by
  cases n with
  | zero=>exact List.Perm.refl _
  | succ m =>
    rw[List.range_succ_eq_map,List.map_cons,List.map_map]
    have e:(List.range m).map (zcd (m+1) ∘ Nat.succ)=List.range m:=by
      conv=>rhs;rw[←List.map_id (List.range m)]
      exact List.map_congr_left fun k hk=>by simp[zcd]
    rw[e,show zcd (m+1) 0=m by simp[zcd]]
    rw[←List.range_succ_eq_map,List.range_succ];exact (List.perm_append_comm (l₁:=[m]) (l₂:=List.range m))
theorem zqo (S:List Nat) (k:Nat) (hk:k<S.length):zcB S (zcd S.length k)=S[zcd S.length k]?.getD 0::(zcB S k).dropLast:=by
  unfold zcd
  by_cases h:k=0
  · subst h
    rw[if_pos rfl,zkA];unfold zcB
    have h1:S.drop (S.length-1)=[S[S.length-1]?.getD 0]:=by
      rw[List.drop_eq_getElem_cons (by omega),List.getElem?_eq_getElem (by omega),show S.length-1+1=S.length by omega,List.drop_length]
      rfl
    rw[h1,List.dropLast_eq_take];rfl
  · rw[if_neg h]
    unfold zcB
    have h1:S.drop (k-1)=S[k-1]?.getD 0::S.drop k:=by
      rw[List.drop_eq_getElem_cons (by omega),List.getElem?_eq_getElem (by omega),show k-1+1=k by omega]
      rfl
    rw[h1,List.cons_append];congr 1
    rw[show S.take k=S.take (k-1)++[S[k-1]?.getD 0] by
      rw[List.getElem?_eq_getElem (by omega)]
      conv=>lhs;rw[show k=k-1+1 by omega]
      exact List.take_succ_eq_append_getElem (by omega)]
    rw[←List.append_assoc,List.dropLast_concat]
def zbi (S o:List Nat):List Nat:=o.map fun k=>S[zcd S.length k]?.getD 0
def zeJ (L:List Nat):List Nat:=(List.range 256).flatMap fun c=>(List.range L.length).filter fun i=>L[i]? == some c
theorem zei (L:List Nat) (hL:∀ x∈L,x<256) (i:Nat):i∈zeJ L↔i<L.length:=by
  unfold zeJ;simp only[List.mem_flatMap,List.mem_range,List.mem_filter,beq_iff_eq]
  constructor
  · rintro⟨c,_,h,_⟩;exact h
  · intro h
    exact⟨L[i],hL _ (List.getElem_mem h),h,List.getElem?_eq_getElem h⟩
theorem zhF (L:List Nat):(zeJ L).Pairwise fun i j=>L[i]?.getD 0<L[j]?.getD 0∨L[i]?.getD 0=L[j]?.getD 0∧i<j:=by
  unfold zeJ;rw[List.pairwise_flatMap];refine⟨fun c _=>?_,?_⟩
  · refine List.Pairwise.imp_of_mem ?_ (List.Pairwise.filter _ List.pairwise_lt_range)
    intro i j hi hj hij;simp only[List.mem_filter,beq_iff_eq] at hi hj;rw[hi.2,hj.2];exact .inr ⟨rfl,hij⟩
  · refine List.Pairwise.imp ?_ List.pairwise_lt_range
    intro c d hcd i hi j hj;simp only[List.mem_filter,beq_iff_eq] at hi hj;rw[hi.2,hj.2];exact .inl hcd
theorem ziU (L:List Nat):(zeJ L).Nodup:=by
  refine List.Pairwise.imp ?_ (zhF L);intro i j h e;subst e;omega
theorem zlf (L:List Nat) (hL:∀ x∈L,x<256):(zeJ L).Perm (List.range L.length):=by
  refine (List.perm_ext_iff_of_nodup (ziU L) List.nodup_range).2 fun i=>?_;rw[zei L hL,List.mem_range]
theorem zdl (L:List Nat) (hL:∀ x∈L,x<256):(zeJ L).length=L.length:=by rw[(zlf L hL).length_eq,List.length_range]
def zd1 (v:List Nat):Nat→Nat→Nat
  | 0,j=>j
  | k+1,j=>zd1 v k (v[j]?.getD 0)
theorem zs2 (S o:List Nat) (hS:∀ x∈S,x<256) (hp:o.Perm (List.range S.length)) (hs:zhx (o.map (zcB S))) :
    o.map (zcB S)=(zeJ (zbi S o)).map fun i=>(zbi S o)[i]?.getD 0::(zcB S (o[i]?.getD 0)).dropLast:=by
  have hol:o.length=S.length:=by rw[hp.length_eq,List.length_range]
  have hlt:∀ k∈o,k<S.length:=fun k hk=>List.mem_range.1 (hp.mem_iff.1 hk);have hLl:(zbi S o).length=o.length:=by simp[zbi]
  have hLb:∀ x∈zbi S o,x<256:=fun x hx=>by
    simp only[zbi,List.mem_map] at hx;obtain⟨k,hk,rfl⟩:=hx;have h1:=zjH (hlt k hk);rw[List.getElem?_eq_getElem h1];exact hS _ (List.getElem_mem h1)
  have hrow:∀ i,i<o.length→(zbi S o)[i]?.getD 0::(zcB S (o[i]?.getD 0)).dropLast=zcB S (zcd S.length (o[i]?.getD 0)):=fun i hi=>by
    have h1:o[i]?=some o[i]:=List.getElem?_eq_getElem hi;rw[zqo S _ (by rw[h1];exact hlt _ (List.getElem_mem hi))]
    congr 1
    simp[zbi,h1]
  have hv:=zlf (zbi S o) hLb;refine zeT _ _ ?_ hs ?_
  ·
    have e1:((zeJ (zbi S o)).map fun i=>(zbi S o)[i]?.getD 0::(zcB S (o[i]?.getD 0)).dropLast).Perm ((List.range o.length).map fun i=>zcB S (zcd S.length (o[i]?.getD 0))):=by
      rw[hLl] at hv;refine (hv.map _).trans ?_;rw[List.map_congr_left fun i hi=>hrow i (List.mem_range.1 hi)]
    have e2:((List.range o.length).map fun i=>zcB S (zcd S.length (o[i]?.getD 0)))=(o.map (zcd S.length)).map (zcB S):=by
      rw[List.map_map];apply List.ext_getElem?
      intro i;simp only[List.getElem?_map]
      by_cases hi:i<o.length
      · simp[List.getElem?_range hi,List.getElem?_eq_getElem hi]
      · rw[List.getElem?_eq_none (by simpa using hi),List.getElem?_eq_none (by simpa using hi)]
        rfl
    rw[e2] at e1;refine List.Perm.trans ?_ e1.symm;refine List.Perm.map _ ?_;exact hp.trans ((zn1 S.length).symm.trans (hp.symm.map _))
  ·
    unfold zhx;rw[List.pairwise_map];refine List.Pairwise.imp_of_mem ?_ (zhF (zbi S o));intro i j hi hj hij;rw[zei _ hLb,hLl] at hi hj;simp only[zc8,Bool.or_eq_true,decide_eq_true_eq,Bool.and_eq_true,beq_iff_eq];rcases hij with h | ⟨h,hlt'⟩
    · exact .inl h
    · refine .inr ⟨h,?_⟩
      have h3:=List.pairwise_iff_getElem.1 hs i j (by simpa using hi) (by simpa using hj) hlt'
      simp only[List.getElem_map] at h3;rw[List.getElem?_eq_getElem hi,List.getElem?_eq_getElem hj];simp only[Option.getD_some];have hli:=zcn S o[i];have hlj:=zcn S o[j];have hn0:0<S.length:=by omega
      have d:∀ x:List Nat,x.length=S.length→x.dropLast++[x[S.length-1]?.getD 0]=x:=fun x hx=>by
        have hx0:x≠[]:=by intro e;rw[e] at hx;simp at hx;omega
        conv=>rhs;rw[←List.dropLast_concat_getLast hx0]
        congr 1
        rw[List.getLast_eq_getElem,List.getElem?_eq_getElem (by omega)]
        simp[hx]
      rw[←d _ hli,←d _ hlj] at h3;exact zeL _ _ _ _ (by simp[hli,hlj]) h3
theorem zq3 (S o:List Nat) (hS:∀ x∈S,x<256) (hp:o.Perm (List.range S.length)) (hs:zhx (o.map (zcB S))) :
    ∀ k j,k<S.length→j<S.length→(zcB S (o[j]?.getD 0))[k]?=some ((zbi S o)[zd1 (zeJ (zbi S o)) (k+1) j]?.getD 0):=by
  have hol:o.length=S.length:=by rw[hp.length_eq,List.length_range]
  have hlt:∀ k∈o,k<S.length:=fun k hk=>List.mem_range.1 (hp.mem_iff.1 hk);have hLl:(zbi S o).length=o.length:=by simp[zbi]
  have hLb:∀ x∈zbi S o,x<256:=fun x hx=>by
    simp only[zbi,List.mem_map] at hx;obtain⟨k,hk,rfl⟩:=hx;have h1:=zjH (hlt k hk);rw[List.getElem?_eq_getElem h1];exact hS _ (List.getElem_mem h1)
  have hvl:=zdl (zbi S o) hLb;have hrow:=zs2 S o hS hp hs
  have hj:∀ j,j<S.length→zcB S (o[j]?.getD 0)=(zbi S o)[(zeJ (zbi S o))[j]?.getD 0]?.getD 0::(zcB S (o[(zeJ (zbi S o))[j]?.getD 0]?.getD 0)).dropLast:=fun j hj=>by
    have h1:=congrArg (fun l=>l[j]?) hrow;simp only[List.getElem?_map] at h1;rw[List.getElem?_eq_getElem (by omega),List.getElem?_eq_getElem (by omega:j<(zeJ (zbi S o)).length)] at h1
    simp only[Option.map_some,Option.some.injEq] at h1;rw[List.getElem?_eq_getElem (by omega),List.getElem?_eq_getElem (by omega:j<(zeJ (zbi S o)).length)]
    exact h1
  intro k
  induction k with
  | zero =>
    intro j _ hjn;rw[hj j hjn];rfl
  | succ k ih =>
    intro j hk hjn
    have hvj:(zeJ (zbi S o))[j]?.getD 0<S.length:=by
      rw[List.getElem?_eq_getElem (by omega:j<(zeJ (zbi S o)).length)]
      have:=(zei _ hLb _).1 (List.getElem_mem (by omega:j<(zeJ (zbi S o)).length))
      simp only[Option.getD_some];omega
    rw[hj j hjn,List.getElem?_cons_succ,List.getElem?_dropLast,if_pos (by rw[zcn];omega),ih _ (by omega) hvj]
    rfl
theorem zs8 (S o:List Nat) (g:Nat) (hS:∀ x∈S,x<256) (hp:o.Perm (List.range S.length)) (hs:zhx (o.map (zcB S))) (hg:o[g]?=some 0) :
    ((List.range S.length).map fun k=>(zbi S o)[zd1 (zeJ (zbi S o)) (k+1) g]?.getD 0)=S:=by
  have hgl:=(List.getElem?_eq_some_iff.1 hg).1;have hol:o.length=S.length:=by rw[hp.length_eq,List.length_range]
  apply List.ext_getElem?
  intro k;rw[List.getElem?_map]
  by_cases hk:k<S.length
  · rw[List.getElem?_range hk]
    have:=zq3 S o hS hp hs k g hk (by omega)
    rw[hg] at this;simp only[Option.getD_some,zkA] at this;rw[this];rfl
  · rw[List.getElem?_eq_none (by simpa using hk),List.getElem?_eq_none (by omega)]
    rfl
end Go.Proofs.YtoejfkeofbdalaaGreatDoor
namespace Go.Proofs.YtoejfkeofbdalaaGreatDoor
open Go.RowKit
theorem zud (s:ByteArray) (a:Nat) (W:World) (hs:s.size≤1099511627776) (h:a<8*s.size) :
    Calls Tryz.prog 231 #[.string s,.int .i64 (a:Nat),.int .i64 1] W fun e w'=>e=.returned (.tuple #[.int .u64 (if B.bitAt s.data.toList a then 1 else 0:Nat),.int .i64 0])∧W=w':=by
  have hl:s.data.toList.length=s.size:=by simp
  have:=zdW s a (1:Nat) W (by omega)
  rw[zhw _ a 1 (by omega) (by omega),zgY _ a 1 (by omega) (by omega),zhV] at this
  exact this
theorem zkq (s:ByteArray) (a n:Nat) (W:World) (hs:s.size≤1099511627776) (hn:n≤64) (h:8*s.size<a+n) :
    Calls Tryz.prog 231 #[.string s,.int .i64 (a:Nat),.int .i64 (n:Nat)] W fun e w'=>e=.returned (.tuple #[.int .u64 0,.int .i64 2])∧W=w':=by
  have hl:s.data.toList.length=s.size:=by simp
  have:=zdW s a n W (by omega)
  rw[show zeO s.data.toList a n=2 by unfold zeO;rw[if_neg (by omega),if_pos (by rw[hl];omega)],show zd9 s.data.toList a n=0 by unfold zd9;rw[if_neg (by omega),if_pos (by rw[hl];omega)]] at this
  exact this
theorem zdO {P:Program} {f:FuncId} {args:Array Value} {w:World} {n:Nat} {v:Value}
    (h:Calls P f args (w.drewN n) fun e w'=>e=.returned v∧w.drewN n=w'):Calls P f args (w.drewN n) fun e w''=>e=.returned v∧∃ m,w''=w.drewN m :=
  h.mono fun _ _ ⟨he,hm⟩=>⟨he,n,hm.symm⟩
theorem zw2 (a b:Bool):(zu5 a != zu5 b)=(a != b):=by cases a <;> cases b <;> rfl
attribute [go_sem] zw2
theorem OwnInts.place {w:World} {base:Nat} {v:Value} {xs:List Int} (h:OwnInts w base v xs) (hn:0<xs.length) :
    ∃ g cap,v=.slice (some ⟨g,0,none⟩) xs.length cap∧base≤g∧g<w.heap.size∧(∀ j,j<xs.length→w.cell? ⟨g,j,none⟩=some (.int .i64 (xs[j]?.getD 0)))∧(∀ j,w.frozen? ⟨g,j,none⟩=false) ∧
      (∀ (j:Nat) (x:Int),OwnInts (w.setCell ⟨g,j,none⟩ (.int .i64 x)) base (.slice (some ⟨g,0,none⟩) xs.length cap) (xs.set j x)∧w.grownBy (w.setCell ⟨g,j,none⟩ (.int .i64 x)) (some g)):=by
  rcases h.2 with ⟨rfl,h0⟩ | ⟨g,cap,cur,rfl,hb,hg,_⟩
  · have:=h.1
    rw[h0] at this;simp at this;omega
  · refine⟨g,cap,rfl,hb,zab hg,fun j hj=>?_,fun j=>World.ownsRow.frozenAt h j,fun j x=>?_⟩
    · have h1:=World.ownsRow.cellAt h j (by omega)
      rw[h1,getElem?_intCells,List.getElem?_eq_getElem hj];rfl
    · have h1:=World.ownsRow.stored h j (.int .i64 x)
      refine⟨?_,h1.2⟩;unfold OwnInts;have h2:zaj (xs.set j x)=(zaj xs).set j (.int .i64 x):=by simp[zaj,List.map_set]
      rw[h2,List.length_set];exact h1.1
end Go.Proofs.YtoejfkeofbdalaaGreatDoor
namespace Go.Proofs.YtoejfkeofbdalaaGreatDoor
open Go.RowKit Go.Shelf
attribute [local go_sem] Oper.semAt_some
def zbX (n:Nat):Nat:=(n+9) / 10
def grp (m:List Int) (i:Nat):List Int:=(m.take (10*i+10)).drop (10*i)
theorem zcX (m:List Int) (i:Nat):(grp m i).length=min (10*i+10) m.length-10*i:=by simp[grp]
abbrev Ch:=Nat × Value
def chE (x:Ch):Array Value:=#[x.2]
def ztT (m:List Int) (lo:Nat) (x:Ch) (W:World):Prop:=x.1<zbX m.length∧IsInts W W.heap.size x.2 (grp m x.1)∧∃ q,x.2=.slice q (grp m x.1).length (grp m x.1).length
theorem IsInts.cut3 {w:World} {B n cap:Nat} {A:Option Addr} {xs:List Int} (hv:IsInts w B (.slice A n cap) xs) (l h:Nat) (h1:l<h) (h2:h≤n) :
    ∃ q,IsInts w B (.slice q (h-l) (h-l)) ((xs.take h).drop l)∧∀ W,(Instr.slice 67 (.slice A n cap) (some (.int .i64 (l:Int))) (some (.int .i64 (h:Int))) (some (.int .i64 (h:Int)))).run Tryz.prog W=.ok (.slice q (h-l) (h-l)) W:=by
  obtain⟨q,c,e,hc1,hc2⟩:=hv.shape;injection e with e1 e2 e3
  subst e1 e2 e3;have hr:=Rd.cut (l:=l) (h:=h) (show Rd w B 1 (.slice A xs.length cap) xs.length (zaj xs) from hv) (by omega) h2
  have e5:((zaj xs).take (h*1)).drop (l*1)=zaj ((xs.take h).drop l):=by simp[zaj]
  have e6:((xs.take h).drop l).length=h-l:=by rw[List.length_drop,List.length_take];omega
  rw[e5] at hr;obtain⟨r1,A',cap',r2,r3,r4,r5⟩:=hr;unfold sliced at r2;rw[if_neg (show ¬ cap=l by omega)] at r2
  injection r2 with r21 r22 r23
  subst r21;refine⟨A.map (·.add (l*1)),?_,fun W=>?_⟩
  · unfold IsInts
    rw[e6];exact⟨r1,_,_,rfl,Nat.le_refl _,by omega,r5⟩
  · rw[run_slice_lhm W _ _ _ _ zcY _ _ _ _ _ _ (by omega) (by omega) (by omega) (by omega),zdF,zea]
    simp only[sliced,Int.toNat_natCast,Result.andThen_ok];rw[if_neg (show ¬ h=l by omega)]
theorem IsInts.keepC {bad:Nat→Prop} {W W':World} {lo:Nat} {v:Value} {m:List Int} (h:IsInts W lo v m) (hb:∀ k,bad k→lo≤k) (hk:KeepC bad W W'):IsInts W' lo v m:=by
  obtain⟨h1,A,cap,h2,h3,h4,h5⟩:=h
  exact⟨h1,A,cap,h2,h3,h4,fun hn=>by
    obtain⟨g,o,e,hg,hc⟩:=h5 hn;exact⟨g,o,e,hg,fun i x hx=>hk.cell (fun hb'=>by have:=hb g hb';omega) (hc i x hx)⟩⟩
theorem ztU (m:List Int) (k i H:Nat) (hi:10*k=i) (hH:H=min (10*k+10) m.length):(m.take H).drop i=grp m k:=by
  subst hi hH;unfold grp;congr 1
  rcases Nat.le_total (10*k+10) m.length with h | h
  · rw[Nat.min_eq_left h]
  · rw[Nat.min_eq_right h,List.take_length,List.take_of_length_le h]
theorem zfJ (n k:Nat):10*k<n↔k<zbX n:=by unfold zbX;omega
theorem zq6 (w:World) (A:Option Addr) (n c:Nat) :
    Calls Tryz.prog 122 #[.slice A n c,.int .i64 10] w fun e w'=>e=.returned (.func (.func 172) #[] #[.pointer (some ⟨w.heap.size,0,none⟩),.pointer (some ⟨w.heap.size+1,0,none⟩)])∧(w.alloc (.cells #[.slice A n c] 67)).alloc (.cells #[.int .i64 10] 3)=w':=by
  have hmf:=hmf
  go_enter Tryz.func122,Tryz.ntmps122
  go_wp2
  go_ret
  exact⟨rfl,rfl⟩
theorem zkU:Enters Tryz.prog 172:=enters_of Tryz.func172 (by kernel_rfl) rfl
theorem zsp (n:Nat) (hn:3≤n) (y b1 b2 lo:Nat) (m:List Int) (hm:m.length≤1000000) (bad:Nat→Prop) (J Jx:List Ch→World→Prop) (v:Value) (W:World) (hvW:IsInts W lo v m) (hb1:W.cell? ⟨b1,0,none⟩=some v) (hb2:W.cell? ⟨b2,0,none⟩=some (.int .i64 10))
    (hbad:∀ k,bad k→lo≤k∧k≠b1∧k≠b2) (hlo:lo≤W.heap.size)
    (hJ:∀ s A C,J s A→Below A.heap.size A C→J s C)
    (hY:∀ pre x W1,J pre W1→pre.length<zbX m.length→ztT m lo x W1→YieldAt Fence.wide (n-1) Tryz.prog y (chE x) W1 fun e W'=>(e=.returned (.bool true)∧J (pre++[x]) W'∧KeepC bad W1 W'∧W1.heap.size≤W'.heap.size)∨(e=.returned (.bool false)∧Jx (pre++[x]) W'))
    (h0:J [] W) :
    CallsIn Fence.wide n Tryz.prog 172 #[.func (.yield y) #[] #[],.pointer (some ⟨b1,0,none⟩),.pointer (some ⟨b2,0,none⟩)] W fun e W'=>(∃ v,e=.returned v)∧((∃ xs,xs.map (·.1)=List.range (zbX m.length)∧J xs W')∨(∃ pre,True∧Jx pre W')):=by
  obtain⟨A,ca,rfl,hc1,hc2⟩:=hvW.shape;obtain⟨N,hN⟩:∃ N,m.length=N:=⟨_,rfl⟩;rw[hN] at hvW hb1 hc1 hm;have HN:=Lib.hid hN;have Hv:=Lib.hid hvW;have Hb1:=Lib.hid hb1;have Hb2:=Lib.hid hb2;have Hbad:=Lib.hid hbad;have HJ:=Lib.hid hJ;have HY:=Lib.hid hY;rw[hN];rw[hN] at HY;clear hvW hb1 hb2 hbad hJ hY hN;refine callsIn_of_wp Tryz.func172 rfl trivial ?_ rfl;simp only[Tryz.ntmps172,List.size_toArray,List.length_cons,List.length_nil,Nat.reduceAdd,Nat.reduceSub,Array.replicate_succ,Array.replicate_zero,List.push_toArray,List.append_toArray,List.nil_append,List.cons_append];have h1n:1≤n:=by omega
  gi_wp2_with fail
  gi_loopw [4] (fun iv wr=>∃ (k i:Nat) (pre:List Ch),Hid (10*k=i)∧Hid (k≤zbX N)∧i≤N+9∧iv=.int .i64 i∧pre.map (·.1)=List.range k∧J pre wr∧KeepC bad W wr∧W.heap.size≤wr.heap.size) (fun iv _=>N+20-(intOf iv).toNat)
  case atStart=>exact⟨0,0,[],rfl,Nat.zero_le _,by omega,rfl,rfl,h0,KeepC.refl _ _,Nat.le_refl _⟩
  case round =>
    obtain⟨k,i,pre,HI,HKC,hi,rfl,hpre,hJ,hK,hsz⟩:=hrel;have HPRE:=Lib.hid hpre;have k1:=hK.cell (b:=b1) (fun h=>(Hbad.out b1 h).2.1 rfl) Hb1.out;have k2:=hK.cell (b:=b2) (fun h=>(Hbad.out b2 h).2.2 rfl) Hb2.out;clear h0 hpre
    by_cases hlt:i<N
    · have hv:=Hv.out.keepC (fun k h=>(Hbad.out k h).1) hK
      obtain⟨R,hR0⟩:∃ R,N-i=R:=⟨_,rfl⟩;obtain⟨v1,-,⟨q1,d1,e1⟩,-,s1,-⟩:=hv.cut i N (by omega) (Nat.le_refl _)
      subst e1;have s1:=s1 rfl;rw[hR0] at s1;have hik:=HI.out;have HK1:Hid (k+1≤zbX N):=(zfJ N k).1 (by omega)
      have HLEN:Hid (pre.length<zbX N):=by
        have:=congrArg List.length HPRE.out;rw[List.length_map,List.length_range] at this
        show _<_
        rw[this];exact (zfJ N k).1 (by omega)
      by_cases hfull:i+10≤N
      · have hR10:10≤R:=by omega
        clear hR0;obtain⟨q3,hq3,s3⟩:=hv.cut3 i (i+10) (by omega) (by omega)
        have hg:(m.take (i+10)).drop i=grp m k:=ztU m k i (i+10) hik (by rw[HN.out];omega)
        rw[hg] at hq3;have hgl:=zcX m k;rw[HN.out,hik] at hgl;obtain⟨E,hE⟩:∃ E,i+10-i=E:=⟨_,rfl⟩;rw[hE] at hq3 s3;have hok:ztT m lo (k,.slice q3 E E) wr:=⟨by rw[HN.out];exact (zfJ N k).1 (by omega),hq3.mono (by omega),q3,by rw[hgl,show min (i+10) N-i=E by omega]⟩
        have HOK:=Lib.hid hok;rw[show ((i+10:Nat):Int)=(i:Int)+10 from by omega] at s3
        clear hok hg hgl hv hq3 hik hE
        gi_wp2_with fail
        gi_quiet (fail)
        have hJ2:=HJ.out pre wr (wr.drewN nq) hJ (below_drewN (Below.refl _ _) nq);have hok2:ztT m lo (k,.slice q3 E E) (wr.drewN nq):=⟨HOK.out.1,HOK.out.2.1.below (below_drewN (Below.refl _ _) nq) (Nat.le_refl _),HOK.out.2.2⟩;obtain⟨fn,tmps,assign,body,hy,hR⟩:=HY.out pre (k,.slice q3 E E) (wr.drewN nq) hJ2 HLEN.out hok2;simp only[chE] at hy;clear hJ2 hok2 HOK
        gi_wp2_with fail
        refine hR.mono ?_;rintro e W' (⟨rfl,hJ',hk',hz'⟩ | ⟨rfl,hJx'⟩)
        · have HK2:=Lib.hid ((hK.below (below_drewN (Below.refl _ _) nq)).trans hk')
          have k1:=HK2.out.cell (b:=b1) (fun h=>(Hbad.out b1 h).2.1 rfl) Hb1.out;have k2:=HK2.out.cell (b:=b2) (fun h=>(Hbad.out b2 h).2.2 rfl) Hb2.out;have HZ:Hid (W.heap.size≤W'.heap.size):=Nat.le_trans hsz hz';clear hR hy hk' hJ hK hz'
          gi_wp2_with fail
          go_roundw
          case rel=>exact⟨k+1,i+10,pre++[(k,.slice q3 E E)],by show _=_;have:=HI.out;omega,HK1,by omega,by go_num,by rw[List.map_append,HPRE.out,List.range_succ];rfl,hJ',HK2.out,HZ.out⟩
          case measure=>simp[intOf];omega
        · clear hR hy hJ hK
          gi_wp2_with fail
          exact bodyPost_ret (results_none rfl _ _ _) rfl ⟨⟨_,rfl⟩,.inr ⟨_,trivial,hJx'⟩⟩
      · have hR10:R<10:=by omega
        have hwN:IntKind.i64.wrap ((i:Int)+(R:Int))=(N:Int):=by rw[IntWalk.i64_in _ (by omega)];omega
        clear hR0;obtain⟨q3,hq3,s3⟩:=hv.cut3 i (N) (by omega) (by omega)
        have hg:(m.take (N)).drop i=grp m k:=ztU m k i (N) hik (by rw[HN.out];omega)
        rw[hg] at hq3;have hgl:=zcX m k;rw[HN.out,hik] at hgl;obtain⟨E,hE⟩:∃ E,N-i=E:=⟨_,rfl⟩;rw[hE] at hq3 s3;have hok:ztT m lo (k,.slice q3 E E) wr:=⟨by rw[HN.out];exact (zfJ N k).1 (by omega),hq3.mono (by omega),q3,by rw[hgl,show min (i+10) N-i=E by omega]⟩
        have HOK:=Lib.hid hok;clear hok hg hgl hv hq3 hik hE
        gi_wp2_with fail
        gi_quiet (fail)
        have hJ2:=HJ.out pre wr (wr.drewN nq) hJ (below_drewN (Below.refl _ _) nq);have hok2:ztT m lo (k,.slice q3 E E) (wr.drewN nq):=⟨HOK.out.1,HOK.out.2.1.below (below_drewN (Below.refl _ _) nq) (Nat.le_refl _),HOK.out.2.2⟩;obtain⟨fn,tmps,assign,body,hy,hR⟩:=HY.out pre (k,.slice q3 E E) (wr.drewN nq) hJ2 HLEN.out hok2;simp only[chE] at hy;clear hJ2 hok2 HOK
        gi_wp2_with fail
        refine hR.mono ?_;rintro e W' (⟨rfl,hJ',hk',hz'⟩ | ⟨rfl,hJx'⟩)
        · have HK2:=Lib.hid ((hK.below (below_drewN (Below.refl _ _) nq)).trans hk')
          have k1:=HK2.out.cell (b:=b1) (fun h=>(Hbad.out b1 h).2.1 rfl) Hb1.out;have k2:=HK2.out.cell (b:=b2) (fun h=>(Hbad.out b2 h).2.2 rfl) Hb2.out;have HZ:Hid (W.heap.size≤W'.heap.size):=Nat.le_trans hsz hz';clear hR hy hk' hJ hK hz'
          gi_wp2_with fail
          go_roundw
          case rel=>exact⟨k+1,i+10,pre++[(k,.slice q3 E E)],by show _=_;have:=HI.out;omega,HK1,by omega,by go_num,by rw[List.map_append,HPRE.out,List.range_succ];rfl,hJ',HK2.out,HZ.out⟩
          case measure=>simp[intOf];omega
        · clear hR hy hJ hK
          gi_wp2_with fail
          exact bodyPost_ret (results_none rfl _ _ _) rfl ⟨⟨_,rfl⟩,.inr ⟨_,trivial,hJx'⟩⟩
    · have hk:k=zbX N:=by
        have h1:=HI.out;have h2:=HKC.out;have h3:=(zfJ N k).2;rcases Nat.lt_or_ge k (zbX N) with h | h
        · have:=h3 h;omega
        · omega
      subst hk;have hx:=HPRE.out
      gi_wp2_with fail
      exact bodyPost_end (results_none rfl _ _ _) rfl ⟨⟨_,rfl⟩,.inl ⟨_,hx,hJ⟩⟩
theorem zp1 (n:Nat) (hn:3≤n) (b1 b2 lo:Nat) (m:List Int) (hm:m.length≤1000000) (bad:Nat→Prop) (v:Value) (w0:World) (hv:IsInts w0 lo v m) (hlo:lo≤w0.heap.size) (hb1:w0.cell? ⟨b1,0,none⟩=some v) (hb2:w0.cell? ⟨b2,0,none⟩=some (.int .i64 10))
    (hbad:∀ k,bad k→lo≤k∧k≠b1∧k≠b2) :
    zuU n 172 #[.pointer (some ⟨b1,0,none⟩),.pointer (some ⟨b2,0,none⟩)] chE (ztT m lo) (KeepC bad) (fun xs=>xs.map (·.1)=List.range (zbX m.length)) (fun _=>True) (zbX m.length) w0 :=
  fun y J Jx W hBW hJ hJx hY h0=>by
    have hl1:b1<w0.heap.size:=by
      obtain⟨cs,ty,fz,h1⟩:=zd2 hb1;exact zab h1
    have hl2:b2<w0.heap.size:=by
      obtain⟨cs,ty,fz,h1⟩:=zd2 hb2;exact zab h1
    exact zsp n hn y b1 b2 lo m hm bad J Jx v W (hv.below hBW hlo) ((hBW.cell (p:=⟨b1,0,none⟩) hl1).trans hb1) ((hBW.cell (p:=⟨b2,0,none⟩) hl2).trans hb2) hbad (Nat.le_trans hlo hBW.size) hJ hY h0
end Go.Proofs.YtoejfkeofbdalaaGreatDoor
namespace Go.Proofs.YtoejfkeofbdalaaGreatDoor
open Go.RowKit Go.Shelf
attribute [local go_sem] Oper.semAt_some
def zqz {α:Type} (ib:Nat) (n:Nat) (g:Nat) (lb:Array Value) (encs:α→Array Value) (Ok:α→World→Prop) (Kp:World→World→Prop) (S Sp:List α→Prop) (N:Nat) (w0:World):Prop :=
  ∀ (l:Nat) (J Jx:List α→World→Prop) (W:World),Below w0.heap.size w0 W→(∀ s A B,J s A→Below A.heap.size A B→J s B)→(∀ s A B,Jx s A→Below A.heap.size A B→Jx s B)→(∀ s A u,J s A→J s (A.setCell ⟨ib,0,none⟩ u)) →
    (∀ pre x W1,J pre W1→pre.length<N→Ok x W1→YieldAt Fence.wide (n-1) Tryz.prog l (encs x) W1 fun e W'=>(e=.returned (.bool true)∧J (pre++[x]) W'∧Kp W1 W'∧W1.heap.size≤W'.heap.size)∨(e=.returned (.bool false)∧Jx (pre++[x]) W')) →
    J [] W→CallsIn Fence.wide n Tryz.prog g (#[.func (.yield l) #[] #[]]++lb) W fun e W'=>(∃ v,e=.returned v)∧((∃ xs,S xs∧J xs W')∨(∃ pre,Sp pre∧Jx pre W'))
variable {n:Nat}
theorem RecAt.far {D b:Nat} {o:Obj} {W:World} (h:RecAt D o W) (hb:b<D) (u:Value):RecAt D o (W.setCell ⟨b,0,none⟩ u):=⟨(Below.heap_setCell _ _ _ _ (by show D+1≠b;omega)).trans h.1,(Below.heap_setCell _ _ _ _ (by show D≠b;omega)).trans h.2⟩
theorem zfn {α:Type} {ib:Nat} {g:Operand} {ps:Array Tmp} {assign body:Go.Code} {Q:Exit→Act→World→Prop} {a:Act} {w:World} (h1:1≤n)
    {gf:Nat} {lb:Array Value} (hg:a.eval g=.func (.func gf) #[] lb) (eg:Enters Tryz.prog gf) {encs:α→Array Value} (hps:∀ x,(encs x).size=ps.size) (Ok:α→World→Prop) (bad:Nat→Prop) {S Sp:List α→Prop} {N:Nat} {w0:World}
    (hseq:zqz ib (n-1) gf lb encs Ok (KeepC bad) S Sp N w0) (hb0:Below w0.heap.size w0 w) (hib:ib<w.heap.size)
    (I:List α→World→Prop) (Ix:Go.Code→List α→World→Prop) (hI:OwnFrom w.heap.size I) (hIb:∀ s A u,I s A→I s (A.setCell ⟨ib,0,none⟩ u)) (hIx:∀ c,OwnFrom w.heap.size (Ix c)) (h0:I [] w) (Ax:α→Act→World→Prop) (hAx:∀ x a',OwnFrom w.heap.size (fun (_:Unit) W=>Ax x a' W))
    (hassign:∀ (l:Nat) (pre:List α) (x:α) (W:World) (K:Act→World→Prop),I pre W→Ok x W→w.heap.size+1<W.heap.size→(∀ a' W',KeepsFrom w.heap.size W W'→KeepC bad W W'→I pre W'→Ax x a' W'→K a' W') →
      assign.wpIn (Fence.wide.inRound l) (n-1-1) Tryz.prog (Exit.then K (fun _ _ _=>False)) { tmps:=(ps.zip (encs x)).foldl (fun t (p,v)=>t.setIfInBounds p v) a.tmps,defers:=[] } W)
    (hbody:∀ (l:Nat) (pre:List α) (x:α) (a':Act) (W:World),I pre W→Ax x a' W→w.heap.size+1<W.heap.size→pre.length<N→body.wpIn (Fence.wide.inRound l) (n-1-1) Tryz.prog (ownPostG w.heap.size (KeepC bad) I Ix (pre++[x]) W) a' W)
    (hdone:∀ (D:Nat) (xs:List α) (W:World),w.heap.size≤D→S xs→I xs W→W.heap[D]?=some (.deferred (some []))→Q .normal { a with defers:={ target:=.collected D,args:=#[] }::a.defers } W)
    (hstop:∀ (D:Nat) (c:Go.Code) (pre:List α) (W:World),w.heap.size≤D→Sp pre→Ix c pre W→W.heap[D]?=some (.deferred (some []))→c.wpIn Fence.wide n Tryz.prog Q { a with defers:={ target:=.collected D,args:=#[] }::a.defers } W) :
    (Code.rangeFunc g ps assign body).wpIn Fence.wide n Tryz.prog Q a w:=by
  refine wpIn_rangeFunc ?_;intro fn hfn;obtain⟨W1,hW1⟩:∃ W1,(w.alloc (.deferred (some []))).alloc (zfG fn a.tmps ps assign body w.heap.size .ready none)=W1:=⟨_,rfl⟩;have hB1:Below w.heap.size w W1:=by rw[←hW1];exact ((Below.refl _ w).alloc (Nat.le_refl _) _).alloc (by simp) _
  have hR1:RecAt w.heap.size (zfG fn a.tmps ps assign body w.heap.size .ready none) W1:=by
    rw[←hW1];exact⟨zae _ _ _ (by simp),zah _ (zae _ _ _ rfl)⟩
  refine⟨w.heap.size+1,[{ target:=.collected w.heap.size,args:=#[] }],W1,{ target:=.fn (.func gf) lb,args:=#[.func (.yield (w.heap.size+1)) #[] #[]] },W1,gf,
    #[.func (.yield (w.heap.size+1)) #[] #[]]++lb,W1,?_,?_,?_,?_,fun _=>h1,?_⟩
  · rw[←hW1];exact run_enterLoop_outer _ _ _ _ _
  · simp only[resolve,hg]
    simp[go_sem]
  · intro f' hf';simp[Target.leads] at hf';subst hf';trivial
  · have:=eg
    unfold Enters at this;simp[invoke,go_sem,this]
  · refine (hseq (w.heap.size+1) (fun pre W=>I pre W∧RecAt w.heap.size (zfG fn a.tmps ps assign body w.heap.size .ready none) W)
      (fun pre W=>∃ c,Ix c pre W∧RecAt w.heap.size (zfG fn a.tmps ps assign body w.heap.size .done (some c)) W) W1 (hb0.trans (hB1.mono hb0.size))
      (fun s A C h hB=>⟨zbw hI h.1 hB,h.2.bel hB⟩) (fun s A C ⟨c,h,h2⟩ hB=>⟨c,zbw (hIx c) h hB,h2.bel hB⟩) (fun s A u h=>⟨hIb s A u h.1,h.2.far hib u⟩)
      (fun pre x W hJ hlen hok=>znc hps Ok bad I Ix hI hIx Ax hAx N (hassign _) (hbody _) pre x W hJ hlen hok) ⟨zbw hI h0 hB1,hR1⟩).mono ?_
    rintro e W2 ⟨⟨v,rfl⟩,(⟨xs,hS,hi,hr⟩ | ⟨pre,hSp,c,hi,hr⟩)⟩
    · exact⟨none,_,run_endLoop hr.1 (by simp),hdone _ xs _ (Nat.le_refl _) hS (hI.putObj _ hi (by omega) hr.1 rfl) ((World.putObj_heap_other (by omega)).trans hr.2)⟩
    · exact⟨some c,_,run_endLoop hr.1 (by simp),hstop _ c pre _ (Nat.le_refl _) hSp ((hIx c).putObj _ hi (by omega) hr.1 rfl) ((World.putObj_heap_other (by omega)).trans hr.2)⟩
end Go.Proofs.YtoejfkeofbdalaaGreatDoor
namespace Go.Proofs.YtoejfkeofbdalaaGreatDoor
def zdh:List (List UInt8)→Int→Nat
  | [],_=>0
  | p::ps,room=>if (zba p.length:Int)≤room then p.length+zdh ps (room-zba p.length) else min (min room.toNat 3) p.length
def zh1 (l:List UInt8) (room:Int):Nat:=zdh (zaz l) room
theorem zet (p:UInt8→Bool):∀ (l:List UInt8) (k:Nat),((l.take k).takeWhile p).length=min (l.takeWhile p).length k
  | [],k=>by simp
  | a::l,0=>by simp
  | a::l,k+1=>by
    rw[List.take_succ_cons,List.takeWhile_cons,List.takeWhile_cons]
    by_cases h:p a
    · rw[if_pos h,if_pos h,List.length_cons,List.length_cons,zet p l k];omega
    · rw[if_neg h,if_neg h];simp
theorem zlj (l:List UInt8) (k:Nat):zbE (l.take k)=min (zbE l) k:=by
  cases l with
  | nil=>simp[zbE]
  | cons c l =>
    cases k with
    | zero=>simp[zbE]
    | succ k =>
      rw[List.take_succ_cons,zcr,zcr,zet];omega
theorem zda:zaU []=0:=by unfold zaU;rw[zbu];rfl
theorem zcK {l:List UInt8} (h:l≠[]):zaU l=zba (zbE l)+zaU (l.drop (zbE l)):=by
  unfold zaU;rw[zbA h,List.map_cons,List.sum_cons,List.length_take,Nat.min_eq_left (zeF l)]
theorem zt5 (n:Nat):zba n≤5:=by unfold zba;split <;> omega
theorem znn (room:Int):zh1 [] room=0:=by unfold zh1;rw[zbu];rfl
theorem zkd {l:List UInt8} (h:l≠[]) (room:Int):zh1 l room=if (zba (zbE l):Int)≤room then zbE l+zh1 (l.drop (zbE l)) (room-zba (zbE l)) else min (min room.toNat 3) (zbE l):=by
  unfold zh1;rw[zbA h,zdh,List.length_take,Nat.min_eq_left (zeF l)]
theorem zmz:∀ (m:Nat) (l:List UInt8) (room:Int),l.length≤m→0≤room→zh1 l room≤l.length∧(zaU (l.take (zh1 l room)):Int)≤room
  | 0,l,room,hm,hr=>by
    have:l=[]:=List.eq_nil_of_length_eq_zero (by omega)
    subst this;rw[znn,List.take_nil,zda];exact⟨Nat.zero_le _,hr⟩
  | m+1,l,room,hm,hr=>by
    by_cases hl:l=[]
    · subst hl
      rw[znn,List.take_nil,zda];exact⟨Nat.zero_le _,hr⟩
    · have h1:=zbW hl
      have h3:=zeF l;rw[zkd hl]
      by_cases hc:(zba (zbE l):Int)≤room
      · rw[if_pos hc]
        obtain⟨i1,i2⟩:=zmz m (l.drop (zbE l)) (room-zba (zbE l)) (by rw[List.length_drop];omega) (by omega)
        rw[List.length_drop] at i1;refine⟨by omega,?_⟩
        have hne:l.take (zbE l+zh1 (l.drop (zbE l)) (room-zba (zbE l)))≠[]:=by
          intro h;have:=congrArg List.length h;rw[List.length_take,List.length_nil] at this;omega
        rw[zcK hne,zlj,Nat.min_eq_left (by omega),List.drop_take,Nat.add_sub_cancel_left]
        omega
      · rw[if_neg hc]
        obtain⟨k,hk⟩:∃ k,min (min room.toNat 3) (zbE l)=k:=⟨_,rfl⟩;rw[hk];refine⟨by omega,?_⟩
        by_cases hk0:k=0
        · rw[hk0,List.take_zero,zda]
          exact hr
        · have hne:l.take k≠[]:=by
            intro h;have:=congrArg List.length h;rw[List.length_take,List.length_nil] at this;omega
          have hlp:zba k=k:=by unfold zba;rw[if_pos (by omega)]
          rw[zcK hne,zlj,Nat.min_eq_right (by omega),hlp,List.drop_eq_nil_of_le (by rw[List.length_take];omega),zda]
          omega
theorem zee {l:List UInt8} (hl:l≠[]) (room:Int) (hr:5≤room):1≤zh1 l room:=by
  have h1:=zbW hl;have h2:=zt5 (zbE l);rw[zkd hl,if_pos (by omega)]
  omega
def zdy (room:Int):Nat→List UInt8→List (List UInt8)
  | 0,_=>[]
  | m+1,l=>if l=[] then [] else l.take (zh1 l room)::zdy room m (l.drop (zh1 l room))
theorem ziO (room:Int) (hr:5≤room):∀ (m:Nat) (l:List UInt8),l.length≤m→(zdy room m l).flatten=l
  | 0,l,hm=>(List.eq_nil_of_length_eq_zero (by omega)).symm
  | m+1,l,hm=>by
    unfold zdy
    by_cases hl:l=[]
    · rw[if_pos hl,hl];rfl
    · have:=zee hl room hr
      rw[if_neg hl,List.flatten_cons,ziO room hr m _ (by rw[List.length_drop];omega),List.take_append_drop]
theorem zny (room:Int) (hr:5≤room):∀ (m:Nat) (l:List UInt8),∀ p∈zdy room m l,p≠[]∧(zaU p:Int)≤room
  | 0,l,p,hp=>by simp[zdy] at hp
  | m+1,l,p,hp=>by
    unfold zdy at hp
    by_cases hl:l=[]
    · rw[if_pos hl] at hp;simp at hp
    · rw[if_neg hl] at hp
      rcases List.mem_cons.1 hp with e | h
      · have h1:=zee hl room hr
        have h2:=zmz l.length l room (Nat.le_refl _) (by omega)
        subst e;refine⟨?_,h2.2⟩;intro h;have:=congrArg List.length h;rw[List.length_take,List.length_nil] at this;omega
      · exact zny room hr m _ p h
end Go.Proofs.YtoejfkeofbdalaaGreatDoor
