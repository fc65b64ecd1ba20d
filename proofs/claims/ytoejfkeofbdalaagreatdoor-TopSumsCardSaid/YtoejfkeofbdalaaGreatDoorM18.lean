import Derived.Test.YtoejfkeofbdalaaGreatDoorM10
import Derived.Laws.BitsAllLaws
set_option linter.unusedVariables false
set_option maxRecDepth 100000
set_option maxHeartbeats 8000000
namespace Go.Proofs.YtoejfkeofbdalaaGreatDoor
def zh2 (S:List Nat) (k L:Nat):List Nat:=(List.range L).map fun i=>S[(k+i) % S.length]?.getD 0
theorem zhC (S:List Nat) (k L:Nat):(zh2 S k L).length=L:=by simp[zh2]
theorem zgF (S:List Nat) (k L M:Nat):zh2 S k (L+M)=zh2 S k L++zh2 S ((k+L) % S.length) M:=by
  unfold zh2;rw[List.range_add,List.map_append,List.map_map];congr 1
  apply List.map_congr_left
  intro i _;simp only[Function.comp];rw[Nat.mod_add_mod,Nat.add_assoc]
theorem zfp (S:List Nat) (k:Nat) (hk:k<S.length):zh2 S k S.length=zcB S k:=by
  apply List.ext_getElem?
  intro i;unfold zh2 zcB
  by_cases hi:i<S.length
  · rw[List.getElem?_map,List.getElem?_range hi]
    simp only[Option.map_some]
    by_cases h:k+i<S.length
    · rw[Nat.mod_eq_of_lt h,List.getElem?_append_left (by simp;omega),List.getElem?_drop,List.getElem?_eq_getElem h];rfl
    · rw[Nat.mod_eq_sub_mod (by omega),Nat.mod_eq_of_lt (by omega),List.getElem?_append_right (by simp;omega),List.length_drop,List.getElem?_take_of_lt (by omega)]
      rw[show k+i-S.length=i-(S.length-k) by omega]
      rw[List.getElem?_eq_getElem (by omega)];rfl
  · rw[List.getElem?_eq_none (by simp;omega),List.getElem?_eq_none (by simp;omega)]
theorem zgT (x y u v:List Nat) (hl:x.length=y.length):zc8 (x++u) (y++v)=true↔(zc8 y x=false∨x=y∧zc8 u v=true):=by
  induction x generalizing y with
  | nil =>
    cases y with
    | nil=>simp[zc8]
    | cons b y=>simp at hl
  | cons a x ih =>
    cases y with
    | nil=>simp at hl
    | cons b y =>
      have:=ih y (by simpa using hl)
      simp only[List.cons_append,zc8,Bool.or_eq_true,decide_eq_true_eq,Bool.and_eq_true,beq_iff_eq,Bool.or_eq_false_iff,decide_eq_false_iff_not,Bool.and_eq_false_iff,List.cons.injEq,this];rcases Nat.lt_trichotomy a b with h | rfl | h
      · constructor
        · intro _;exact .inl ⟨by omega,.inl (by simp;omega)⟩
        · intro _;exact .inl h
      · simp
      · constructor
        · rintro (h1 | ⟨h1,_⟩) <;> omega
        · rintro (⟨h1,_⟩ | ⟨⟨h1,_⟩,_⟩) <;> omega
def RankOk (S:List Nat) (ρ:Nat→Nat) (L:Nat):Prop:=∀ x y,x<S.length→y<S.length→(ρ x≤ρ y↔zc8 (zh2 S x L) (zh2 S y L)=true)
theorem RankOk.eq {S:List Nat} {ρ:Nat→Nat} {L:Nat} (h:RankOk S ρ L) {x y:Nat} (hx:x<S.length) (hy:y<S.length):ρ x=ρ y↔zh2 S x L=zh2 S y L:=by
  constructor
  · intro e
    exact zci _ _ ((h x y hx hy).1 (by omega)) ((h y x hy hx).1 (by omega))
  · intro e
    have h1:=(h x y hx hy).2 (by rw[e];exact zfo _)
    have h2:=(h y x hy hx).2 (by rw[e];exact zfo _)
    omega
theorem RankOk.lt {S:List Nat} {ρ:Nat→Nat} {L:Nat} (h:RankOk S ρ L) {x y:Nat} (hx:x<S.length) (hy:y<S.length):ρ x<ρ y↔zc8 (zh2 S y L) (zh2 S x L)=false:=by
  rw[←Bool.not_eq_true,←h y x hy hx];omega
theorem zoQ (S:List Nat):RankOk S (fun k=>S[k]?.getD 0) 1:=by
  intro x y hx hy;simp only[zh2,List.range_one,List.map_cons,List.map_nil,Nat.add_zero,Nat.mod_eq_of_lt hx,Nat.mod_eq_of_lt hy,zc8,Bool.or_eq_true,decide_eq_true_eq,Bool.and_true,beq_iff_eq];omega
def zfY (m:Nat):Nat:=max (2*m) 1
def zb3 (n:Nat) (ρ:Nat→Nat) (m x y:Nat):Bool:=decide (ρ x<ρ y) || (decide (ρ x=ρ y) && decide (ρ ((x+m) % n)<ρ ((y+m) % n)))
theorem zaX (n:Nat) (ρ:Nat→Nat) (m x y:Nat):zb3 n ρ m x y=true↔ρ x<ρ y∨ρ x=ρ y∧ρ ((x+m) % n)<ρ ((y+m) % n):=by simp[zb3]
theorem zcM (n:Nat) (ρ:Nat→Nat) (m x y:Nat):zb3 n ρ m x y=false↔¬ (ρ x<ρ y∨ρ x=ρ y∧ρ ((x+m) % n)<ρ ((y+m) % n)):=by rw[←zaX];simp
theorem zmJ {S:List Nat} {ρ:Nat→Nat} {m:Nat} (h:RankOk S ρ (max m 1)) {x y:Nat} (hx:x<S.length) (hy:y<S.length):zb3 S.length ρ m x y=false↔zc8 (zh2 S y (zfY m)) (zh2 S x (zfY m))=true:=by
  rw[zcM];have hn:0<S.length:=by omega
  by_cases hm:m=0
  · subst hm
    have e:zfY 0=1:=rfl;rw[e];have h':RankOk S ρ 1:=h;rw[←h' y x hy hx,Nat.add_zero,Nat.add_zero,Nat.mod_eq_of_lt hx,Nat.mod_eq_of_lt hy];omega
  · have e0:max m 1=m:=by omega
    rw[e0] at h;have e:zfY m=m+m:=by unfold zfY;omega
    have hx':=Nat.mod_lt (x+m) hn;have hy':=Nat.mod_lt (y+m) hn;rw[e,zgF,zgF,zgT _ _ _ _ (by rw[zhC,zhC]),←h.lt hy hx,←h.eq hy hx,←h _ _ hy' hx']
    omega
def KeyR (n:Nat) (ρ:Nat→Nat) (m x y:Nat):Prop:=zb3 n ρ m x y=true∨zb3 n ρ m y x=false∧x<y
theorem KeyR.trans (n:Nat) (ρ:Nat→Nat) (m:Nat):∀ x y z,KeyR n ρ m x y→KeyR n ρ m y z→KeyR n ρ m x z:=by
  intro x y z h g;simp only[KeyR,zaX,zcM] at *
  omega
theorem zqq (n:Nat) (ρ:Nat→Nat) (m:Nat) {x y:Nat} (h:x<y):(zb3 n ρ m y x=true→KeyR n ρ m y x)∧(zb3 n ρ m y x=false→KeyR n ρ m x y) :=
  ⟨fun h1=>.inl h1,fun h1=>by
    by_cases h2:zb3 n ρ m x y=true
    · exact .inl h2
    · exact .inr ⟨h1,h⟩⟩
def zkz (n:Nat) (ρ:Nat→Nat) (m:Nat) (out:List Nat):Nat→Nat
  | 0=>0
  | t+1=>zkz n ρ m out t+(if zb3 n ρ m (out[t]?.getD 0) (out[t+1]?.getD 0) then 1 else 0)
theorem zui (n:Nat) (ρ:Nat→Nat) (m:Nat) (out:List Nat) (t:Nat):zkz n ρ m out t≤t:=by
  induction t with
  | zero=>exact Nat.le_refl _
  | succ t ih=>simp only[zkz];split <;> omega
theorem zkI (n:Nat) (ρ:Nat→Nat) (m:Nat) (out:List Nat) {s t:Nat} (h:s≤t):zkz n ρ m out s≤zkz n ρ m out t:=by
  induction t with
  | zero=>rw[show s=0 by omega];exact Nat.le_refl _
  | succ t ih =>
    by_cases he:s=t+1
    · subst he;exact Nat.le_refl _
    · exact Nat.le_trans (ih (by omega)) (by simp only[zkz];omega)
theorem zuP {n:Nat} {ρ:Nat→Nat} {m:Nat} {out:List Nat} (hp:out.Pairwise (KeyR n ρ m)) {s t:Nat} (hs:s≤t) (ht:t<out.length) :
    zkz n ρ m out s<zkz n ρ m out t↔zb3 n ρ m (out[s]?.getD 0) (out[t]?.getD 0)=true:=by
  induction t with
  | zero =>
    rw[show s=0 by omega]
    constructor
    · intro h;omega
    · intro h;rw[zaX] at h;omega
  | succ t ih =>
    by_cases he:s=t+1
    · subst he
      constructor
      · intro h;omega
      · intro h;rw[zaX] at h;omega
    · have ih':=ih (by omega) (by omega)
      have hm:=zkI n ρ m out (show s≤t by omega)
      have g1:out[t]?.getD 0=out[t]:=by rw[List.getElem?_eq_getElem (by omega)];rfl
      have g2:out[t+1]?.getD 0=out[t+1]:=by rw[List.getElem?_eq_getElem ht];rfl
      have g3:out[s]?.getD 0=out[s]:=by rw[List.getElem?_eq_getElem (by omega)];rfl
      have k1:KeyR n ρ m out[t] out[t+1]:=List.pairwise_iff_getElem.1 hp t (t+1) (by omega) ht (by omega)
      have k2:s=t∨KeyR n ρ m out[s] out[t]:=by
        rcases Nat.lt_or_ge s t with h | h
        · exact .inr (List.pairwise_iff_getElem.1 hp s t (by omega) (by omega) h)
        · exact .inl (by omega)
      simp only[zkz];rw[g3,g1] at ih';rw[g1,g2,g3]
      by_cases hk:zb3 n ρ m out[t] out[t+1]=true
      · rw[if_pos hk]
        have:zb3 n ρ m out[s] out[t+1]=true:=by
          rcases k2 with rfl | k2
          · exact hk
          · simp only[KeyR,zaX,zcM] at *
            omega
        constructor
        · intro _;exact this
        · intro _;omega
      · rw[if_neg hk,Nat.add_zero,ih']
        rcases k2 with rfl | k2
        · constructor
          · intro h;rw[zaX] at h;omega
          · intro h;exact absurd h hk
        · simp only[KeyR,zaX,zcM] at *
          omega
theorem zq7 {S:List Nat} {ρ ρ':Nat→Nat} {m:Nat} {out:List Nat} (h:RankOk S ρ (max m 1)) (ho:out.Perm (List.range S.length)) (hp:out.Pairwise (KeyR S.length ρ m))
    (hn:∀ t,t<out.length→ρ' (out[t]?.getD 0)=zkz S.length ρ m out t):RankOk S ρ' (zfY m):=by
  intro x y hx hy;rw[←zmJ h hy hx]
  have at_:∀ z,z<S.length→∃ t,t<out.length∧out[t]?.getD 0=z:=fun z hz=>by
    obtain⟨t,ht,rfl⟩:=List.mem_iff_getElem.1 (ho.mem_iff.2 (List.mem_range.2 hz));exact⟨t,ht,by rw[List.getElem?_eq_getElem ht];rfl⟩
  obtain⟨s,hs,rfl⟩:=at_ x hx;obtain⟨t,ht,rfl⟩:=at_ y hy;rw[hn s hs,hn t ht];rcases Nat.le_total t s with hst | hst
  · rw[←Bool.not_eq_true,←zuP hp hst hs];omega
  · constructor
    · intro _
      rcases Nat.lt_or_ge s t with h1 | h1
      · have k:=List.pairwise_iff_getElem.1 hp s t hs ht h1
        rw[List.getElem?_eq_getElem hs,List.getElem?_eq_getElem ht];simp only[Option.getD_some];simp only[KeyR,zaX,zcM] at *
        omega
      · rw[show s=t by omega,zcM];omega
    · intro _;exact zkI _ _ _ _ hst
def zqI (S:List Nat) (x y:Nat):Prop:=zc8 (zcB S x) (zcB S y)=true∧(zcB S x=zcB S y→x<y)
theorem zpO {S:List Nat} {ρ:Nat→Nat} {m:Nat} {out:List Nat} (h:RankOk S ρ (max m 1)) (ho:out.Perm (List.range S.length)) (hp:out.Pairwise (KeyR S.length ρ m)) (hm:S.length≤zfY m):out.Pairwise (zqI S):=by
  have hlt:∀ x∈out,x<S.length:=fun x hx=>List.mem_range.1 (ho.mem_iff.1 hx);refine hp.imp_of_mem fun {x y} hx hy hk=>?_;have hx:=hlt x hx;have hy:=hlt y hy;obtain⟨d,hd⟩:∃ d,zfY m=S.length+d:=⟨zfY m-S.length,by omega⟩
  have hno:zb3 S.length ρ m y x=false:=by simp only[KeyR,zaX,zcM] at *;omega
  have h1:=(zmJ h hy hx).1 hno;refine⟨?_,fun e=>?_⟩
  · rw[hd,zgF,zgF,zfp S x hx,zfp S y hy] at h1
    exact zeL _ _ _ _ (by rw[zcn,zcn]) h1
  · rcases hk with hk | hk
    · exfalso
      have hS:∀ L,zh2 S x L=zh2 S y L:=by
        have get:∀ j,j<S.length→S[(x+j) % S.length]?.getD 0=S[(y+j) % S.length]?.getD 0:=fun j hj=>by
          have e':zh2 S x S.length=zh2 S y S.length:=by rw[zfp S x hx,zfp S y hy,e]
          have:=congrArg (fun l=>l[j]?) e';simpa [zh2,hj] using this
        intro L;apply List.map_congr_left
        intro i _;have:=get (i % S.length) (Nat.mod_lt _ (by omega))
        rwa [Nat.add_mod_mod,Nat.add_mod_mod] at this
      have:zb3 S.length ρ m x y=false:=(zmJ h hx hy).2 (by rw[hS];exact zfo _)
      rw[this] at hk;cases hk
    · exact hk.2
theorem zgo {S:List Nat}:∀ l m:List Nat,l.Perm m→l.Pairwise (zqI S)→m.Pairwise (zqI S)→l=m
  | [],m,hp,_,_=>(List.nil_perm.1 hp).symm
  | x::l,[],hp,_,_=>by simp at hp
  | x::l,y::m,hp,hl,hm=>by
    obtain⟨hx,hl2⟩:=List.pairwise_cons.1 hl;obtain⟨hy,hm2⟩:=List.pairwise_cons.1 hm
    have e:x=y:=by
      have h1:=hp.mem_iff.1 (List.mem_cons_self (a:=x) (l:=l));have h2:=hp.mem_iff.2 (List.mem_cons_self (a:=y) (l:=m));rcases List.mem_cons.1 h1 with h1 | h1
      · exact h1
      · rcases List.mem_cons.1 h2 with h2 | h2
        · exact h2.symm
        · have a:=hx y h2
          have b:=hy x h1;have e:=zci _ _ a.1 b.1;have:=a.2 e;have:=b.2 e.symm;omega
    subst e;rw[zgo l m ((List.perm_cons x).1 hp) hl2 hm2]
def zbI (S:List Nat):List Nat:=(List.range S.length).mergeSort fun x y=>zc8 (zcB S x) (zcB S y) && (!(zc8 (zcB S y) (zcB S x)) || decide (x≤y))
theorem za1 (S:List Nat):(zbI S).Perm (List.range S.length):=List.mergeSort_perm _ _
theorem zgk (S:List Nat):(zbI S).Pairwise (zqI S):=by
  have hs:(zbI S).Pairwise fun x y=>(zc8 (zcB S x) (zcB S y) && (!(zc8 (zcB S y) (zcB S x)) || decide (x≤y)))=true:=by
    refine List.pairwise_mergeSort (fun x y z h g=>?_) (fun x y=>?_) _
    · simp only[Bool.and_eq_true,Bool.or_eq_true,Bool.not_eq_true',decide_eq_true_eq] at h g ⊢
      refine⟨zd5 _ _ _ h.1 g.1,?_⟩
      by_cases e:zc8 (zcB S z) (zcB S x)=true
      · have e1:=zd5 _ _ _ g.1 e
        have e2:=zd5 _ _ _ e h.1;rw[e1] at h;rw[e2] at g;simp at h g;exact .inr (by omega)
      · exact .inl (by simpa using e)
    · simp only[Bool.or_eq_true,Bool.and_eq_true,Bool.not_eq_true',decide_eq_true_eq]
      by_cases h1:zc8 (zcB S x) (zcB S y)=true <;> by_cases h2:zc8 (zcB S y) (zcB S x)=true
      · rw[h1,h2]
        rcases Nat.le_total x y with h | h
        · exact .inl ⟨rfl,.inr h⟩
        · exact .inr ⟨rfl,.inr h⟩
      · exact .inl ⟨h1,.inl (by simpa using h2)⟩
      · exact .inr ⟨h2,.inl (by simpa using h1)⟩
      · rcases ziG (zcB S x) (zcB S y) with h | h
        · exact absurd h h1
        · exact absurd h h2
  have hnd:(zbI S).Nodup:=(za1 S).nodup_iff.2 List.nodup_range;refine (hs.and hnd).imp fun {x y} ⟨h,hne⟩=>?_;simp only[Bool.and_eq_true,Bool.or_eq_true,Bool.not_eq_true',decide_eq_true_eq] at h;refine⟨h.1,fun e=>?_⟩;rcases h.2 with h2 | h2
  · rw[e,zfo] at h2;cases h2
  · omega
theorem zty {S out:List Nat} (ho:out.Perm (List.range S.length)) (hp:out.Pairwise (zqI S)):out=zbI S:=zgo _ _ (ho.trans (za1 S).symm) hp (zgk S)
theorem zkm (S:List Nat):zhx ((zbI S).map (zcB S)):=List.pairwise_map.2 ((zgk S).imp fun h=>h.1)
end Go.Proofs.YtoejfkeofbdalaaGreatDoor
namespace Go.Proofs.YtoejfkeofbdalaaGreatDoor
open Go.RowKit
def shS (c:Nat):Nat:=if c &&& 2147483648=0 then c*2 % 4294967296 else (c*2 % 4294967296) ^^^ 79764919
theorem ztH (c:Nat):shS c<4294967296:=by
  unfold shS;split
  · omega
  · exact Nat.xor_lt_two_pow (n:=32) (by omega) (by omega)
def shI:Nat→Nat→Nat
  | 0,c=>c
  | k+1,c=>shS (shI k c)
def zpp (i:Nat):Nat:=shI 8 (i*16777216)
theorem zp4 (i:Nat):zpp i<4294967296:=ztH _
theorem zmG (i:Nat) (hi:i<256) (w:World) :
    Calls Tryz.prog 131 #[.int .i64 (i:Nat)] w fun e w'=>e=.returned (.int .u32 (zpp i:Nat))∧w=w':=by
  go_enter Tryz.func131,Tryz.ntmps131
  go_wp2_with fail
  go_loopw [3,7] (fun cv kv wr=>∃ k c:Nat,k≤8∧c<4294967296∧kv=.int .i64 k∧cv=.int .u32 (c:Nat)∧Hid (c=shI k (i*16777216))∧Hid (wr=w)) (fun _ kv _=>9-(intOf kv).toNat)
  case atStart=>exact⟨0,i*16777216,by omega,by omega,rfl,by rw[Int.natCast_mul];rfl,rfl,rfl⟩
  case round =>
    obtain⟨k,c,hk,hc,rfl,rfl,HC,HW⟩:=hrel;have hw:wr=w:=HW;subst hw;have hl:=ztH c
    by_cases hk8:k<8
    · have ha:=u32_and_nat c 2147483648 hc (by omega)
      have HA:=Lib.hid ha
      by_cases hz:c &&& 2147483648=0
      · have hS:Hid (((c:Int)*2 % 4294967296)=((shS c:Nat):Int)):=by
          show _=_
          unfold shS;rw[if_pos hz];omega
        have ht:(bits BinOp.and IntKind.u32 (c:Int) 2147483648 == 0)=true:=by
          rw[beq_iff_eq];have:=HA.out;rw[hz] at this;exact this
        clear ha hz
        go_wp2_with fail
        rw[hS.out]
        go_roundw
        case rel=>exact⟨k+1,shS c,by omega,hl,by go_num,rfl,by show _=_;rw[HC.out];rfl,by first | rfl | exact True.intro⟩
        case measure=>simp[intOf];omega
      · have hS:Hid (bits BinOp.xor IntKind.u32 ((c:Int)*2 % 4294967296) 79764919=((shS c:Nat):Int)):=by
          show _=_
          unfold shS;rw[if_neg hz];have:=u32_xor_nat (c*2 % 4294967296) 79764919 (by omega) (by omega)
          rw[←this];congr 1
        have ht:(bits BinOp.and IntKind.u32 (c:Int) 2147483648 == 0)=false:=by
          rw[beq_eq_false_iff_ne];intro h;have h2:=HA.out;rw[show ((2147483648:Nat):Int)=2147483648 from rfl,h] at h2
          omega
        clear ha hz
        go_wp2_with fail
        rw[hS.out]
        go_roundw
        case rel=>exact⟨k+1,shS c,by omega,hl,by go_num,rfl,by show _=_;rw[HC.out];rfl,by first | rfl | exact True.intro⟩
        case measure=>simp[intOf];omega
    · obtain rfl:k=8:=by omega
      go_wp2_with fail
      go_ret
      exact⟨by rw[HC.out];rfl,rfl⟩
theorem zin:Enters Tryz.prog 131:=enters_of Tryz.func131 (by kernel_rfl) rfl
def zj6 (k:Nat):Array Value:=((List.range 256).map fun i=>Value.int .u32 ((if i<k then zpp i else 0:Nat):Int)).toArray
theorem zc1 (k:Nat):(zj6 k).size=256:=by simp only[zj6,List.size_toArray,List.length_map,List.length_range]
theorem zeV (k i:Nat) (h:i<256):(zj6 k)[i]?=some (.int .u32 ((if i<k then zpp i else 0:Nat):Int)):=by
  unfold zj6;rw[List.getElem?_toArray,List.getElem?_map,List.getElem?_range h];rfl
theorem znE (k:Nat):(zj6 k).all (·.oneCell')=true:=by
  unfold zj6;rw[List.all_toArray,List.all_eq_true];intro v hv;obtain⟨i,_,rfl⟩:=List.mem_map.1 hv;rfl
theorem zsv (k:Nat) (hk:k<256):(zj6 k).setIfInBounds k (.int .u32 (zpp k:Nat))=zj6 (k+1):=by
  apply Array.ext_getElem?
  intro i;rw[Array.getElem?_setIfInBounds]
  by_cases hi:i<256
  · rw[zeV _ _ hi,zeV _ _ hi,zc1]
    by_cases h:k=i
    · subst h;simp[hk]
    · rw[if_neg h]
      by_cases h2:i<k
      · rw[if_pos h2,if_pos (by omega)]
      · rw[if_neg h2,if_neg (by omega)]
  · rw[Array.getElem?_eq_none (by rw[zc1];omega),Array.getElem?_eq_none (by rw[zc1];omega),if_neg (by omega)]
theorem znL:(Tryz.prog.info? 228).map (·.size)=some 256:=by kernel_rfl
theorem zse:zj6 0=(List.replicate 256 (Value.int .u32 0)).toArray:=by
  apply Array.ext_getElem?
  intro i
  by_cases hi:i<256
  · rw[zeV _ _ hi,if_neg (by omega),List.getElem?_toArray,List.getElem?_replicate,if_pos hi];rfl
  · rw[Array.getElem?_eq_none (by rw[zc1];omega),Array.getElem?_eq_none (by rw[List.size_toArray,List.length_replicate];omega)]
theorem zsu:∀ W,(zeroValue 228).run Tryz.prog W=.ok (.agg (zj6 0)) W:=fun W=>by rw[zse];kernel_rfl
theorem zm8 (w:World) :
    Calls Tryz.prog 130 #[.func (.func 131) #[] #[]] w fun e w'=>e=.returned (.agg (zj6 256))∧Below w.heap.size w w':=by
  have hz:=zsu;obtain⟨Z,hZ⟩:∃ Z,zj6 0=Z:=⟨_,rfl⟩;rw[hZ] at hz;have HZ:=Lib.hid hZ;clear hZ;have hen:=zin;unfold Enters at hen
  go_enter Tryz.func130,Tryz.ntmps130
  go_wp2_with fail
  have hZb:(w.alloc (.cells Z 228)).heap[w.heap.size]?=some (.cells Z 228 (0,0)):=zae _ _ _ rfl
  go_loopw [4] (fun i wr=>∃ k:Nat,k≤256∧i=.int .i64 k∧Hid (wr.heap[w.heap.size]?=some (.cells (zj6 k) 228 (0,0)))∧Hid (Below w.heap.size w wr)) (fun i _=>257-(intOf i).toNat)
  case atStart=>exact⟨0,Nat.zero_le _,rfl,by rw[HZ.out];exact hZb,(Below.refl _ _).alloc (Nat.le_refl _) _⟩
  case round =>
    clear hZb;obtain⟨k,hk,rfl,Hh,HB⟩:=hrel
    by_cases hlt:k<256
    · have hc:=(zaa Hh.out k).trans (zeV _ _ hlt)
      have hfz:=zac Hh.out k;have hset:=Lib.hid (zaf Hh.out k (.int .u32 (zpp k:Nat)));have HT:=Lib.hid (zsv k hlt);have C:=Lib.hid (zmG k hlt wr);have hx0:(0:Int)≤(k:Int):=by omega
      have hxi:(k:Int)<256:=by omega
      generalize zpp k=t at *
      generalize (if k<k then t else 0)=u at *
      go_wp2_with fail
      refine C.out.mono ?_;rintro e w1 ⟨rfl,rfl⟩
      go_wp2_with fail
      go_roundw
      case rel=>exact⟨k+1,by omega,by go_num,by show _=_;rw[←HT.out];exact hset.out,HB.out.setCell (p:=⟨w.heap.size,_,none⟩) (Nat.le_refl _) _⟩
      case measure=>simp[intOf];omega
    · obtain rfl:k=256:=by omega
      obtain⟨S,hS⟩:∃ S,zj6 256=S:=⟨_,rfl⟩;rw[hS] at Hh;have HSS:=Lib.hid hS;have hSs:S.size=256:=by rw[←hS];exact zc1 _
      have hS1:S.all (·.oneCell')=true:=by rw[←hS];exact znE _
      have hi:(Tryz.prog.info? 228).map (·.size)=some S.size:=by rw[hSs];exact znL
      have Hi:=Lib.hid hi;have HS1:=Lib.hid hS1;clear hS hSs hi hS1
      go_wp2_with
        (first
          | (refine wpList_load_row rfl 228 _ rfl w.heap.size rfl _ S _ _ Hh.out Tryz.underlying228 rfl Hi.out ?_)
          | (refine zaT rfl 228 _ _ rfl w.heap.size S S _ rfl rfl Hh.out rfl Hi.out HS1.out ?_
             intro w2 hg2 hs2 hk2 hb2;have Hg2:=Lib.hid hg2;have HB2:=Lib.hid (hb2 _ _ (Nat.le_refl _) HB.out);clear hg2 hs2 hk2 hb2))
      refine bodyPost_ret (results_cell_row rfl _ _ w.heap.size _ S _ _ rfl Hg2.out Tryz.underlying228 rfl Hi.out) rfl ⟨by rw[HSS.out],HB2.out⟩
def zu4 (c:Nat):Nat:=4294967295 ^^^ c
theorem zmy (c:Nat) (h:c<4294967296):zu4 c<4294967296:=Nat.xor_lt_two_pow (n:=32) (by omega) h
theorem zpX (c:Nat) (h:c<4294967296):bits BinOp.xor IntKind.u32 IntKind.u32.max (c:Int)=((zu4 c:Nat):Int):=u32_xor_nat 4294967295 c (by omega) h
def zsS (c:Nat) (b:UInt8):Nat:=(c*256 % 4294967296) ^^^ zpp ((c / 16777216) ^^^ b.toNat)
theorem zq5 (c:Nat) (b:UInt8):zsS c b<4294967296:=Nat.xor_lt_two_pow (n:=32) (by omega) (zp4 _)
def zgz (c:Nat) (s:List UInt8):Nat:=zu4 (s.foldl zsS (zu4 c))
def zby (s:List UInt8):Nat:=zgz 0 s
theorem zja (s:List UInt8) (c:Nat) (h:c<4294967296):s.foldl zsS c<4294967296:=by
  induction s generalizing c with
  | nil=>exact h
  | cons b s ih=>exact ih _ (zq5 c b)
theorem zdE (s:List UInt8):zby s<4294967296:=zmy _ (zja s _ (zmy 0 (by omega)))
theorem zr6 (c0:Nat) (hc0:c0<4294967296) (s:ByteArray) (hs:s.size≤281474976710656) (w:World) :
    Calls Tryz.prog 72 #[.int .u32 (c0:Nat),.string s] w fun e w'=>e=.returned (.int .u32 (zgz c0 s.data.toList:Nat))∧Below w.heap.size w w':=by
  have CL:=Lib.hid (zm8 w);have hT1:=zc1 256;have hT2:∀ i,i<256→(zj6 256)[i]?=some (.int .u32 (zpp i:Nat)):=fun i hi=>by rw[zeV _ _ hi,if_pos hi]
  have hTi:(Tryz.prog.info? 228).map (·.size)=some (zj6 256).size:=by rw[hT1];exact znL
  have HT3:=Lib.hid (znE 256);obtain⟨Z,hZ⟩:∃ Z,zj6 0=Z:=⟨_,rfl⟩;generalize zj6 256=S at *
  have HT1:=Lib.hid hT1;have HT2:=Lib.hid hT2;have HTI:=Lib.hid hTi;clear hT1 hT2 hTi hZ
  go_enter Tryz.func72,Tryz.ntmps72
  go_wp2_with fail
  refine CL.out.mono ?_;rintro e w1 ⟨rfl,hB1⟩;have HB1:=Lib.hid hB1;clear hB1 CL;have hz1:=HB1.out.size;have hzc:(w1.alloc (.cells Tryz.zeroCells228 228)).heap[w1.heap.size]?=some (.cells Tryz.zeroCells228 228 (0,0)):=zae _ _ _ rfl;have hzs:Tryz.zeroCells228.size=S.size:=by rw[HT1.out];kernel_rfl
  have HZC:=Lib.hid hzc;have HZS:=Lib.hid hzs;have HBA:Hid (Below w.heap.size w (w1.alloc (.cells Tryz.zeroCells228 228))):=HB1.out.alloc hz1 _;clear hzc hzs
  go_wp2_with
    (refine zaT rfl 228 _ _ rfl w1.heap.size S _ _ rfl rfl HZC.out HZS.out HTI.out HT3.out ?_
     intro w2 hg2 hs2 hk2 hb2;have Hg2:=Lib.hid hg2;have HB2:=Lib.hid (hb2 _ _ hz1 HBA.out);clear hg2 hs2 hk2 hb2)
  obtain⟨n0,hn0⟩:∃ n0,zu4 c0=n0:=⟨_,rfl⟩;have hn0l:n0<4294967296:=by rw[←hn0];exact zmy c0 hc0
  have HN0:=Lib.hid hn0;have HNI:=Lib.hid (zpX c0 hc0);rw[hn0] at HNI;clear hn0
  go_loopw [0,6,12] (fun cv u iv wr=>∃ k c:Nat,k≤s.size∧c<4294967296∧iv=.int .i64 k∧cv=.int .u32 (c:Nat)∧Hid (c=(s.data.toList.take k).foldl zsS n0)∧Hid (wr=w2)) (fun _ _ iv _=>s.size+1-(intOf iv).toNat)
  case atStart=>exact⟨0,n0,by omega,hn0l,rfl,by rw[HNI.out],rfl,rfl⟩
  case round =>
    obtain⟨k,c,hk,hc,rfl,rfl,HC,HW⟩:=hrel;have hw:wr=w2:=HW;subst hw
    by_cases hlt:k<s.size
    · obtain⟨b,hb⟩:∃ b,s[k]=b:=⟨_,rfl⟩
      have hbl:b.toNat<256:=UInt8.toNat_lt b;obtain⟨j,hj⟩:∃ j,(c / 16777216) ^^^ b.toNat=j:=⟨_,rfl⟩;have hjl:j<256:=by rw[←hj];exact Nat.xor_lt_two_pow (n:=8) (by omega) hbl
      have hx:bits BinOp.xor IntKind.u8 ((c:Int) / 16777216) (s[k].toNat:Int)=(j:Int):=by
        have:=u8_xor_nat (c / 16777216) b.toNat (by omega) hbl
        rw[hj] at this;rw[hb,←this];congr 1
      have hcell:=(zaa Hg2.out j).trans (HT2.out j hjl);have htl:=zp4 j
      have hts:s.data.toList.take (k+1)=s.data.toList.take k++[b]:=by
        rw[List.take_succ_eq_append_getElem (by simpa using hlt),←hb];rfl
      have HS:Hid ((s.data.toList.take (k+1)).foldl zsS n0=zsS c b):=by
        show _=_
        rw[hts,List.foldl_append,←HC.out];rfl
      have hcl:=zq5 c b
      have hx2:bits BinOp.xor IntKind.u32 ((c:Int)*256 % 4294967296) (zpp j:Int)=((zsS c b:Nat):Int):=by
        have:=u32_xor_nat (c*256 % 4294967296) (zpp j) (by omega) htl
        unfold zsS;rw[hj,←this];congr 1
      generalize zpp j=t at *
      generalize zsS c b=c2 at *
      have hj0:(0:Int)≤(j:Int):=by omega
      have hji:(j:Int)<256:=by omega
      clear hb hj hts
      go_wp2_with fail
      go_roundw
      case rel=>exact⟨k+1,c2,by omega,hcl,by go_num,rfl,HS.out.symm,by first | rfl | exact True.intro⟩
      case measure=>simp[intOf];omega
    · obtain rfl:k=s.size:=by omega
      have hfin:Hid (zu4 c=zgz c0 s.data.toList):=by
        show _=_
        unfold zgz;rw[HN0.out,HC.out,List.take_of_length_le (by simp)]
      have HF:=Lib.hid (zpX c hc)
      go_wp2_with fail
      go_ret
      exact⟨by rw[HF.out,hfin.out];rfl,HB2.out⟩
theorem zf3 (s:ByteArray) (hs:s.size≤281474976710656) (w:World) :
    Calls Tryz.prog 22 #[.string s] w fun e w'=>e=.returned (.int .u32 (zby s.data.toList:Nat))∧Below w.heap.size w w':=by
  have C:=Lib.hid (zr6 0 (by omega) s hs w)
  go_enter Tryz.func22,Tryz.ntmps22
  go_wp2_with fail
  refine C.out.mono ?_;rintro e w1 ⟨rfl,hB⟩
  go_wp2_with fail
  go_ret
  exact⟨rfl,hB⟩
end Go.Proofs.YtoejfkeofbdalaaGreatDoor
