import Derived.Test.YtoejfkeofbdalaaGreatDoorM11
set_option linter.unusedVariables false
set_option maxRecDepth 100000
set_option maxHeartbeats 8000000
namespace Go.Proofs.YtoejfkeofbdalaaGreatDoor
open Go.RowKit
theorem zgZ (k:Nat):((2:Int) ^ k)=((2 ^ k:Nat):Int):=by push_cast;rfl
def zdU (l:List Nat):Nat:=(l.map fun x=>2 ^ (20-x)).sum
def zaH (l:List Nat):Nat→Nat
  | 0=>0
  | k+1=>2*zaH l k+l.count (k+1)
def zoR (l:List Nat):Prop:=∀ x∈l,1≤x∧x≤20
theorem zpV (k:Nat):zaH [] k=0:=by
  induction k with
  | zero=>rfl
  | succ k ih=>rw[zaH,ih];rfl
theorem zo1 (x:Nat) (l:List Nat) (hx:1≤x) (k:Nat):zaH (x::l) k=zaH l k+if x≤k then 2 ^ (k-x) else 0:=by
  induction k with
  | zero=>rw[if_neg (by omega)];rfl
  | succ k ih =>
    rw[zaH,zaH,ih,List.count_cons]
    by_cases h:x≤k
    · have h2:(x == k+1)=false:=by rw[beq_eq_false_iff_ne];omega
      have h4:x≤k+1:=by omega
      rw[if_pos h,if_pos h4,show k+1-x=(k-x)+1 by omega,Nat.pow_succ]
      simp only[h2,Bool.false_eq_true,if_false];omega
    · by_cases h3:x=k+1
      · subst h3
        rw[if_neg h,if_pos (Nat.le_refl _),Nat.sub_self];simp;omega
      · have h2:(x == k+1)=false:=by rw[beq_eq_false_iff_ne];omega
        have h4:¬ x≤k+1:=by omega
        rw[if_neg h,if_neg h4];simp only[h2,Bool.false_eq_true,if_false];omega
theorem zox (x:Nat) (l:List Nat):zdU (x::l)=2 ^ (20-x)+zdU l:=by simp[zdU]
theorem zho (l:List Nat) (h:zoR l):zaH l 20=zdU l:=by
  induction l with
  | nil=>exact zpV 20
  | cons x l ih =>
    have hx:=h x (by simp)
    rw[zo1 x l hx.1,zox,ih fun y hy=>h y (by simp[hy]),if_pos hx.2]
    omega
theorem ziy (l:List Nat) {j k:Nat} (hjk:j≤k) (h:2 ^ j<zaH l j):2 ^ k<zaH l k:=by
  induction hjk with
  | refl=>exact h
  | step _ ih=>rw[zaH,Nat.pow_succ];omega
theorem zgA (l:List Nat) (hf:zoR l) (hk:zdU l≤1048576) (k:Nat) (h:k≤20):zaH l k≤2 ^ k:=by
  rcases Nat.lt_or_ge (2 ^ k) (zaH l k) with h1 | h1
  · have:=ziy l h h1
    rw[zho l hf] at this;have e:(2:Nat) ^ 20=1048576:=by decide
    omega
  · exact h1
def zl8 (l:List Int):Prop:=∀ x∈l,1≤x∧x≤20
instance (l:List Int):Decidable (zl8 l):=inferInstanceAs (Decidable (∀ x∈l,1≤x∧x≤20))
instance (l:List Nat):Decidable (zoR l):=inferInstanceAs (Decidable (∀ x∈l,1≤x∧x≤20))
def zdN (l:List Int):Int :=
  if l.length<2∨258<l.length∨¬ zl8 l then 1 else if 1048576<zdU (l.map Int.toNat) then 6 else 0
theorem zfZ (l:List Nat):zl8 (ints l)↔zoR l:=by
  unfold zl8 zoR ints
  constructor
  · intro h x hx
    have:=h (x:Int) (List.mem_map.2 ⟨x,hx,rfl⟩);omega
  · intro h x hx
    obtain⟨y,hy,rfl⟩:=List.mem_map.1 hx;have:=h y hy;omega
theorem zn3 (l:List Nat):(ints l).map Int.toNat=l:=by
  unfold ints;rw[List.map_map];have:(Int.toNat ∘ fun a:Nat=>(a:Int))=id:=by funext x;simp
  rw[this,List.map_id]
theorem zop (l:List Int) (h:∀ x∈l,0≤x):ints (l.map Int.toNat)=l:=by
  unfold ints;rw[List.map_map]
  have:l.map ((fun a:Nat=>(a:Int)) ∘ Int.toNat)=l.map id:=List.map_congr_left fun x hx=>by
    have:=h x hx;simp only[Function.comp,id];omega
  rw[this,List.map_id]
theorem zlS (l:List Nat):zdN (ints l)=if l.length<2∨258<l.length∨¬ zoR l then 1 else if 1048576<zdU l then 6 else 0:=by
  unfold zdN;rw[zad,zn3]
  by_cases h:zoR l
  · have h2:=(zfZ l).2 h
    simp only[h2,h]
  · have h2:¬ zl8 (ints l):=fun h3=>h ((zfZ l).1 h3)
    simp only[h,h2,not_false_eq_true,or_true,if_true]
structure Code (l:List Nat):Prop where
  two:2≤l.length
  most:l.length≤258
  fits:zoR l
  room:zdU l≤1048576
theorem Code.ok {l:List Nat} (h:Code l):zdN (ints l)=0:=by
  rw[zlS,if_neg (by have:=h.two;have:=h.most;have:=h.fits;simp[*]),if_neg (by have:=h.room;omega)]
theorem zlO (w:World) (d:Nat) (a:Addr) (l c:Nat):(Op.equalIn (d+1) 67 (.slice (some a) l c) (.slice none 0 0)).run Tryz.prog w=.ok false w:=by
  simp[Op.equalIn,run_underlying zcY]
theorem zrI (w:World) (a:Addr) (l c:Nat):(Op.equal 67 (.slice (some a) l c) (.slice none 0 0)).run Tryz.prog w=.ok false w:=zlO w 9999 a l c
theorem zuZ (w:World) (a:Addr) (l c:Nat):(binOp .eql 67 (.slice (some a) l c) (.slice none 0 0)).run Tryz.prog w=.ok (.bool false) w:=by
  simp[binOp,zrI w a l c]
theorem zhE (w:World) (v:Value) (xs:List Int) (hv:IsInts w w.heap.size v xs) (h0:0<xs.length) (hl:xs.length≤1000000) :
    Calls Tryz.prog 78 #[v] w fun e w'=>∃ q c,e=.returned (.slice q xs.length c)∧OwnInts w' w.heap.size (.slice q xs.length c) xs∧Below w.heap.size w w':=by
  obtain⟨A,ca,rfl,hc1,hc2⟩:=hv.shape;obtain⟨g,o,rfl,hgb,hc⟩:=hv.at 0 h0;have HV:Hid (IsInts (w.alloc (.cells #[] 3)) (w.alloc (.cells #[] 3)).heap.size (.slice (some ⟨g,o,none⟩) xs.length ca) xs):=zwb hv ((Below.refl _ _).alloc (Nat.le_refl _) (.cells #[] 3));have HE:Hid (OwnInts (w.alloc (.cells #[] 3)) w.heap.size (.slice (some ⟨w.heap.size,0,none⟩) 0 0) []):=OwnInts.new w w.heap.size [] #[] _ _ rfl rfl rfl (by simp[maxLen]) (Nat.le_refl _)
  obtain⟨N,hN⟩:∃ N,xs.length=N:=⟨_,rfl⟩;rw[hN] at HV hc1 hl ⊢;have HN:=Lib.hid hN;have hnil:∀ W,(binOp .eql 67 (.slice (some ⟨g,o,none⟩) N ca) (.slice none 0 0)).run Tryz.prog W=.ok (.bool false) W:=fun W=>zuZ W _ _ _;clear hv hc hN h0
  go_enter Tryz.func78,Tryz.ntmps78
  go_wp2_with
    (at_builtin
     refine zar rfl _ _ rfl w.heap.size _ [] rfl HE.out _ _ xs rfl HV.out (by rw[HN.out];simp;omega) (by simp) ?_
     intro q c w1 hown hg hat;rw[show ([]:List Int).length+xs.length=N by rw[HN.out];exact Nat.zero_add _] at hown ⊢
     rw[List.nil_append] at hown;have Hown:=Lib.hid hown;have HB:Hid (Below w.heap.size w w1):=zwm hg ((Below.refl _ _).alloc (Nat.le_refl _) _) (fun k hk=>zaF HE.out hk);clear hown hg hat)
  go_ret
  exact⟨q,c,rfl,Hown.out,HB.out⟩
def zpo (n:Int):Bool:=decide (1≤n) && decide (n≤20)
def zom (n:Int):Bool:=decide (2≤n) && decide (n≤258)
def zdk (now n:Nat):List Bool:=(List.replicate (n-now) [true,false]).flatten++(List.replicate (now-n) [true,true]).flatten++[false]
def zeN:Nat→List Nat→List Bool
  | _,[]=>[]
  | now,n::ns=>zdk now n++zeN n ns
def zbc (l:List Nat):List Bool:=B.low (l.headD 0) 5++zeN (l.headD 0) l
theorem zjd {now n:Nat} (h:now<n):zdk now n=[true,false]++zdk (now+1) n:=by
  unfold zdk;rw[show n-now=(n-(now+1))+1 by omega,List.replicate_succ,List.flatten_cons,show now-n=0 by omega,show now+1-n=0 by omega]
  simp
theorem zfT {now n:Nat} (h:n<now):zdk now n=[true,true]++zdk (now-1) n:=by
  unfold zdk;rw[show now-n=(now-1-n)+1 by omega,List.replicate_succ,List.flatten_cons,show n-now=0 by omega,show n-(now-1)=0 by omega]
  simp
theorem zd8 (n:Nat):zdk n n=[false]:=by
  unfold zdk;simp
theorem zbY (now n:Nat):(zdk now n).length=2*(n-now)+2*(now-n)+1:=by
  simp[zdk];omega
theorem zlC (l:List Nat):∀ now,now≤20→(∀ n∈l,n≤20)→(zeN now l).length≤41*l.length:=by
  induction l with
  | nil=>intro now _ _;simp[zeN]
  | cons n l ih =>
    intro now h hl;have h1:=hl n (by simp)
    have:=ih n h1 (fun m hm=>hl m (by simp[hm]))
    have h2:=zbY now n;simp only[zeN,List.length_append,List.length_cons];omega
theorem zfa (l:List Nat) (hl:∀ n∈l,n≤20):(zbc l).length≤41*l.length+5:=by
  unfold zbc
  have h0:l.headD 0≤20:=by
    cases l with
    | nil=>simp
    | cons a l=>exact hl a (by simp)
  have:=zlC l (l.headD 0) h0 hl;rw[List.length_append,B.length_low];omega
theorem Env.set2 {w0 W:World} {k:Nat} {a b:Value} {t:TypeId} {bs:List (Nat × Array Value × TypeId)} (h:Env w0 W [] ((k,#[a,b],t)::bs)) (hk:w0.heap.size≤k) (hbs:∀ p∈bs,p.1≠k) (a' b':Value) :
    Env w0 ((W.setCell ⟨k,0,none⟩ a').setCell ⟨k,1,none⟩ b') [] ((k,#[a',b'],t)::bs):=by
  refine⟨⟨(h.bel.setCell (p:=⟨k,0,none⟩) hk a').setCell (p:=⟨k,1,none⟩) hk b',fun p hp=>by simp at hp⟩,fun p hp=>?_⟩
  have h0:=h.blk 0 rfl;have h1:=zaf h0 0 a';have h2:=zaf h1 1 b';rcases List.mem_cons.1 hp with rfl | hp
  · simpa using h2
  · rw[Below.heap_setCell _ _ _ _ (hbs p hp),Below.heap_setCell _ _ _ _ (hbs p hp)]
    exact h.2 p (by simp[hp])
theorem zmP (n:Int) (W:World):Calls Tryz.prog 89 #[.int .i64 n] W fun e w'=>e=.returned (.bool (zpo n))∧W=w':=by
  unfold zpo;rcases h1:decide (1≤n) with _ | _ <;> rcases h2:decide (n≤20) with _ | _ <;>
  · go_enter Tryz.func89,Tryz.ntmps89
    go_wp2
    go_ret
    exact⟨rfl,rfl⟩
theorem zne (n:Int) (W:World):Calls Tryz.prog 87 #[.int .i64 n] W fun e w'=>e=.returned (.bool (zom n))∧W=w':=by
  unfold zom;rcases h1:decide (2≤n) with _ | _ <;> rcases h2:decide (n≤258) with _ | _ <;>
  · go_enter Tryz.func87,Tryz.ntmps87
    go_wp2
    go_ret
    exact⟨rfl,rfl⟩
theorem zqn (n:Int) (W:World):Calls Tryz.prog 88 #[.int .i64 n] W fun e w'=>e=.returned (.bool (!zpo n))∧W=w':=by
  have C:=Lib.hid (zmP n);generalize zpo n=b at *
  go_enter Tryz.func88,Tryz.ntmps88
  go_wp2_with fail
  refine (C.out _).mono ?_;rintro e w1 ⟨rfl,rfl⟩
  go_wp2_with fail
  go_ret
  exact⟨rfl,rfl⟩
theorem zlI:Enters Tryz.prog 88:=enters_of Tryz.func88 (by kernel_rfl) rfl
def zqM (n:Int):Bool:=!zpo n
theorem zpx (ns:List Nat) (j n:Nat) (h:ns[j]?=some n):(ints ns)[j]?.getD 0=(n:Int):=by simp[ints,h]
theorem zgh (w:World) (v:Value) (ns:List Nat) (hv:IsInts w w.heap.size v (ints ns)) (hl2:2≤ns.length) (hl3:ns.length≤258) (hn:∀ n∈ns,1≤n∧n≤20) :
    Calls Tryz.prog 28 #[v] w fun e w'=>e=.returned (.tuple #[.agg #[.string (txt (zbc ns)),.int .i64 ((zbc ns).length:Nat)],.int .i64 0])∧Below w.heap.size w w':=by
  obtain⟨A,ca,rfl,hc1,hc2⟩:=hv.shape;obtain⟨g,o,rfl,hg,hx0⟩:=hv.at 0 (by rw[zad];omega)
  have CF:Hid (∀ W,Env w W [] [(w.heap.size,#[.string ⟨#[]⟩,.int .i64 0],50)]→Calls Tryz.prog 82 #[.slice (some ⟨g,o,none⟩) ns.length ca,.func (.func 88) #[] #[]] W fun e w'=>e=.returned (.bool false)∧Below W.heap.size W w'):=fun W hE=>by
    have h:=zaO W _ (ints ns) zqM 88 #[] zlI (hE.old hv) (by rw[zad];omega) (fun x _ W' _=>zqn x W')
    rw[zad] at h
    have hf:(ints ns).any zqM=false:=by
      rw[List.any_eq_false];intro x hx;simp only[ints,List.mem_map] at hx;obtain⟨a,ha,rfl⟩:=hx;have:=hn a ha;simp[zqM,zpo];omega
    rw[hf] at h;exact h
  obtain⟨a0,ha0⟩:∃ a,ns[0]?=some a:=⟨_,List.getElem?_eq_getElem (by omega)⟩
  have hb0:1≤a0∧a0≤20:=hn a0 (List.mem_of_getElem? ha0);rw[zpx ns 0 a0 ha0] at hx0
  have hT:zbc ns=B.low a0 5++zeN a0 (ns.drop 0):=by
    cases ns with
    | nil=>simp at ha0
    | cons a l =>
      have:a=a0:=by simpa using ha0
      subst this;simp[zbc]
  have hTl:(zbc ns).length≤20000:=by
    have:=zfa ns (fun n h=>(hn n h).2);omega
  obtain⟨T,hTe⟩:∃ T,zbc ns=T:=⟨_,rfl⟩;rw[hTe] at hT hTl ⊢;obtain⟨N,hN⟩:∃ N,ns.length=N:=⟨_,rfl⟩;rw[zad] at hv hc1 ⊢;have Hv:=Lib.hid hv;rw[hN] at CF hc1 hl2 hl3 Hv ⊢
  have CM:Hid (∀ W,Calls Tryz.prog 87 #[.int .i64 (N:Nat)] W fun e w'=>e=.returned (.bool true)∧W=w'):=fun W=>by
    have:=zne (N:Nat) W;rw[show zom (N:Nat)=true by simp[zom];omega] at this
    exact this
  obtain⟨l0,hl0⟩:∃ l,B.low a0 5=l:=⟨_,rfl⟩;have CP0:Hid (∀ W,Calls Tryz.prog 19 #[.agg #[.string ⟨#[]⟩,.int .i64 0],.int .u64 a0,.int .i64 5] W fun e w'=>e=.returned (.tuple #[.agg #[.string (txt l0),.int .i64 (l0.length:Nat)],.int .i64 0])∧Below W.heap.size W w'):=fun W=>zg5 W a0 5 l0 hl0 (by omega) (by omega)
  have CPu:Hid (∀ W (l r:List Bool),l++[true,false]=r→l.length≤20000→Calls Tryz.prog 19 #[.agg #[.string (txt l),.int .i64 (l.length:Nat)],.int .u64 2,.int .i64 2] W fun e w'=>e=.returned (.tuple #[.agg #[.string (txt r),.int .i64 (r.length:Nat)],.int .i64 0])∧Below W.heap.size W w'):=fun W l r hr h=>ziT W l 2 2 r hr (by omega) (by omega) (by omega)
  have CPd:Hid (∀ W (l r:List Bool),l++[true,true]=r→l.length≤20000→Calls Tryz.prog 19 #[.agg #[.string (txt l),.int .i64 (l.length:Nat)],.int .u64 3,.int .i64 2] W fun e w'=>e=.returned (.tuple #[.agg #[.string (txt r),.int .i64 (r.length:Nat)],.int .i64 0])∧Below W.heap.size W w'):=fun W l r hr h=>ziT W l 3 2 r hr (by omega) (by omega) (by omega)
  have CPe:Hid (∀ W (l r:List Bool),l++[false]=r→l.length≤20000→Calls Tryz.prog 19 #[.agg #[.string (txt l),.int .i64 (l.length:Nat)],.int .u64 0,.int .i64 1] W fun e w'=>e=.returned (.tuple #[.agg #[.string (txt r),.int .i64 (r.length:Nat)],.int .i64 0])∧Below W.heap.size W w'):=fun W l r hr h=>ziT W l 0 1 r hr (by omega) (by omega) (by omega)
  have hwr:IntKind.u64.wrap (a0:Int)=(a0:Int):=IntWalk.u64_in _ (by omega)
  have HN:=Lib.hid hN;have Hn:=Lib.hid hn;have HT:=Lib.hid hT;have E0:=Lib.hid ((Env.nil w).box #[.string ⟨#[]⟩,.int .i64 0] 50 _ rfl);rw[hl0] at HT;clear hv hN hn hT hTe ha0 hl0
  go_enter Tryz.func28,Tryz.ntmps28
  go_wp2_with fail
  refine (CM.out _).mono ?_;rintro e w1 ⟨rfl,rfl⟩
  go_wp2_with fail
  refine (CF.out _ E0.out).mono ?_;rintro e w1 ⟨rfl,hB⟩;have E1:=Lib.hid (E0.out.step hB);have k00:w1.cell? ⟨w.heap.size,0,none⟩=some (.string ⟨#[]⟩):=E1.out.cellv 0 rfl 0 _ rfl;have k01:w1.cell? ⟨w.heap.size,1,none⟩=some (.int .i64 0):=E1.out.cellv 0 rfl 1 _ rfl;have kx:w1.cell? ⟨g,o,none⟩=some (.int .i64 a0):=(E1.out.bel.cell (p:=⟨g,o,none⟩) hg).trans hx0;have x0:w.heap.size<w1.heap.size:=E1.out.lt 0 rfl;clear hB E0 CF CM
  go_wp2_with fail
  refine (CP0.out _).mono ?_;rintro e w2 ⟨rfl,hB⟩;have E2:=Lib.hid (E1.out.step hB);have k00:w2.cell? ⟨w.heap.size,0,none⟩=some (.string ⟨#[]⟩):=E2.out.cellv 0 rfl 0 _ rfl;have k01:w2.cell? ⟨w.heap.size,1,none⟩=some (.int .i64 0):=E2.out.cellv 0 rfl 1 _ rfl;have f00:w2.frozen? ⟨w.heap.size,0,none⟩=false:=E2.out.frozen 0 rfl 0;have f01:w2.frozen? ⟨w.heap.size,1,none⟩=false:=E2.out.frozen 0 rfl 1;have x0:w.heap.size<w2.heap.size:=E2.out.lt 0 rfl;have E3:=Lib.hid (E2.out.set2 (Nat.le_refl _) (by simp) (.string (txt l0)) (.int .i64 (l0.length:Nat)))
  clear hB E1 CP0
  go_wp2_with fail
  go_loopw [4,28] (fun nv iv wr=>∃ (j a:Nat) (l:List Bool),j≤N∧a≤20∧nv=.int .i64 a∧iv=.int .i64 j∧l++zeN a (ns.drop j)=T∧Env w wr [] [(w.heap.size,#[.string (txt l),.int .i64 (l.length:Nat)],50)]) (fun _ iv _=>N+1-(intOf iv).toNat)
  case atStart=>exact⟨0,a0,l0,by omega,by omega,rfl,rfl,HT.out.symm,E3.out⟩
  case round =>
    obtain⟨j,a,l,hj,ha,rfl,rfl,hl,hE⟩:=hrel;have E4:=Lib.hid hE;have k00:wr.cell? ⟨w.heap.size,0,none⟩=some (.string (txt l)):=E4.out.cellv 0 rfl 0 _ rfl;have k01:wr.cell? ⟨w.heap.size,1,none⟩=some (.int .i64 (l.length:Nat)):=E4.out.cellv 0 rfl 1 _ rfl;have x0:w.heap.size<wr.heap.size:=E4.out.lt 0 rfl;clear hE E3 f00 f01
    by_cases hlt:j<N
    · obtain⟨n,hnj⟩:∃ n,ns[j]?=some n:=⟨_,List.getElem?_eq_getElem (by rw[HN.out];exact hlt)⟩
      obtain⟨g',o',he,hg',hx⟩:=Hv.out.at j (by rw[zad,HN.out];exact hlt)
      obtain⟨rfl,rfl⟩:g=g'∧o=o':=by
        injection he with he
        injection he with h1 h2
        exact⟨h1,h2⟩
      rw[zpx ns j n hnj] at hx;have hx':wr.cell? ⟨g,o+j,none⟩=some (.int .i64 (n:Int)):=(E4.out.bel.cell (p:=⟨g,o+j,none⟩) hg).trans hx;have hb:=Hn.out n (List.mem_of_getElem? hnj)
      have hd:ns.drop j=n::ns.drop (j+1):=by
        obtain⟨hlt',e⟩:=List.getElem?_eq_some_iff.1 hnj;rw[List.drop_eq_getElem_cons hlt',e]
      rw[hd,zeN] at hl;obtain⟨R,hR⟩:∃ R,zeN n (ns.drop (j+1))=R:=⟨_,rfl⟩;rw[hR] at hl;have HR:=Lib.hid hR;have Hl:=Lib.hid hl;clear hx hd hR hl he hg' hnj
      go_wp2_with fail
      go_loopw [4] (fun nv wx=>∃ (a:Nat) (l:List Bool),a≤20∧nv=.int .i64 a∧l++(zdk a n++R)=T∧Env w wx [] [(w.heap.size,#[.string (txt l),.int .i64 (l.length:Nat)],50)]) (fun nv _=>21-(intOf nv).toNat)
      case atStart=>exact⟨a,l,by omega,rfl,Hl.out,E4.out⟩
      case round =>
        clear k00 k01 x0 Hl E4 ha;obtain⟨a,l,ha,rfl,hl,hE⟩:=hrel
        have hlen:l.length≤20000:=by
          have:=congrArg List.length hl;rw[List.length_append] at this;omega
        have E4:=Lib.hid hE;have k00:wr.cell? ⟨w.heap.size,0,none⟩=some (.string (txt l)):=E4.out.cellv 0 rfl 0 _ rfl;have k01:wr.cell? ⟨w.heap.size,1,none⟩=some (.int .i64 (l.length:Nat)):=E4.out.cellv 0 rfl 1 _ rfl;have x0:w.heap.size<wr.heap.size:=E4.out.lt 0 rfl;clear hE
        by_cases hc:a<n
        · obtain⟨r,hr⟩:∃ r,l++[true,false]=r:=⟨_,rfl⟩
          have HL:=Lib.hid (show r++(zdk (a+1) n++R)=T by rw[←hr,←hl,zjd hc];simp)
          have Hr:=Lib.hid hr;clear hl hr
          go_wp2_with fail
          refine (CPu.out _ l r Hr.out (by omega)).mono ?_
          rintro e w5 ⟨rfl,hB⟩;have F1:=Lib.hid (E4.out.step hB);have k00:w5.cell? ⟨w.heap.size,0,none⟩=some (.string (txt l)):=F1.out.cellv 0 rfl 0 _ rfl;have k01:w5.cell? ⟨w.heap.size,1,none⟩=some (.int .i64 (l.length:Nat)):=F1.out.cellv 0 rfl 1 _ rfl;have x0:w.heap.size<w5.heap.size:=F1.out.lt 0 rfl;have f00:w5.frozen? ⟨w.heap.size,0,none⟩=false:=F1.out.frozen 0 rfl 0;have f01:w5.frozen? ⟨w.heap.size,1,none⟩=false:=F1.out.frozen 0 rfl 1;have F2:=Lib.hid (F1.out.set2 (Nat.le_refl _) (by simp) (.string (txt r)) (.int .i64 (r.length:Nat)))
          clear hB F1 E4
          go_wp2_with fail
          go_roundw
          case rel=>exact⟨a+1,r,by omega,by go_num,HL.out,F2.out⟩
          case measure=>simp[intOf];omega
        · have HL:=Lib.hid hl
          have hna:n≤a:=by omega
          have hd:decide (a<n)=false:=by simp;omega
          clear hl hc
          go_wp2_with fail
          go_loopw [4] (fun nv wx=>∃ (a:Nat) (l:List Bool),a≤20∧n≤a∧nv=.int .i64 a∧l++(zdk a n++R)=T∧Env w wx [] [(w.heap.size,#[.string (txt l),.int .i64 (l.length:Nat)],50)]) (fun nv _=>(intOf nv).toNat)
          case atStart=>exact⟨a,l,by omega,hna,rfl,HL.out,E4.out⟩
          case round =>
            clear k00 k01 x0 HL E4 ha hna hlen;obtain⟨a,l,ha,hna,rfl,hl,hE⟩:=hrel
            have hlen:l.length≤20000:=by
              have:=congrArg List.length hl;rw[List.length_append] at this;omega
            have E4:=Lib.hid hE;have k00:wr.cell? ⟨w.heap.size,0,none⟩=some (.string (txt l)):=E4.out.cellv 0 rfl 0 _ rfl;have k01:wr.cell? ⟨w.heap.size,1,none⟩=some (.int .i64 (l.length:Nat)):=E4.out.cellv 0 rfl 1 _ rfl;have x0:w.heap.size<wr.heap.size:=E4.out.lt 0 rfl;clear hE
            by_cases hc:n<a
            · obtain⟨r,hr⟩:∃ r,l++[true,true]=r:=⟨_,rfl⟩
              have HL:=Lib.hid (show r++(zdk (a-1) n++R)=T by rw[←hr,←hl,zfT hc];simp)
              have Hr:=Lib.hid hr;clear hl hr
              go_wp2_with fail
              refine (CPd.out _ l r Hr.out (by omega)).mono ?_
              rintro e w5 ⟨rfl,hB⟩;have F1:=Lib.hid (E4.out.step hB);have k00:w5.cell? ⟨w.heap.size,0,none⟩=some (.string (txt l)):=F1.out.cellv 0 rfl 0 _ rfl;have k01:w5.cell? ⟨w.heap.size,1,none⟩=some (.int .i64 (l.length:Nat)):=F1.out.cellv 0 rfl 1 _ rfl;have x0:w.heap.size<w5.heap.size:=F1.out.lt 0 rfl;have f00:w5.frozen? ⟨w.heap.size,0,none⟩=false:=F1.out.frozen 0 rfl 0;have f01:w5.frozen? ⟨w.heap.size,1,none⟩=false:=F1.out.frozen 0 rfl 1;have F2:=Lib.hid (F1.out.set2 (Nat.le_refl _) (by simp) (.string (txt r)) (.int .i64 (r.length:Nat)))
              clear hB F1 E4
              go_wp2_with fail
              go_roundw
              case rel=>exact⟨a-1,r,by omega,by omega,by go_num,HL.out,F2.out⟩
              case measure=>simp[intOf];omega
            · obtain rfl:a=n:=by omega
              obtain⟨r,hr⟩:∃ r,l++[false]=r:=⟨_,rfl⟩;have HL:=Lib.hid (show r++R=T by rw[←hr,←hl,zd8];simp)
              have Hr:=Lib.hid hr;clear hl hr
              go_wp2_with fail
              refine (CPe.out _ l r Hr.out (by omega)).mono ?_
              rintro e w5 ⟨rfl,hB⟩;have F1:=Lib.hid (E4.out.step hB);have k00:w5.cell? ⟨w.heap.size,0,none⟩=some (.string (txt l)):=F1.out.cellv 0 rfl 0 _ rfl;have k01:w5.cell? ⟨w.heap.size,1,none⟩=some (.int .i64 (l.length:Nat)):=F1.out.cellv 0 rfl 1 _ rfl;have x0:w.heap.size<w5.heap.size:=F1.out.lt 0 rfl;have f00:w5.frozen? ⟨w.heap.size,0,none⟩=false:=F1.out.frozen 0 rfl 0;have f01:w5.frozen? ⟨w.heap.size,1,none⟩=false:=F1.out.frozen 0 rfl 1;have F2:=Lib.hid (F1.out.set2 (Nat.le_refl _) (by simp) (.string (txt r)) (.int .i64 (r.length:Nat)))
              clear hB F1 E4
              go_wp2_with fail
              go_roundw
              case rel=>exact⟨j+1,a,r,by omega,by omega,rfl,by go_num,by rw[HR.out];exact HL.out,F2.out⟩
              case measure=>simp[intOf];omega
    · obtain rfl:j=N:=by omega
      have hlT:l=T:=by
        rw[List.drop_of_length_le (by rw[HN.out];exact Nat.le_refl _)] at hl
        simpa [zeN] using hl
      subst hlT;have f00:wr.frozen? ⟨w.heap.size,0,none⟩=false:=E4.out.frozen 0 rfl 0;have f01:wr.frozen? ⟨w.heap.size,1,none⟩=false:=E4.out.frozen 0 rfl 1;clear hl
      go_wp2_with fail
      refine bodyPost_ret (v:=.tuple #[.agg #[.string (txt l),.int .i64 (l.length:Nat)],.int .i64 0]) ?_ rfl ⟨rfl,(E4.out.set2 (Nat.le_refl _) (by simp) _ _).bel⟩
      simp[results,Tryz.results28,go_sem,k00,k01]
theorem zfl {l m:List Bool} {i:Nat} (h:i<l.length):(l++m).getD i false=l.getD i false:=by
  simp[List.getD_eq_getElem?_getD,List.getElem?_append_left h]
theorem zep {l m:List Bool} {i:Nat}:(l++m).getD (l.length+i) false=m.getD i false:=by
  simp[List.getD_eq_getElem?_getD,List.getElem?_append_right]
theorem zfr (l:List UInt8) (k i:Nat) (h:i<16):(zeS l k).getD i false=zfH l (16*k+i):=by simp[zeS,List.getD_eq_getElem?_getD,h]
theorem znO (l:List UInt8) (n k:Nat) (h:k<n):(zcg l n).getD k false=zbg l k:=by simp[zcg,List.getD_eq_getElem?_getD,h]
theorem zld (l:List UInt8) (k i n:Nat) (hk:k<n) (hi:i<16) (hs:zbg l k=true):(za0 l n).getD (16*zgW (zbg l) k+i) false=(zeS l k).getD i false:=by
  induction n with
  | zero=>omega
  | succ n ih =>
    rw[za0];have hl:=zcQ l n
    by_cases h:k=n
    · subst h
      rw[←hl,zep,hs,if_pos rfl]
    · have h1:=zrp (p:=zbg l) (show k<n by omega) hs
      rw[zfl (by omega)]
      exact ih (by omega)
theorem zh3 (l:List UInt8) (k:Nat) (h:k<16):(zgC l).getD k false=zbg l k:=by
  unfold zgC;rw[zfl (by rw[zbB];exact h),znO _ _ _ h]
theorem zjI (l:List UInt8) (k i:Nat) (hk:k<16) (hi:i<16) (hs:zbg l k=true):(zgC l).getD (16+16*zgW (zbg l) k+i) false=zfH l (16*k+i):=by
  unfold zgC;have:=zep (l:=zcg l 16) (m:=za0 l 16) (i:=16*zgW (zbg l) k+i);rw[zbB,←Nat.add_assoc] at this;rw[this,zld _ _ _ _ hk hi hs,zfr _ _ _ hi]
theorem zrD (l:List UInt8) (h:l≠[]):(List.range 16).any (zbg l)=true:=by
  cases l with
  | nil=>exact absurd rfl h
  | cons x l =>
    rw[List.any_eq_true];have hx:=x.toNat_lt;refine⟨x.toNat / 16,by rw[List.mem_range];omega,?_⟩
    rw[zto];simp
theorem zk8 (u:List UInt8) (a:Nat) (l:List UInt8) (h0:l≠[]) (hlen:a+(zgC l).length≤8*u.length) (hb:∀ i,i<(zgC l).length→B.bitAt u (a+i)=(zgC l).getD i false) :
    zen u a=.ok (zai l,a+(zgC l).length):=by
  have hml:=zhr l
  have hd:∀ k,k<16→hdU u a k=zbg l k:=fun k hk=>by
    unfold hdU;rw[hb k (by omega),zh3 _ _ hk]
  have hoff:∀ k,k≤16→zgt u a k=a+16+16*zgW (zbg l) k:=fun k hk=>by
    unfold zgt;rw[zn0 fun j hj=>hd j (by omega)]
  have hrow:∀ k,k<16→zbg l k=true→zlU u a k=zeS l k:=fun k hk hs=>by
    have hlt:=zrp (p:=zbg l) hk hs;unfold zlU;apply List.ext_getElem
    · rw[B.length_slice,zbx]
    · intro i h1 h2
      rw[B.length_slice] at h1;have e1:=B.getD_slice u (zgt u a k) 16 i h1;have e2:=zfr l k i h1;have e3:=hb (16+16*zgW (zbg l) k+i) (by omega)
      rw[zjI _ _ _ hk h1 hs,←Nat.add_assoc,←Nat.add_assoc,←hoff k (by omega)] at e3
      rw[e3,←e2] at e1;rw[List.getD_eq_getElem?_getD,List.getD_eq_getElem?_getD,List.getElem?_eq_getElem (by rw[B.length_slice];exact h1),List.getElem?_eq_getElem h2] at e1
      exact e1
  have hempty:zgX u a 16=false:=by
    unfold zgX;rw[List.any_eq_false];intro k hk;rw[List.mem_range] at hk;rw[hd k hk];cases hs:zbg l k with
    | false=>simp
    | true =>
      rw[hrow k hk hs];have:(zeS l k).any id=true:=hs;rw[this];simp
  have hany:(List.range 16).any (hdU u a)=true:=by
    rw[←zrD l h0];unfold List.any;rw[Bool.eq_iff_iff]
    show (List.range 16).any (hdU u a)=true↔(List.range 16).any (zbg l)=true
    rw[List.any_eq_true,List.any_eq_true]
    constructor
    · rintro⟨k,hk,h⟩
      exact⟨k,hk,by rw[←hd k (List.mem_range.1 hk)];exact h⟩
    · rintro⟨k,hk,h⟩
      exact⟨k,hk,by rw[hd k (List.mem_range.1 hk)];exact h⟩
  have hout:zaW (zt3 u a) 256=zai l:=zge fun c hc=>by
    have hq:c / 16<16:=by omega
    have hr:c % 16<16:=by omega
    have e:=zj1 u a (c / 16) (c % 16) hr;rw[show 16*(c / 16)+c % 16=c by omega,hd _ hq] at e
    rw[e];cases hs:zbg l (c / 16) with
    | true=>rw[hrow _ hq hs,zfr _ _ _ hr,show 16*(c / 16)+c % 16=c by omega];rfl
    | false =>
      have h2:(zeS l (c / 16)).any id=false:=hs;rw[List.any_eq_false] at h2;have h3:=zfr l (c / 16) (c % 16) hr;rw[show 16*(c / 16)+c % 16=c by omega] at h3
      rw[←h3]
      have h4:=h2 ((zeS l (c / 16)).getD (c % 16) false) (by
        rw[List.getD_eq_getElem?_getD,List.getElem?_eq_getElem (by rw[zbx];exact hr)]
        exact List.getElem_mem _)
      simpa using h4
  unfold zen;rw[hoff 16 (Nat.le_refl _),if_neg (by omega),hempty,hany,hout,show a+16+16*zgW (zbg l) 16=a+(zgC l).length by omega]
  rfl
def zfx (why:Int):List PanicEntry:=[{ v:=.iface 460 (.agg #[.int .i64 why]),recovered:=false }]
theorem zm9 (r:Value) (n:Int) (W:World) (h:zpo n=true):Calls Tryz.prog 335 #[r,.int .i64 n] W fun e w'=>e=.returned (.int .i64 n)∧W=w':=by
  have C:=Lib.hid (zmP n);rw[h] at C;clear h
  go_enter Tryz.func335,Tryz.ntmps335
  go_wp2_with fail
  refine (C.out _).mono ?_;rintro e w1 ⟨rfl,rfl⟩
  go_wp2_with fail
  go_ret
  exact⟨rfl,rfl⟩
theorem zlX (r:Value) (n:Int) (W:World) (h:zpo n=false):Calls Tryz.prog 335 #[r,.int .i64 n] W fun e w'=>e=.panicked (zfx 3)∧W=w':=by
  have C:=Lib.hid (zmP n);rw[h] at C;clear h
  go_enter Tryz.func335,Tryz.ntmps335
  go_wp2_with fail
  refine (C.out _).mono ?_;rintro e w1 ⟨rfl,rfl⟩
  go_wp2_with fail
  exact⟨rfl,rfl,rfl⟩
theorem zrw (w:World) (k:Nat) (s:ByteArray) (at0 n:Nat) (hE:w.heap[k]?=some (.cells #[.string s,.int .i64 at0] 463 (0,0))) (hs:s.size≤1099511627776) (hn:n≤5) (h:at0+n≤8*s.size) :
    Calls Tryz.prog 336 #[.pointer (some ⟨k,0,none⟩),.int .i64 n] w fun e w'=>e=.returned (.int .i64 (B.num (B.slice s.data.toList at0 n):Nat))∧∃ W,Below w.heap.size w W∧w'=W.setCell ⟨k,1,none⟩ (.int .i64 ((at0+n:Nat):Int)):=by
  have hl:s.data.toList.length=s.size:=by simp
  have G:Hid (∀ W,Calls Tryz.prog 231 #[.string s,.int .i64 at0,.int .i64 n] W fun e w'=>e=.returned (.tuple #[.int .u64 (B.num (B.slice s.data.toList at0 n):Nat),.int .i64 0])∧W=w'):=fun W=>by
    have:=zdW s at0 n W (by omega)
    rw[zhw _ at0 n (by omega) (by omega),zgY _ at0 n (by omega) (by omega)] at this
    exact this
  have hb:B.num (B.slice s.data.toList at0 n)<32:=by
    have h1:=B.num_lt (B.slice s.data.toList at0 n);rw[B.length_slice] at h1;exact Nat.lt_of_lt_of_le h1 (Nat.pow_le_pow_right (by omega) hn)
  generalize B.num (B.slice s.data.toList at0 n)=v at *
  have k0:w.cell? ⟨k,0,none⟩=some (.string s):=zaa hE 0;have k1:w.cell? ⟨k,1,none⟩=some (.int .i64 at0):=zaa hE 1;have f1:w.frozen? ⟨k,1,none⟩=false:=zac hE 1;have x0:k<w.heap.size:=zab hE;have hwr:IntKind.i64.wrap (v:Int)=(v:Int):=IntWalk.i64_in _ (by omega)
  clear hE hl
  go_enter Tryz.func336,Tryz.ntmps336
  go_wp2_with fail
  go_quiet ((go_at_call 231;exact zdO (G.out _)))
  go_wp2_with fail
  go_ret
  exact⟨rfl,w.drewN nq,below_drewN (Below.refl _ _) nq,by rw[Int.natCast_add]⟩
theorem ze3 (w:World) (k:Nat) (s:ByteArray) (at0 n:Nat) (hE:w.heap[k]?=some (.cells #[.string s,.int .i64 at0] 463 (0,0))) (hs:s.size≤1099511627776) (hat:at0≤9223372036854775807) (hn:n≤5) (h:8*s.size<at0+n) :
    Calls Tryz.prog 336 #[.pointer (some ⟨k,0,none⟩),.int .i64 n] w fun e w'=>e=.panicked (zfx 2)∧Below w.heap.size w w':=by
  have hl:s.data.toList.length=s.size:=by simp
  have G:Hid (∀ W,Calls Tryz.prog 231 #[.string s,.int .i64 at0,.int .i64 n] W fun e w'=>e=.returned (.tuple #[.int .u64 0,.int .i64 2])∧W=w'):=fun W=>by
    have:=zdW s at0 n W (by omega)
    rw[show zeO s.data.toList at0 n=2 by unfold zeO;rw[if_neg (by omega),if_pos (by rw[hl];omega)],show zd9 s.data.toList at0 n=0 by unfold zd9;rw[if_neg (by omega),if_pos (by rw[hl];omega)]] at this
    exact this
  have k0:w.cell? ⟨k,0,none⟩=some (.string s):=zaa hE 0;have k1:w.cell? ⟨k,1,none⟩=some (.int .i64 at0):=zaa hE 1;have x0:k<w.heap.size:=zab hE;clear hE hl
  go_enter Tryz.func336,Tryz.ntmps336
  go_wp2_with fail
  go_quiet ((go_at_call 231;exact zdO (G.out _)))
  go_wp2_with fail
  exact⟨rfl,rfl,below_drewN (Below.refl _ _) nq⟩
def zkj (w:World) (k:Nat) (s:ByteArray) (a:Nat):Prop:=w.heap[k]?=some (.cells #[.string s,.int .i64 (a:Nat)] 463 (0,0))
theorem zdX (w:World) (k:Nat) (s:ByteArray) (a n v:Nat) (hE:zkj w k s a) (hs:s.size≤1099511627776) (hn:n≤5) (h:a+n≤8*s.size) (hv:B.num (B.slice s.data.toList a n)=v) :
    Calls Tryz.prog 336 #[.pointer (some ⟨k,0,none⟩),.int .i64 n] w fun e w'=>e=.returned (.int .i64 (v:Nat))∧Only k w w'∧zkj w' k s (a+n):=by
  subst hv;have x0:k<w.heap.size:=zab hE;refine (zrw w k s a n hE hs hn h).mono ?_;rintro e w' ⟨rfl,W,hB,rfl⟩;refine⟨rfl,(Only.of hB).set _ _,?_⟩;have h1:W.heap[k]?=_:=(hB.block k x0).trans hE;have h2:=zaf h1 1 (.int .i64 ((a+n:Nat):Int));simpa [zkj] using h2
def zct (s:List UInt8):Nat→Nat→Nat→Except Int (Nat × Nat)
  | 0,_,_=>.error 2
  | f+1,n,a =>
    if 8*s.length<a+1 then .error 2
    else if B.bitAt s a=false then .ok (n,a+1)
    else if 8*s.length<a+1+1 then .error 2
    else if B.bitAt s (a+1) then (if 2≤n then zct s f (n-1) (a+2) else .error 3)
    else (if n≤19 then zct s f (n+1) (a+2) else .error 3)
def zv9 (k:Nat) (s:ByteArray) (r:Except Int (Nat × Nat)) (w:World) (e:Ending) (w':World):Prop :=
  match r with
  | .ok (m,b)=>e=.returned (.int .i64 (m:Nat))∧Only k w w'∧zkj w' k s b
  | .error c=>e=.panicked (zfx c)∧Only k w w'
theorem zlL (w:World) (k:Nat) (s:ByteArray) (a0 n0 F:Nat) (hE:zkj w k s a0) (hs:s.size≤1099511627776) (hn:1≤n0) (hn':n0≤20) (ha:a0≤9223372036854775000) (hF:8*s.size<a0+F) :
    Calls Tryz.prog 337 #[.pointer (some ⟨k,0,none⟩),.int .i64 n0] w fun e w'=>zv9 k s (zct s.data.toList F n0 a0) w e w':=by
  have hl:s.data.toList.length=s.size:=by simp
  obtain⟨r,hr⟩:∃ r,zct s.data.toList F n0 a0=r:=⟨_,rfl⟩;rw[hr];have HE:=Lib.hid hE;have HR:=Lib.hid hr;have HL:=Lib.hid hl;have x0:k<w.heap.size:=zab hE;clear hE hr hl
  go_enter Tryz.func337,Tryz.ntmps337
  go_wp2_with fail
  go_loopw [1] (fun nv wr=>∃ (n a f:Nat),1≤n∧n≤20∧nv=.int .i64 n∧zct s.data.toList f n a=r∧8*s.size<a+f∧a≤9223372036854775000∧f≤F∧Only k w wr∧zkj wr k s a ) (fun nv wr=>8*s.size+2-(intOf ((wr.cell? ⟨k,1,none⟩).getD (.bool false))).toNat)
  case atStart=>exact⟨n0,a0,F,hn,hn',rfl,HR.out,hF,ha,Nat.le_refl _,Only.refl _ _,HE.out⟩
  case round =>
    obtain⟨n,a,f,hn1,hn2,rfl,hrr,hf,ha1,hfF,hO,hRd⟩:=hrel;have HO:=Lib.hid hO;have HRd:=Lib.hid hRd;have hcell:wr.cell? ⟨k,1,none⟩=some (.int .i64 (a:Nat)):=zaa hRd 1;have Hcell:=Lib.hid hcell;obtain⟨f,rfl⟩ | rfl:(∃ g,f=g+1)∨f=0:=by cases f with | zero=>exact .inr rfl | succ g=>exact .inl ⟨g,rfl⟩
    rotate_left
    · have hre:r=.error 2:=hrr.symm
      subst hre;have C:=Lib.hid (ze3 wr k s a 1 hRd hs (by omega) (by omega) (by omega))
      clear hO hRd hcell hrr
      go_wp2_with fail
      refine C.out.mono ?_;rintro e w1 ⟨rfl,hB⟩
      go_wp2_with fail
      exact⟨rfl,rfl,HO.out.trans (Only.of hB)⟩
    rw[zct,HL.out] at hrr
    by_cases h1:8*s.size<a+1
    · rw[if_pos h1] at hrr
      subst hrr;have C:=Lib.hid (ze3 wr k s a 1 hRd hs (by omega) (by omega) (by omega))
      clear hO hRd hcell
      go_wp2_with fail
      refine C.out.mono ?_;rintro e w1 ⟨rfl,hB⟩
      go_wp2_with fail
      exact⟨rfl,rfl,HO.out.trans (Only.of hB)⟩
    rw[if_neg h1] at hrr;rcases hb:B.bitAt s.data.toList a with _ | _
    · rw[hb,if_pos rfl] at hrr
      subst hrr;have C:=Lib.hid (zdX wr k s a 1 0 hRd hs (by omega) (by omega) (by rw[zhV,hb];rfl))
      clear hO hRd hcell hb
      go_wp2_with fail
      refine C.out.mono ?_;rintro e w1 ⟨rfl,hO1,hR1⟩;have HO1:=Lib.hid hO1;have HR1:=Lib.hid hR1;clear hO1 hR1
      go_wp2_with fail
      go_ret
      exact⟨rfl,HO.out.trans HO1.out,HR1.out⟩
    rw[hb,if_neg (by simp)] at hrr
    have C:=Lib.hid (zdX wr k s a 1 1 hRd hs (by omega) (by omega) (by rw[zhV,hb];rfl))
    have Hrr:=Lib.hid hrr;clear hO hRd hcell hb hrr
    go_wp2_with fail
    refine C.out.mono ?_;rintro e w1 ⟨rfl,hO1,hR1⟩;have HO1:=Lib.hid (HO.out.trans hO1);have HR1:=Lib.hid hR1;have hrr:=Hrr.out;clear hO1 C HO HRd
    by_cases h2:8*s.size<a+1+1
    · rw[if_pos h2] at hrr
      subst hrr;have C:=Lib.hid (ze3 w1 k s (a+1) 1 hR1 hs (by omega) (by omega) (by omega))
      clear hR1
      go_wp2_with fail
      refine C.out.mono ?_;rintro e w2 ⟨rfl,hB⟩
      go_wp2_with fail
      exact⟨rfl,rfl,HO1.out.trans (Only.of hB)⟩
    rw[if_neg h2] at hrr;rcases hb:B.bitAt s.data.toList (a+1) with _ | _
    · rw[hb,if_neg (by simp)] at hrr
      have C:=Lib.hid (zdX w1 k s (a+1) 1 0 hR1 hs (by omega) (by omega) (by rw[zhV,hb];rfl))
      clear hR1 hb Hrr
      by_cases hm:n≤19
      · rw[if_pos hm] at hrr
        have HRR:=Lib.hid hrr;clear hrr
        go_wp2_with fail
        refine C.out.mono ?_;rintro e w2 ⟨rfl,hO2,hR2⟩;have HO2:=Lib.hid (HO1.out.trans hO2);have HR2:=Lib.hid hR2;clear hO2 hR2 C HO1 HR1
        go_wp2_with fail
        refine (zm9 _ _ _ (by simp[zpo];omega)).mono ?_
        rintro e w3 ⟨rfl,rfl⟩
        go_wp2_with fail
        go_roundw
        case rel=>exact⟨n+1,a+2,f,by omega,by omega,by go_num,HRR.out,by omega,by omega,by omega,HO2.out,HR2.out⟩
        case measure =>
          have hc2:w2.cell? ⟨k,1,none⟩=some (.int .i64 ((a+1+1:Nat):Int)):=zaa HR2.out 1;rw[hc2,Hcell.out];simp[intOf];omega
      · rw[if_neg hm] at hrr
        subst hrr
        go_wp2_with fail
        refine C.out.mono ?_;rintro e w2 ⟨rfl,hO2,hR2⟩;have HO2:=Lib.hid (HO1.out.trans hO2);clear hO2 hR2 C HO1 HR1
        go_wp2_with fail
        refine (zlX _ _ _ (by simp[zpo];omega)).mono ?_
        rintro e w3 ⟨rfl,rfl⟩
        go_wp2_with fail
        exact⟨rfl,rfl,HO2.out⟩
    · rw[hb,if_pos rfl] at hrr
      have C:=Lib.hid (zdX w1 k s (a+1) 1 1 hR1 hs (by omega) (by omega) (by rw[zhV,hb];rfl))
      clear hR1 hb Hrr
      by_cases hm:2≤n
      · rw[if_pos hm] at hrr
        have HRR:=Lib.hid hrr;clear hrr
        go_wp2_with fail
        refine C.out.mono ?_;rintro e w2 ⟨rfl,hO2,hR2⟩;have HO2:=Lib.hid (HO1.out.trans hO2);have HR2:=Lib.hid hR2;clear hO2 hR2 C HO1 HR1
        go_wp2_with fail
        refine (zm9 _ _ _ (by simp[zpo];omega)).mono ?_
        rintro e w3 ⟨rfl,rfl⟩
        go_wp2_with fail
        go_roundw
        case rel=>exact⟨n-1,a+2,f,by omega,by omega,by go_num,HRR.out,by omega,by omega,by omega,HO2.out,HR2.out⟩
        case measure =>
          have hc2:w2.cell? ⟨k,1,none⟩=some (.int .i64 ((a+1+1:Nat):Int)):=zaa HR2.out 1;rw[hc2,Hcell.out];simp[intOf];omega
      · rw[if_neg hm] at hrr
        subst hrr
        go_wp2_with fail
        refine C.out.mono ?_;rintro e w2 ⟨rfl,hO2,hR2⟩;have HO2:=Lib.hid (HO1.out.trans hO2);clear hO2 hR2 C HO1 HR1
        go_wp2_with fail
        refine (zlX _ _ _ (by simp[zpo];omega)).mono ?_
        rintro e w3 ⟨rfl,rfl⟩
        go_wp2_with fail
        exact⟨rfl,rfl,HO2.out⟩
end Go.Proofs.YtoejfkeofbdalaaGreatDoor
