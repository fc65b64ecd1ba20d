import Derived.Test.YtoejfkeofbdalaaGreatDoorM34
import Derived.Test.YtoejfkeofbdalaaGreatDoorM36
set_option linter.unusedVariables false
set_option maxRecDepth 100000
set_option maxHeartbeats 8000000
namespace Go.Proofs.YtoejfkeofbdalaaGreatDoor
open Go.RowKit
theorem zi5 (L:List (List Bool)) (c:Nat) (h:∀ l∈L,l.length≤c):L.flatten.length≤c*L.length:=by
  induction L with
  | nil=>simp
  | cons x L ih =>
    have h1:=h x List.mem_cons_self;have h2:=ih fun l hl=>h l (List.mem_cons_of_mem _ hl);rw[List.flatten_cons,List.length_append,List.length_cons,Nat.mul_succ];omega
theorem zjT (p:List UInt8):(zbk p).length≤p.length+1:=by
  unfold zbk;have:=zcv p;simp;omega
theorem zmh (m:List Nat) (n i:Nat):zk0 m n i<2:=by unfold zk0;split <;> omega
theorem zlJ (t p:List UInt8) (hp:p.length≤360) (hn:p≠[]):(zoY t p).length≤30000:=by
  have hA:=zaI p;have hA0:0<(zai p).length:=List.length_pos_iff.2 (zb1 hn);have hm:=zjT p;obtain⟨m,hme⟩:∃ m,zbk p=m:=⟨_,rfl⟩;obtain⟨n,hne⟩:∃ n,(zai p).length+2=n:=⟨_,rfl⟩;have hG:zbX m.length≤37:=by rw[←hme];simp only[zbX];omega
  obtain⟨G,hGe⟩:∃ G,zbX m.length=G:=⟨_,rfl⟩
  have h1:(zeE t p).flatten.length≤48+32+16+272+3+15+6*37:=by
    unfold zeE;have a1:=zh6 (zai p)
    have a2:=zwl 2 (by omega) (zal m n) (List.range 6) (zfK 2 (by omega)) (fun x hx=>by
      obtain⟨k,-,rfl⟩:=List.mem_map.1 hx;exact zmh m n k)
    have a3:(zal m n).length≤37:=by simp only[zal,List.length_map,List.length_range];omega
    rw[hme,hne];simp only[List.flatten_cons,List.flatten_nil,List.length_append,B.length_low,List.length_nil];omega
  have ht:∀ i,Code (za6 m n i)∧(za6 m n i).length=n:=fun i=>ziv m n i (by rw[←hme];omega) (by omega) (by omega)
  have h2:(zhm p).flatten.length≤10583*2:=by
    refine Nat.le_trans (zi5 _ 10583 ?_) ?_
    · intro l hl
      obtain⟨i,-,rfl⟩:=List.mem_map.1 hl;rw[hme,hne];have h1:=zfa (za6 m n i) fun x hx=>((ht i).1.fits x hx).2;have h2:=(ht i).2;omega
    · unfold zhm
      simp
  have h3:((List.range (zbX m.length)).map (zhn p)).flatten.length≤200*37:=by
    refine Nat.le_trans (zi5 _ 200 ?_) ?_
    · intro l hl
      obtain⟨i,-,rfl⟩:=List.mem_map.1 hl;unfold zhn;rw[hme,hne];refine Nat.le_trans (zes (ht _).1.fits _) ?_;have:=zbR m i;omega
    · rw[List.length_map,List.length_range]
      exact Nat.mul_le_mul_left _ hG
  unfold zoY zvK;rw[hme,List.flatten_append,List.flatten_append,List.length_append,List.length_append];omega
def Lies (u:List UInt8) (a:Nat) (X:List Bool):Prop:=a+X.length≤8*u.length∧B.slice u a X.length=X
theorem Lies.cut {u:List UInt8} {a:Nat} {X Y:List Bool} (h:Lies u a (X++Y)):Lies u a X∧Lies u (a+X.length) Y:=by
  obtain⟨h1,h2⟩:=h;rw[List.length_append] at h1 h2;rw[B.slice_append] at h2;have h3:=List.append_inj h2 (by rw[B.length_slice])
  exact⟨⟨by omega,h3.1⟩,⟨by omega,h3.2⟩⟩
theorem Lies.low {u:List UInt8} {a v n:Nat} (h:Lies u a (B.low v n)) (hv:v<2 ^ n):a+n≤8*u.length∧B.num (B.slice u a n)=v:=by
  obtain⟨h1,h2⟩:=h;rw[B.length_low] at h1 h2;exact⟨h1,by rw[h2,B.num_low,Nat.mod_eq_of_lt hv]⟩
theorem Lies.map {u l:List UInt8} {a:Nat} (h:Lies u a (zgC l)) (h0:l≠[]):zen u a=.ok (zai l,a+(zgC l).length):=by
  refine zk8 u a l h0 h.1 fun i hi=>?_;rw[←B.getD_slice u a _ i hi,h.2]
theorem Lies.rest {u:List UInt8} {a:Nat} {X:List Bool} (h:Lies u a X):rest u a=X++rest u (a+X.length):=by
  have:=zgJ u a X.length h.1;rw[h.2] at this;exact this
theorem Lies.sel {u:List UInt8} {a t:Nat} {l:List Nat} (h:Lies u a (zni (List.range 6) l)) (ht:t≤6) (hm:∀ n∈l,n<t):zrN u t a l.length=.ok (l,a+(zni (List.range 6) l).length):=by
  have h1:=h.1;unfold zrN;rw[h.rest,zpG t ht l _ _ (zfK t ht) hm];simp only[List.length_append];congr 2
  omega
theorem Lies.delta {u:List UInt8} {a:Nat} {l:List Nat} (h:Lies u a (zbc l)) (h0:l≠[]) (hm:∀ n∈l,1≤n∧n≤20):zll u a l.length=.ok (l,a+(zbc l).length):=by
  have h1:=h.1;rw[zk1 u a _ (by omega),h.rest,zjA l _ h0 hm]
  unfold zgc
  dsimp only
  rw[zbt];congr 2
  omega
theorem Lies.word {u:List UInt8} {a s n:Nat} {l:List Nat} (hl:Code l) (hs:l[s]?=some n) (h:Lies u a (zel l s)):zha l u a=.ok (s,((a+(zel l s).length:Nat):Int)):=by
  have hw:(zel l s).length=n:=by rw[zgf,hs];rfl
  have h1:=h.1;have h2:=h.2;rw[hw] at h1 h2;have:=zpg hl u a s n ⟨hs,by omega,by omega,?_⟩
  · rw[this,hw];rfl
  · rw[Int.toNat_natCast,h2]
    unfold zel;rw[B.num_low,hs];exact Nat.mod_eq_of_lt (znj hl hs)
def zkp (S:List Nat) (n j:Nat):List Bool:=zel (za6 S n (zk0 S n (j / 10))) (S.getD j 0)
def zbn (S:List Nat) (n j:Nat):List Bool:=(List.range j).flatMap (zkp S n)
theorem zdC (S:List Nat) (n j:Nat):zbn S n (j+1)=zbn S n j++zkp S n j:=by
  unfold zbn;rw[List.range_succ,List.flatMap_append];simp
theorem zpD (S:List Nat) (g:Nat) (h:10*g≤S.length):grN S g=(List.range (min (10*g+10) S.length-10*g)).map fun i=>S.getD (10*g+i) 0:=by
  unfold grN;apply List.ext_getElem
  · simp
  · intro i h1 h2
    simp only[List.length_map,List.length_range] at h2;rw[List.getElem_map,List.getElem_range,List.getElem_drop,List.getElem_take,List.getD_eq_getElem?_getD,List.getElem?_eq_getElem (by omega)]
    rfl
theorem zmW (S:List Nat) (n g:Nat) (h:10*g≤S.length) :
    zbn S n (min (10*g+10) S.length)=zbn S n (10*g)++zit (za6 S n (zk0 S n g)) (grN S g):=by
  obtain⟨d,hd⟩:∃ d,min (10*g+10) S.length=10*g+d:=⟨min (10*g+10) S.length-10*g,by omega⟩
  have hd10:d≤10:=by omega
  rw[zpD S g h,hd,show 10*g+d-10*g=d by omega]
  unfold zbn zit;rw[List.range_add,List.flatMap_append];congr 1
  rw[List.flatMap_map,List.flatMap_map];unfold List.flatMap;congr 1
  apply List.map_congr_left
  intro i hi;rw[List.mem_range] at hi;unfold zkp;rw[show (10*g+i) / 10=g by omega]
theorem zrB (S:List Nat) (n:Nat):∀ g,g≤zbX S.length→((List.range g).map fun i=>zit (za6 S n (zk0 S n i)) (grN S i)).flatten=zbn S n (min (10*g) S.length):=by
  intro g
  induction g with
  | zero=>intro _;simp[zbn]
  | succ g ih =>
    intro hg;have hb:10*g≤S.length:=by simp only[zbX] at hg;omega
    rw[List.range_succ,List.map_append,List.flatten_append,ih (by omega),Nat.min_eq_left hb,show 10*(g+1)=10*g+10 by omega,zmW S n g hb]
    simp
theorem zpH (p:List UInt8):((List.range (zbX (zbk p).length)).map (zhn p)).flatten=zbn (zbk p) ((zai p).length+2) (zbk p).length:=by
  have:=zrB (zbk p) ((zai p).length+2) (zbX (zbk p).length) (Nat.le_refl _);rw[show min (10*zbX (zbk p).length) (zbk p).length=(zbk p).length by simp only[zbX];omega] at this
  exact this
theorem zrL (p:List UInt8) (h:p≠[]):∀ s∈zbk p,s<(zai p).length+2:=by
  intro s hs;unfold zbk at hs;rcases List.mem_append.1 hs with hs | hs
  · have:=zhH p h s hs;omega
  · have:s=(zai p).length+1:=by simpa using hs
    omega
theorem zp0 (p:List UInt8) (h:p≠[]) (q:Nat) (hq:q<(zbk p).length):(zbk p).getD q 0=(zai p).length+1↔q+1=(zbk p).length:=by
  unfold zbk at hq ⊢;rw[List.length_append,List.length_singleton] at hq ⊢;rw[List.getD_eq_getElem?_getD]
  by_cases hl:q<(zgv p).length
  · rw[List.getElem?_append_left hl,List.getElem?_eq_getElem hl]
    have:=zhH p h _ (List.getElem_mem hl);simp only[Option.getD_some];omega
  · obtain rfl:q=(zgv p).length:=by omega
    simp
structure BlkP (u:List UInt8) (a:Nat) (t p:List UInt8) (S:List Nat) (n G:Nat) (C:List Nat) (T:Nat→List Nat) (b:Nat) (ax px:Nat→Nat):Prop where
  fit0:a+96≤8*u.length
  m48:B.num (B.slice u a 48)=54156738319193
  s32:B.num (B.slice u (a+48) 32)=zby t
  o16:B.num (B.slice u (a+80) 16)=zfI p
  un:zen u (a+96) = .ok (zai p,b)
  fit1:b+18≤8*u.length
  n3:B.num (B.slice u b 3)=2
  n15:B.num (B.slice u (b+3) 15)=G
  sel:zrN u 2 (b+18) G=.ok (C,ax 0)
  tabs:∀ i,i<2→zll u (ax i) n=.ok (T i,ax (i+1))∧Code (T i)∧(T i).length=n
  ax2:px 0=ax 2
  word:∀ q,q<S.length→zha (T (C.getD (q / 10) 0)) u (px q) = .ok (S.getD q 0,(px (q+1):Nat))
  top:px S.length=a+(zoY t p).length
  axle:∀ i,ax i≤8*u.length
  pxle:∀ i,i≤S.length→px i≤8*u.length
theorem zjE (t p:List UInt8):zoY t p=B.low 54156738319193 48++(B.low (zby t) 32++(B.low (zfI p) 16++(zgC (zai p)++(B.low 2 3++(B.low (zbX (zbk p).length) 15++(zni (List.range 6) (zal (zbk p) ((zai p).length+2))++(zbc (za6 (zbk p) ((zai p).length+2) 0)++(zbc (za6 (zbk p) ((zai p).length+2) 1)++zbn (zbk p) ((zai p).length+2) (zbk p).length)))))))):=by
  unfold zoY zvK;rw[List.flatten_append,List.flatten_append,zpH];unfold zeE zhm;simp[List.range_succ]
theorem zk4 {u:List UInt8} {a:Nat} {S:List Nat} {n:Nat}:∀ {M},Lies u a (zbn S n M)→∀ q,q<M→Lies u (a+(zbn S n q).length) (zkp S n q):=by
  intro M
  induction M with
  | zero=>intro _ q hq;omega
  | succ M ih =>
    intro h q hq;rw[zdC] at h;obtain⟨h1,h2⟩:=h.cut
    by_cases he:q=M
    · subst he;exact h2
    · exact ih h1 q (by omega)
theorem zoS (S:List Nat) (n:Nat) {i M:Nat} (h:i≤M):(zbn S n i).length≤(zbn S n M).length:=by
  obtain⟨d,rfl⟩:∃ d,M=i+d:=⟨M-i,by omega⟩
  clear h
  induction d with
  | zero=>exact Nat.le_refl _
  | succ d ih=>rw[←Nat.add_assoc,zdC,List.length_append];omega
theorem zoc (u:List UInt8) (a:Nat) (t p:List UInt8) (h0:p≠[]) (hp:p.length≤360) (h:Lies u a (zoY t p)) :
    ∃ b ax px,BlkP u a t p (zbk p) ((zai p).length+2) (zbX (zbk p).length) (zal (zbk p) ((zai p).length+2)) (za6 (zbk p) ((zai p).length+2)) b ax px:=by
  have hA:=zaI p;have hA0:0<(zai p).length:=List.length_pos_iff.2 (zb1 h0);have hm:=zjT p;have hlt:=zrL p h0;have ho:zfI p<65536:=by have:=zhL p h0;omega
  have hc:=zdE t;have hlen:=congrArg List.length (zjE t p);rw[zjE] at h;generalize zbk p=S at *
  generalize hne:(zai p).length+2=n at *
  have ht:∀ i,Code (za6 S n i)∧(za6 S n i).length=n:=fun i=>ziv S n i (by omega) (by omega) (by omega)
  obtain⟨q1,h⟩:=h.cut;obtain⟨q2,h⟩:=h.cut;obtain⟨q3,h⟩:=h.cut;obtain⟨q4,h⟩:=h.cut;obtain⟨q5,h⟩:=h.cut;obtain⟨q6,h⟩:=h.cut;obtain⟨q7,h⟩:=h.cut;obtain⟨q8,h⟩:=h.cut;obtain⟨q9,q10⟩:=h.cut;have hG:zbX S.length<2 ^ 15:=by simp only[zbX];omega
  have z1:=q1.low (by decide)
  have z2:=q2.low hc;have z3:=q3.low ho;have z5:=q5.low (by decide)
  have z6:=q6.low hG;have hne0:zai p≠[]:=zb1 h0;have z4:=q4.map hne0;have hCl:(zal S n).length=zbX S.length:=by simp[zal]
  have z7:=q7.sel (t:=2) (by omega) (fun x hx=>by
    obtain⟨k,-,rfl⟩:=List.mem_map.1 hx;exact zmh S n k)
  rw[hCl] at z7;have hne1:∀ i,za6 S n i≠[]:=fun i e=>by have:=(ht i).2;rw[e] at this;simp at this;omega
  have z8:=q8.delta (hne1 0) (ht 0).1.fits;have z9:=q9.delta (hne1 1) (ht 1).1.fits;rw[(ht 0).2] at z8;rw[(ht 1).2] at z9;simp only[B.length_low] at *
  rw[ze7] at z4;obtain⟨b,hb⟩:∃ b,a+96+(zgC (zai p)).length=b:=⟨_,rfl⟩;have e1:a+48+32=a+80:=by omega
  have e2:a+80+16=a+96:=by omega
  simp only[e1,e2] at q3 q4 q5 q6 q7 q8 q9 q10 z2 z3 z4 z5 z6 z7 z8 z9;simp only[hb] at q5 q6 q7 q8 q9 q10 z4 z5 z6 z7 z8 z9;have e3:b+3+15=b+18:=by omega
  simp only[e3] at q7 q8 q9 q10 z6 z7 z8 z9;obtain⟨c,hc0⟩:∃ c,b+18+(zni (List.range 6) (zal S n)).length=c:=⟨_,rfl⟩;simp only[hc0] at q8 q9 q10 z7 z8 z9;obtain⟨d0,hd0⟩:∃ c',c+(zbc (za6 S n 0)).length=c':=⟨_,rfl⟩;simp only[hd0] at q9 q10 z8 z9;obtain⟨d1,hd1⟩:∃ c',d0+(zbc (za6 S n 1)).length=c':=⟨_,rfl⟩;simp only[hd1] at q10 z9;have hq7:=q7.1;have hq8:=q8.1;have hq9:=q9.1;have hq10:=q10.1;refine⟨b,fun i=>if i=0 then c else if i=1 then d0 else d1,fun q=>d1+(zbn S n q).length,?_⟩
  refine⟨by omega,z1.2,z2.2,z3.2,z4,by omega,z5.2,z6.2,z7,?_,?_,?_,?_,?_,?_⟩
  · intro i hi
    rcases (by omega:i=0∨i=1) with rfl | rfl
    · exact⟨z8,(ht 0)⟩
    · exact⟨z9,(ht 1)⟩
  · simp[zbn]
  · intro q hq
    have hw:=zk4 q10 q hq;have hqC:q / 10<(zal S n).length:=by rw[hCl];simp only[zbX];omega
    have hcho:(zal S n).getD (q / 10) 0=zk0 S n (q / 10):=by
      rw[List.getD_eq_getElem?_getD,List.getElem?_eq_getElem hqC];simp[zal]
    rw[hcho]
    have hsm:S.getD q 0∈S:=by
      rw[List.getD_eq_getElem?_getD,List.getElem?_eq_getElem hq];exact List.getElem_mem hq
    have hs:=hlt _ hsm;have hg:(za6 S n (zk0 S n (q / 10)))[S.getD q 0]?=some ((za6 S n (zk0 S n (q / 10)))[S.getD q 0]'(by rw[(ht _).2];exact hs)):=List.getElem?_eq_getElem _
    have:=Lies.word (ht _).1 hg hw;rw[this,zdC,List.length_append];unfold zkp;congr 3
    omega
  · rw[hlen]
    simp only[List.length_append,B.length_low];omega
  · intro i
    try dsimp only
    split
    · omega
    · split <;> omega
  · intro i hi
    have:=zoS S n hi
    try dsimp only
    omega
theorem Lies.zero {u:List UInt8} {a:Nat} {n:Nat} (h:Lies u a (List.replicate n false)):a+n≤8*u.length∧B.num (B.slice u a n)=0:=by
  obtain⟨h1,h2⟩:=h;rw[List.length_replicate] at h1 h2;refine⟨h1,?_⟩;rw[h2];clear h1 h2
  induction n with
  | zero=>rfl
  | succ n ih=>rw[List.replicate_succ',B.num_snoc,ih];rfl
theorem Lies.bit {u:List UInt8} {a:Nat} {X:List Bool} (h:Lies u a X) (i:Nat) (hi:i<X.length):B.bitAt u (a+i)=X.getD i false:=by
  rw[←B.getD_slice u a X.length i hi,h.2]
theorem Lies.bytes {u hd:List UInt8} {i:Nat} (h:Lies u (8*i) (B.slice hd 0 (8*hd.length))) (k:Nat) (hk:k<hd.length):u.getD (i+k) 0=hd.getD k 0:=by
  refine B.byte_ext _ _ fun j hj=>?_;have h1:=h.bit (8*k+(7-j)) (by rw[B.length_slice];omega)
  rw[B.getD_slice _ _ _ _ (by omega)] at h1
  unfold B.bitAt at h1;rw[show (8*i+(8*k+(7-j))) / 8=i+k by omega,show (8*i+(8*k+(7-j))) % 8=7-j by omega,show (0+(8*k+(7-j))) / 8=k by omega,show (0+(8*k+(7-j))) % 8=7-j by omega,show 7-(7-j)=j by omega] at h1
  exact h1
def zek (lv:Nat):List UInt8:=[80,77,107,UInt8.ofNat (48+lv)]
def zc2 (t:List UInt8):List Bool:=zoY t (za5 t)
def zg4 (z:Nat):List Bool:=B.low 25779555029136 48++B.low z 32
def za3 (ts:List (List UInt8)):List Bool:=(ts.map zc2).flatten
def zbq (lv:Nat) (ts:List (List UInt8)) (z:Nat):List Bool:=B.slice (zek lv) 0 32++(za3 ts++zg4 z)
def zcj (a:Nat) (ts:List (List UInt8)) (q:Nat):Nat:=a+(za3 (ts.take q)).length
theorem zdg (z:Nat):(zg4 z).length=80:=by simp[zg4,B.length_low]
theorem zo8 (ts:List (List UInt8)) (t:List UInt8):za3 (ts++[t])=za3 ts++zc2 t:=by simp[za3]
theorem zgp (ts us:List (List UInt8)):za3 (ts++us)=za3 ts++za3 us:=by simp[za3]
theorem zaS (lv:Nat) (ts:List (List UInt8)) (z:Nat):(zbq lv ts z).length=112+(za3 ts).length:=by
  simp only[zbq,List.length_append,B.length_slice,zdg];omega
theorem zjQ (l:List UInt8):l.length≤51*zaU l:=by
  induction hn:l.length using Nat.strongRecOn generalizing l with
  | ind n ih =>
    by_cases h:l=[]
    · subst h;simp only[List.length_nil] at hn;omega
    · have h1:=zbW h
      have h2:=zjL l;have h3:=zeF l;have h4:(l.drop (zbE l)).length=l.length-zbE l:=by simp
      have h5:=ih _ (by omega) (l.drop (zbE l)) rfl
      have h7:zbE l≤51*zba (zbE l):=by unfold zba;split <;> omega
      rw[zcK h];omega
theorem zkh {t:List UInt8} (h:t≠[]):za5 t≠[]:=by
  intro e;have h1:=zcC t;rw[e] at h1;have h2:=zjQ t;have h3:0<t.length:=List.length_pos_iff.2 h;simp only[List.length_nil] at h1;omega
def zdw (room:Nat) (t:List UInt8):Prop:=t≠[]∧zaU t≤room
structure StrmAt (u:List UInt8) (i lv:Nat) (ts:List (List UInt8)) (z pad:Nat):Prop where
  lies:Lies u (8*i) (zbq lv ts z++List.replicate pad false)
  pad8:(112+(za3 ts).length+pad) % 8=0
  pad7:pad<8
  lv1:1≤lv
  lv9:lv≤9
  ok:∀ t∈ts,zdw (40*lv) t
  z32:z<4294967296
theorem StrmAt.head {u:List UInt8} {i lv:Nat} {ts:List (List UInt8)} {z pad:Nat} (h:StrmAt u i lv ts z pad):i+4≤u.length∧∀ k,k<4→u.getD (i+k) 0=(zek lv).getD k 0:=by
  have h1:=h.lies;unfold zbq at h1;rw[List.append_assoc] at h1;obtain⟨h2,-⟩:=h1.cut;have h3:=h2.1;rw[B.length_slice] at h3;refine⟨by omega,fun k hk=>?_⟩
  exact Lies.bytes (hd:=zek lv) h2 k hk
theorem StrmAt.body {u:List UInt8} {i lv:Nat} {ts:List (List UInt8)} {z pad:Nat} (h:StrmAt u i lv ts z pad):Lies u (8*i+32) (za3 ts++(zg4 z++List.replicate pad false)):=by
  have h1:=h.lies;unfold zbq at h1;rw[List.append_assoc] at h1;obtain⟨-,h2⟩:=h1.cut;rw[B.length_slice,List.append_assoc] at h2;exact h2
theorem znS (a:Nat) (ts:List (List UInt8)):zcj a ts 0=a:=by simp[zcj,za3]
theorem zkJ (ts:List (List UInt8)) (q:Nat) (hq:q<ts.length):ts.take (q+1)=ts.take q++[ts[q]]:=List.take_succ_eq_append_getElem hq
theorem ziD (a:Nat) (ts:List (List UInt8)) (q:Nat) (hq:q<ts.length):zcj a ts (q+1)=zcj a ts q+(zc2 ts[q]).length:=by
  unfold zcj;rw[zkJ ts q hq,zo8,List.length_append,Nat.add_assoc]
theorem zht (a:Nat) (ts:List (List UInt8)):zcj a ts ts.length=a+(za3 ts).length:=by simp[zcj]
theorem StrmAt.block {u:List UInt8} {i lv:Nat} {ts:List (List UInt8)} {z pad:Nat} (h:StrmAt u i lv ts z pad) (q:Nat) (hq:q<ts.length):Lies u (zcj (8*i+32) ts q) (zc2 ts[q]):=by
  have h1:=h.body.cut.1;have h2:ts=ts.take q++([ts[q]]++ts.drop (q+1)):=by simp
  rw[h2,zgp,zgp] at h1;have h3:=h1.cut.2.cut.1;rw[show za3 [ts[q]]=zc2 ts[q] by simp[za3]] at h3
  exact h3
theorem StrmAt.endAt {u:List UInt8} {i lv:Nat} {ts:List (List UInt8)} {z pad:Nat} (h:StrmAt u i lv ts z pad):Lies u (zcj (8*i+32) ts ts.length) (zg4 z++List.replicate pad false):=by
  rw[zht];exact h.body.cut.2
theorem zhW (t:List UInt8):∃ Y,zc2 t=B.low 54156738319193 48++Y:=⟨_,zjE t (za5 t)⟩
theorem zuu (t:List UInt8):48≤(zc2 t).length:=by
  obtain⟨Y,hY⟩:=zhW t;rw[hY,List.length_append,B.length_low];omega
theorem zku (lv:Nat) (ts:List (List UInt8)) (z:Nat) (h1:1≤lv) (h9:lv≤9) (hok:∀ t∈ts,zdw (40*lv) t) (hz:z<4294967296):∃ pad,StrmAt (B.pack (zbq lv ts z)) 0 lv ts z pad∧8*(B.pack (zbq lv ts z)).length=112+(za3 ts).length+pad:=by
  have hl:=B.length_pack (zbq lv ts z);rw[zaS] at hl;refine⟨8*((112+(za3 ts).length+7) / 8)-(112+(za3 ts).length),⟨⟨?_,?_⟩,by omega,by omega,h1,h9,hok,hz⟩,by omega⟩
  · rw[List.length_append,List.length_replicate,zaS,hl];omega
  · apply List.ext_getElem
    · rw[B.length_slice]
    · intro k hk hk2
      rw[B.length_slice,List.length_append,List.length_replicate,zaS] at hk;have e1:=B.getD_slice (B.pack (zbq lv ts z)) (8*0) (zbq lv ts z++List.replicate (8*((112+(za3 ts).length+7) / 8)-(112+(za3 ts).length)) false).length k (by rw[List.length_append,List.length_replicate,zaS];omega)
      rw[List.getD_eq_getElem?_getD,List.getElem?_eq_getElem (by rw[B.length_slice];exact hk2),Option.getD_some,B.bitAt_pack] at e1
      rw[e1,show 8*0+k=k by omega]
      by_cases hc:k<(zbq lv ts z).length
      · rw[List.getElem_append_left hc,List.getD_eq_getElem?_getD,List.getElem?_eq_getElem hc];rfl
      · rw[List.getElem_append_right (by omega),List.getElem_replicate,List.getD_eq_getElem?_getD,List.getElem?_eq_none (by omega)];rfl
structure Strm where
  lv:Nat
  ts:List (List UInt8)
  z:Nat
  pad:Nat
structure Part where
  t:List UInt8
  at0:Nat
  next:Nat
  room:Nat
def Strm.bytes (S:Strm):Nat:=(112+(za3 S.ts).length+S.pad) / 8
def Strm.good (S:Strm):Bool:=S.z == zhU (S.ts.map zby)
def Strm.part (i:Nat) (S:Strm) (q:Nat):Part:=⟨S.ts.getD q [],zcj (8*i+32) S.ts q,zcj (8*i+32) S.ts (q+1),40*S.lv⟩
def Strm.parts (i:Nat) (S:Strm):List Part:=(List.range S.ts.length).map (S.part i)
def zdI (u:List UInt8):Nat→List Strm→Prop
  | i,[]=>i=u.length
  | i,S::L=>StrmAt u i S.lv S.ts S.z S.pad∧zdI u (i+S.bytes) L
def evs:Nat→List Strm→List (Option Part)
  | _,[]=>[]
  | i,S::L=>(S.parts i).map some++(if S.good then evs (i+S.bytes) L else [none])
def zhS:Nat→List Strm→List Part
  | _,[]=>[]
  | i,S::L=>S.parts i++zhS (i+S.bytes) L
theorem Strm.bytes8 {u:List UInt8} {i:Nat} {S:Strm} (h:StrmAt u i S.lv S.ts S.z S.pad):8*S.bytes=112+(za3 S.ts).length+S.pad:=by
  have:=h.pad8;unfold Strm.bytes;omega
theorem Strm.fits {u:List UInt8} {i:Nat} {S:Strm} (h:StrmAt u i S.lv S.ts S.z S.pad):i+S.bytes≤u.length:=by
  have h1:=h.lies.1;have h2:=Strm.bytes8 h;rw[List.length_append,List.length_replicate,zaS] at h1;omega
theorem Strm.bytes_pos (S:Strm):14≤S.bytes:=by unfold Strm.bytes;omega
theorem zoK (lv:Nat) (ts:List (List UInt8)) (z:Nat) (h1:1≤lv) (h9:lv≤9) (hok:∀ t∈ts,zdw (40*lv) t) (hz:z<4294967296):∃ pad,zdI (B.pack (zbq lv ts z)) 0 [⟨lv,ts,z,pad⟩]:=by
  obtain⟨pad,h,h2⟩:=zku lv ts z h1 h9 hok hz;refine⟨pad,h,?_⟩;have h3:8*Strm.bytes ⟨lv,ts,z,pad⟩=112+(za3 ts).length+pad:=Strm.bytes8 (S:=⟨lv,ts,z,pad⟩) h
  show 0+Strm.bytes ⟨lv,ts,z,pad⟩=_
  omega
theorem Strm.length_parts (i:Nat) (S:Strm):(S.parts i).length=S.ts.length:=by simp[Strm.parts]
theorem Strm.parts_t (i:Nat) (S:Strm):(S.parts i).map (·.t)=S.ts:=by
  apply List.ext_getElem
  · simp[Strm.parts]
  · intro k h1 h2
    simp[Strm.parts,Strm.part,h2]
theorem StrmAt.mag {u:List UInt8} {i lv:Nat} {ts:List (List UInt8)} {z pad:Nat} (h:StrmAt u i lv ts z pad) (q:Nat) (hq:q<ts.length):zcj (8*i+32) ts q+48≤8*u.length∧B.num (B.slice u (zcj (8*i+32) ts q) 48)=54156738319193:=by
  have h1:=h.block q hq;obtain⟨Y,hY⟩:=zhW ts[q];rw[hY] at h1;exact h1.cut.1.low (by decide)
theorem StrmAt.fin {u:List UInt8} {i lv:Nat} {ts:List (List UInt8)} {z pad:Nat} (h:StrmAt u i lv ts z pad) :
    zcj (8*i+32) ts ts.length+80+pad≤8*u.length∧B.num (B.slice u (zcj (8*i+32) ts ts.length) 48)=25779555029136∧B.num (B.slice u (zcj (8*i+32) ts ts.length+48) 32)=z∧B.num (B.slice u (zcj (8*i+32) ts ts.length+80) pad)=0∧(zcj (8*i+32) ts ts.length+80+pad) % 8=0∧pad<8:=by
  have h1:=h.endAt;have h2:=h.z32;have h3:=h.pad8;have h4:=h.pad7;unfold zg4 at h1;rw[List.append_assoc] at h1;obtain⟨e1,h1⟩:=h1.cut;obtain⟨e2,h1⟩:=h1.cut;rw[B.length_low] at e2 h1;rw[B.length_low] at h1;have f1:=e1.low (by decide)
  have f2:=e2.low h2;have f3:=h1.zero;rw[zht] at *
  rw[show 8*i+32+(za3 ts).length+48+32=8*i+32+(za3 ts).length+80 by omega] at f3
  exact⟨f3.1,f1.2,f2.2,f3.2,by omega,h4⟩
theorem Strm.next {u:List UInt8} {i:Nat} {S:Strm} (h:StrmAt u i S.lv S.ts S.z S.pad):zcj (8*i+32) S.ts S.ts.length+80+S.pad=8*(i+S.bytes):=by
  have:=Strm.bytes8 h;rw[zht];omega
theorem zs4 (a:Nat) (ts:List (List UInt8)) (q:Nat) (hq:q<ts.length):zcj a ts q+48≤zcj a ts (q+1):=by
  rw[ziD a ts q hq];have:=zuu ts[q];omega
theorem Strm.parts_take (i:Nat) (S:Strm) (q:Nat) (hq:q<S.ts.length):(S.parts i).take (q+1)=(S.parts i).take q++[S.part i q]:=by
  rw[List.take_succ_eq_append_getElem (by rw[Strm.length_parts];exact hq)]
  simp[Strm.parts]
theorem zsO (ts:List (List UInt8)) (q:Nat) (hq:q<ts.length):(ts.take (q+1)).map zby=(ts.take q).map zby++[zby (ts.getD q [])]:=by
  rw[zkJ ts q hq,List.map_append,List.getD_eq_getElem?_getD,List.getElem?_eq_getElem hq];rfl
end Go.Proofs.YtoejfkeofbdalaaGreatDoor
