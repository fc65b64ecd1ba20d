import Derived.Test.YtoejfkeofbdalaaGreatDoorM36
import Derived.Test.YtoejfkeofbdalaaGreatDoorM30
set_option linter.unusedVariables false
set_option maxRecDepth 100000
set_option maxHeartbeats 8000000
namespace Go.Proofs.YtoejfkeofbdalaaGreatDoor
open Go.RowKit
theorem znD (s:ByteArray) (a n v:Nat) (W:World) (hs:s.size≤1099511627776) (hn:n≤64) (h:a+n≤8*s.size) (hv:B.num (B.slice s.data.toList a n)=v) :
    Calls Tryz.prog 231 #[.string s,.int .i64 (a:Nat),.int .i64 (n:Nat)] W fun e w'=>e=.returned (.tuple #[.int .u64 (v:Nat),.int .i64 0])∧W=w':=by
  have hl:s.data.toList.length=s.size:=by simp
  have:=zdW s a n W (by omega)
  rw[zhw _ a n (by omega) (by omega),zgY _ a n (by omega) (by omega),hv] at this
  exact this
theorem zik (s p:ByteArray) (w:World) (h:p.size≤s.size) (h2:s.extract 0 p.size=p) :
    Calls Tryz.prog 292 #[.string s,.string p] w fun e w'=>e=.returned (.bool true)∧w=w':=by
  have d1:decide ((p.size:Int)≤(s.size:Int))=true:=decide_eq_true (by omega)
  go_enter Tryz.func292,Tryz.ntmps292
  go_wp2_with fail
  go_ret
  exact⟨by first | rfl | simp[h2],rfl⟩
theorem zjK (s p:ByteArray) (w:World) (h:p.size≤s.size) (h2:s.extract 0 p.size=p) :
    Calls Tryz.prog 262 #[.string s,.string p] w fun e w'=>e=.returned (.bool true)∧w=w':=by
  have C:=Lib.hid (fun W=>zik s p W h h2);clear h h2
  go_enter Tryz.func262,Tryz.ntmps262
  go_wp2_with fail
  refine (C.out _).mono ?_;rintro e w1 ⟨rfl,rfl⟩
  go_wp2_with fail
  go_ret
  exact⟨rfl,rfl⟩
theorem zup (w:World) (s:ByteArray) (i lv:Nat) (hs:s.size≤1099511627776) (hi:i+4≤s.size) (h1:1≤lv) (h9:lv≤9) (hd:∀ k,k<4→s.data.toList.getD (i+k) 0=([80,77,107,UInt8.ofNat (48+lv)]:List UInt8).getD k 0) :
    Calls Tryz.prog 230 #[.string s,.int .i64 (i:Nat)] w fun e w'=>e=.returned (.tuple #[.int .i64 ((40*lv:Nat):Int),.int .i64 0])∧w=w':=by
  obtain⟨t,ht⟩:∃ t,s.extract i s.size=t:=⟨_,rfl⟩;have htl:t.data.toList=s.data.toList.drop i:=by rw[←ht];exact zgG s i
  have htz:t.size=s.size-i:=by rw[←ht];simp
  have hg:∀ k,k<4→t.data.toList[k]?=some (([80,77,107,UInt8.ofNat (48+lv)]:List UInt8).getD k 0):=by
    intro k hk;rw[htl,List.getElem?_drop,←hd k hk,List.getD_eq_getElem?_getD,List.getElem?_eq_getElem (by simp;omega)]
    rfl
  have h3t:3<t.size:=by omega
  have hp:t.extract 0 3=⟨#[80,77,107]⟩:=by
    rw[zfi]
    have:t.data.toList.take 3=[80,77,107]:=by
      apply List.ext_getElem?
      intro k
      by_cases hk:k<3
      · rw[List.getElem?_take,if_pos hk,hg k (by omega)]
        rcases (by omega:k=0∨k=1∨k=2) with rfl | rfl | rfl <;> rfl
      · rw[List.getElem?_take,if_neg hk,List.getElem?_eq_none (by simp;omega)]
    rw[this]
  obtain⟨c,hc⟩:∃ c,(t[3]'h3t).toNat=c:=⟨_,rfl⟩
  have hcl:c=48+lv:=by
    have h4:=hg 3 (by omega)
    rw[zew t 3 h3t] at h4;have h5:t[3]'h3t=UInt8.ofNat (48+lv):=Option.some.inj h4;rw[←hc,h5,UInt8.toNat_ofNat'];omega
  have CP:Hid (∀ W,Calls Tryz.prog 262 #[.string t,.string ⟨#[80,77,107]⟩] W fun e w'=>e=.returned (.bool true)∧W=w'):=fun W=>zjK t ⟨#[80,77,107]⟩ W (by show 3≤t.size;omega) hp
  have d0:decide ((t.size:Int)<4)=false:=decide_eq_false (by omega)
  have d1:decide ((c:Int)<49)=false:=decide_eq_false (by omega)
  have d2:decide (57<(c:Int))=false:=decide_eq_false (by omega)
  have e1:IntKind.u8.wrap ((c:Int)-48)=(lv:Int):=by simp[IntKind.wrap,IntKind.signed,IntKind.bits];omega
  have e2:IntKind.i64.wrap (40*(lv:Int))=((40*lv:Nat):Int):=by rw[IntWalk.i64_in _ (by omega)];omega
  have e3:IntKind.i64.wrap (lv:Int)=(lv:Int):=IntWalk.i64_in _ (by omega)
  have HT:=Lib.hid ht;clear hd htl hg hp hcl ht htz
  go_enter Tryz.func230,Tryz.ntmps230
  go_upto_region 2 with (fail)
  rw[HT.out]
  go_wp2_with fail
  refine (CP.out _).mono ?_;rintro e w1 ⟨rfl,rfl⟩
  go_wp2_with fail
  go_ret2
  exact⟨rfl,rfl⟩
abbrev zaM (w:World) (k:Nat) (s:ByteArray) (at0:Nat) (sv:Value):Prop:=w.heap[k]?=some (Obj.cells #[.string s,.int .i64 (at0:Nat),sv] 292 (0,0))
theorem zsE (w:World) (k:Nat) (s:ByteArray) (at0 z pad:Nat) (sv:Value) (l:List Nat) (hE:zaM w k s at0 sv) (hs:s.size≤1099511627776) (h8:(at0+80+pad) % 8=0) (hpad:pad<8)
    (h:at0+80+pad≤8*s.size) (hz:B.num (B.slice s.data.toList (at0+48) 32)=z) (hp:B.num (B.slice s.data.toList (at0+80) pad)=0)
    (hv:w.ownsRow (k+1) 53 1 sv l.length (zm5 l)) (hl:∀ x∈l,x<4294967296) (hm:l.length≤1000000) :
    Calls Tryz.prog 232 #[.pointer (some ⟨k,0,none⟩)] w fun e w'=>e=.returned (.int .i64 (if z=zhU l then 0 else 7))∧zaM w' k s (at0+80+pad) sv∧Only k w w':=by
  have hzl:z<4294967296:=by
    rw[←hz];have h1:=B.num_lt (B.slice s.data.toList (at0+48) 32);rw[B.length_slice] at h1;exact h1
  have hl0:s.data.toList.length=s.size:=by simp
  obtain⟨a1,ha1⟩:∃ a,at0+48=a:=⟨_,rfl⟩;obtain⟨a2,ha2⟩:∃ a,at0+80=a:=⟨_,rfl⟩;obtain⟨a3,ha3⟩:∃ a,at0+80+pad=a:=⟨_,rfl⟩;rw[ha1] at hz;rw[ha2] at hp;rw[ha3] at h h8 ⊢;have G1:Hid (∀ W,Calls Tryz.prog 231 #[.string s,.int .i64 (a1:Nat),.int .i64 32] W fun e w'=>e=.returned (.tuple #[.int .u64 (z:Nat),.int .i64 0])∧W=w'):=fun W=>znD s a1 32 z W hs (by omega) (by omega) hz
  have G2:Hid (∀ W,Calls Tryz.prog 231 #[.string s,.int .i64 (a2:Nat),.int .i64 (pad:Nat)] W fun e w'=>e=.returned (.tuple #[.int .u64 0,.int .i64 0])∧W=w'):=fun W=>znD s a2 pad 0 W hs (by omega) (by omega) hp
  obtain⟨q,hqz⟩:∃ q,zhU l=q:=⟨_,rfl⟩;have hA:=Lib.hid (fun (W:World) (ho:Only k w W)=>zjZ W sv l (Rd.own (zau hv ho (Nat.lt_succ_self k))) hl hm);rw[hqz] at hA ⊢;obtain⟨er,her⟩:∃ er:Int,(if z=q then (0:Int) else 7)=er:=⟨_,rfl⟩
  rw[her];have HER:=Lib.hid her;clear her;have k0:w.cell? ⟨k,0,none⟩=some (.string s):=zaa hE 0;have k1:w.cell? ⟨k,1,none⟩=some (.int .i64 at0):=zaa hE 1;have f1:w.frozen? ⟨k,1,none⟩=false:=zac hE 1;have x0:k<w.heap.size:=zab hE;obtain⟨r,hr⟩:∃ r,a2 % 8=r:=⟨_,rfl⟩;obtain⟨m,hme⟩:∃ m,8-r=m:=⟨_,rfl⟩;have hw1:IntKind.i64.wrap ((at0:Int)+48)=(a1:Int):=by rw[IntWalk.i64_in _ (by omega)];omega
  have hw2:IntKind.i64.wrap ((at0:Int)+80)=(a2:Int):=by rw[IntWalk.i64_in _ (by omega)];omega
  have hw3:IntKind.i64.wrap ((a2:Int)+(pad:Int))=(a3:Int):=by rw[IntWalk.i64_in _ (by omega)];omega
  have hw4:IntKind.i64.wrap (8-(r:Int))=(m:Int):=by rw[IntWalk.i64_in _ (by omega)];omega
  have hr1:(a2:Int) % 8=(r:Int):=by omega
  have hr2:(a2:Int).tmod 8=(r:Int):=by rw[Int.tmod_eq_emod_of_nonneg (by omega)];omega
  have hr3:(m:Int) % 8=(pad:Int):=by omega
  have hr4:(m:Int).tmod 8=(pad:Int):=by rw[Int.tmod_eq_emod_of_nonneg (by omega)];omega
  have hr5:(8-(r:Int)) % 8=(pad:Int):=by omega
  have hu1:IntKind.u32.wrap (z:Int)=(z:Int):=by simp[IntKind.wrap,IntKind.signed,IntKind.bits];omega
  have HE:=Lib.hid hE;clear hE hl0 hz hp hv hl hr hme ha1 ha2 ha3 hzl
  go_enter Tryz.func232,Tryz.ntmps232
  go_wp2_with fail
  go_quiet ((go_at_call 231;exact zdO (G1.out _)))
  go_upto_region 3 with (fail)
  have hdr:=below_drewN (Below.refl w.heap.size w) nq
  have hE1:zaM ((w.drewN nq).setCell ⟨k,1,none⟩ (.int .i64 (a2:Nat))) k s a2 sv:=by
    have:=zaf ((hdr.block k x0).trans HE.out) 1 (.int .i64 ((a2:Nat):Int));unfold zaM;simpa using this
  have HE1:=Lib.hid hE1;have HO1:=Lib.hid ((Only.of (k:=k) hdr).set 1 (.int .i64 ((a2:Nat):Int)));clear hE1 hdr k0 k1 f1;generalize (w.drewN nq).setCell ⟨k,1,none⟩ (.int .i64 ((a2:Nat):Int))=W1 at *
  have k0:W1.cell? ⟨k,0,none⟩=some (.string s):=(zaa HE1.out 0).trans rfl;have k1:W1.cell? ⟨k,1,none⟩=some (.int .i64 a2):=(zaa HE1.out 1).trans rfl;have f1:W1.frozen? ⟨k,1,none⟩=false:=zac HE1.out 1;have x1:k<W1.heap.size:=zab HE1.out
  go_upto_region 4 with (fail)
  go_quiet ((go_at_call 231;exact zdO (G2.out _)))
  go_upto_region 6 with (fail)
  have hdr:=below_drewN (Below.refl W1.heap.size W1) nq
  have hE2:zaM ((W1.drewN nq).setCell ⟨k,1,none⟩ (.int .i64 (a3:Nat))) k s a3 sv:=by
    have:=zaf ((hdr.block k x1).trans HE1.out) 1 (.int .i64 ((a3:Nat):Int));unfold zaM;simpa using this
  have HE2:=Lib.hid hE2;have HO2:=Lib.hid (HO1.out.trans ((Only.of (k:=k) hdr).set 1 (.int .i64 ((a3:Nat):Int))));clear hE2 hdr k0 k1 f1 HE1 HO1;generalize (W1.drewN nq).setCell ⟨k,1,none⟩ (.int .i64 ((a3:Nat):Int))=W2 at *
  have k2:W2.cell? ⟨k,2,none⟩=some sv:=(zaa HE2.out 2).trans rfl;have x2:k<W2.heap.size:=zab HE2.out
  by_cases hzq:z=q
  · have hb:((z:Int) != (q:Int))=false:=by subst hzq;simp
    have he:er=0:=by rw[←HER.out,if_pos hzq]
    have HEZ:=Lib.hid he;clear hzq he
    go_wp2_with fail
    refine (hA.out _ HO2.out).mono ?_;rintro e w1 ⟨rfl,hq,rfl⟩
    go_wp2_with fail
    go_ret
    exact⟨by rw[HEZ.out];rfl,HE2.out,HO2.out⟩
  · have hb:((z:Int) != (q:Int))=true:=by simp;omega
    have he:er=7:=by rw[←HER.out,if_neg hzq]
    have HEZ:=Lib.hid he;clear hzq he
    go_wp2_with fail
    refine (hA.out _ HO2.out).mono ?_;rintro e w1 ⟨rfl,hq,rfl⟩
    go_wp2_with fail
    go_ret
    exact⟨by rw[HEZ.out];rfl,HE2.out,HO2.out⟩
def zql (w:World) (r:Except Int (List UInt8 × Nat)) (e:Ending) (w':World):Prop :=
  match r with
  | .ok (l,x)=>e=.returned (.tuple #[.string ⟨l.toArray⟩,.int .i64 (x:Nat),.int .i64 0])∧Below w.heap.size w w'
  | .error c=>e=.returned (.tuple #[.string ⟨#[]⟩,.int .i64 0,.int .i64 c])∧Below w.heap.size w w'
def zjo (xs:List UInt8) (k:Nat) (f:Nat→Bool):Nat→List UInt8
  | 0=>xs
  | i+1=>zjo xs k f i++if f i then [UInt8.ofNat (k*16+i)] else []
theorem zrW {xs:List UInt8} {k i:Nat} {f:Nat→Bool} (h:f i=true):zjo xs k f (i+1)=zjo xs k f i++[UInt8.ofNat (k*16+i)]:=by rw[zjo,h];rfl
theorem zqi {xs:List UInt8} {k i:Nat} {f:Nat→Bool} (h:f i=false):zjo xs k f (i+1)=zjo xs k f i:=by rw[zjo,h];simp
theorem zpL (xs:List UInt8) (k i:Nat):zjo xs k (fun _=>false) i=xs:=by
  induction i with
  | zero=>rfl
  | succ i ih=>rw[zqi rfl,ih]
theorem zg9 (p f:Nat→Bool) (k i:Nat) (h:∀ j,j<i→p (16*k+j)=f j):zjo (zaW p (16*k)) k f i=zaW p (16*k+i):=by
  induction i with
  | zero=>rfl
  | succ i ih=>rw[zjo,ih fun j hj=>h j (by omega),←Nat.add_assoc,zbf,h i (by omega),Nat.mul_comm k 16]
theorem zeC (xs:List UInt8) (k:Nat) (f:Nat→Bool) (i:Nat):(zjo xs k f i).length≤xs.length+i:=by
  induction i with
  | zero=>simp[zjo]
  | succ i ih =>
    rw[zjo,List.length_append];cases f i <;> simp <;> omega
def UnSt (u:List UInt8) (a k:Nat) (er:Int) (b:Bool) (xs:List UInt8):Prop :=
  xs.length≤16*k∧((er=0∧zgt u a k≤8*u.length∧b=zgX u a k∧xs=zaW (zt3 u a) (16*k))∨(er=2∧8*u.length<zgt u a k))
theorem zrY (v k:Nat) (hv:v<18446744073709551616):(bits BinOp.and IntKind.u64 ((v:Int) / 2 ^ k) 1 == 0) = !v.testBit k:=by
  have h:=zm2 v k hv
  have e:bits BinOp.and IntKind.u64 ((v:Int) / 2 ^ k) 1=0∨bits BinOp.and IntKind.u64 ((v:Int) / 2 ^ k) 1=1:=by
    have hp:=Nat.two_pow_pos k;have h1:(v:Int) / 2 ^ k=((v / 2 ^ k:Nat):Int):=by rw[ztb];rfl
    have h2:v / 2 ^ k≤v:=Nat.div_le_self _ _;rw[h1,show (1:Int)=((1:Nat):Int) from rfl,u64_and_nat _ _ (by omega) (by omega),Nat.and_one_is_mod]
    omega
  rw[←h];rcases e with e | e <;> rw[e] <;> rfl
theorem UnSt.no {u:List UInt8} {a k:Nat} {b:Bool} {xs:List UInt8} (h:UnSt u a k 0 b xs) (hd:hdU u a k=false):UnSt u a (k+1) 0 b xs:=by
  obtain⟨h1,h2 | ⟨h2,_⟩⟩:=h
  · obtain⟨_,h3,h4,h5⟩:=h2
    refine⟨by omega,.inl ⟨rfl,by rw[zdT,hd];simpa using h3,by rw[zhh,hd];simpa using h4,?_⟩⟩
    have:=zg9 (zt3 u a) (fun _=>false) k 16 fun j hj=>by rw[zj1 _ _ _ _ hj,hd];rfl
    rw[zpL,←h5] at this;exact this
  · cases h2
theorem UnSt.yes {u:List UInt8} {a k:Nat} {b z:Bool} {xs:List UInt8} {f:Nat→Bool} (h:UnSt u a k 0 b xs) (hd:hdU u a k=true) (hf:zgt u a k+16≤8*u.length) (hz:z = !(zlU u a k).any id)
    (hff:∀ i,i<16→f i=(zlU u a k).getD i false):UnSt u a (k+1) 0 (b || z) (zjo xs k f 16):=by
  obtain⟨h1,h2 | ⟨h2,_⟩⟩:=h
  · obtain⟨_,h3,h4,h5⟩:=h2
    refine⟨by have:=zeC xs k f 16;omega,.inl ⟨rfl,by rw[zdT,hd];simpa using hf,by rw[zhh,hd,h4,hz];simp,?_⟩⟩
    rw[h5];exact zg9 (zt3 u a) f k 16 fun j hj=>by rw[zj1 _ _ _ _ hj,hd,hff j hj];rfl
  · cases h2
theorem UnSt.short {u:List UInt8} {a k:Nat} {b z:Bool} {xs:List UInt8} {f:Nat→Bool} (h:UnSt u a k 0 b xs) (hd:hdU u a k=true) (hf:8*u.length<zgt u a k+16):UnSt u a (k+1) 2 z (zjo xs k f 16) :=
  ⟨by have:=zeC xs k f 16;have:=h.1;omega,.inr ⟨rfl,by rw[zdT,hd];simpa using hf⟩⟩
theorem UnSt.start (u:List UInt8) (a:Nat) (h:a+16≤8*u.length):UnSt u a 0 0 false []:=⟨by simp,.inl ⟨rfl,h,rfl,rfl⟩⟩
theorem UnSt.start2 (u:List UInt8) (a:Nat) (h:8*u.length<a+16):UnSt u a 0 2 false []:=⟨by simp,.inr ⟨rfl,h⟩⟩
theorem UnSt.two {u:List UInt8} {a k:Nat} {b:Bool} {xs:List UInt8} (h:UnSt u a k 2 b xs) (hk:k≤16):zen u a=.error 2:=by
  obtain⟨h1,⟨h2,_⟩ | ⟨_,h2⟩⟩:=h
  · cases h2
  · unfold zen
    rw[if_pos (Nat.lt_of_lt_of_le h2 (zqf u a hk))]
theorem UnSt.end {u:List UInt8} {a:Nat} {b z:Bool} {xs:List UInt8} (h:UnSt u a 16 0 b xs) (hz:z = !(List.range 16).any (hdU u a)):zen u a=if b || z then .error 3 else .ok (xs,zgt u a 16):=by
  obtain⟨h1,⟨_,h3,h4,h5⟩ | ⟨h2,_⟩⟩:=h
  · unfold zen
    rw[if_neg (by omega),←h4,←hz,h5]
  · cases h2
theorem UnSt.er {u:List UInt8} {a k:Nat} {er:Int} {b:Bool} {xs:List UInt8} (h:UnSt u a k er b xs):er=0∨er=2:=by
  obtain⟨_,⟨h,_⟩ | ⟨h,_⟩⟩:=h
  · exact .inl h
  · exact .inr h
theorem zvw (u:List UInt8) (a k:Nat) (h:k<16):(B.num (B.slice u a 16)).testBit (15-k)=hdU u a k:=zfj u a 16 k h
theorem zoI (u:List UInt8) (a:Nat):((B.num (B.slice u a 16):Int) == 0) = !(List.range 16).any (hdU u a):=by
  have h:=zic u a 16;cases hb:(List.range 16).any (hdU u a) with
  | false =>
    have:=h.2 hb;rw[this];rfl
  | true =>
    have:B.num (B.slice u a 16)≠0:=fun e=>by have:=h.1 e;unfold hdU at hb;rw[hb] at this;cases this
    simp only[Bool.not_true,beq_eq_false_iff_ne];omega
theorem zlM (u:List UInt8) (a k:Nat):((B.num (zlU u a k):Int) == 0) = !(zlU u a k).any id:=by
  have h:=zdL (zlU u a k);cases hb:(zlU u a k).any id with
  | false =>
    have:=h.2 hb;rw[this];rfl
  | true =>
    have:B.num (zlU u a k)≠0:=fun e=>by rw[h.1 e] at hb;cases hb
    simp only[Bool.not_true,beq_eq_false_iff_ne];omega
theorem zvg (s:ByteArray) (a:Nat) (W:World) (hs:s.size≤1000000):∃ (v:Nat) (er:Int),v<65536∧((er=0∧a+16≤8*s.size∧v=B.num (B.slice s.data.toList a 16))∨(er=2∧8*s.size<a+16∧v=0)) ∧
    ∀ W,Calls Tryz.prog 231 #[.string s,.int .i64 (a:Nat),.int .i64 16] W fun e w'=>e=.returned (.tuple #[.int .u64 (v:Nat),.int .i64 er])∧W=w':=by
  have hl:s.data.toList.length=s.size:=by simp
  rcases Nat.lt_or_ge (8*s.size) (a+16) with h | h
  · exact⟨0,2,by omega,.inr ⟨rfl,h,rfl⟩,fun W=>zkq s a 16 W (by omega) (by omega) h⟩
  · refine⟨B.num (B.slice s.data.toList a 16),0,znH _ (B.length_slice _ _ _),.inl ⟨rfl,h,rfl⟩,fun W=>?_⟩
    have:=zdW s a (16:Nat) W (by omega)
    rw[zhw _ a 16 (by omega) (by omega),zgY _ a 16 (by omega) (by omega)] at this
    exact this
theorem zry (w:World) (s:ByteArray) (a:Nat) (hs:s.size≤1000000) (ha:a≤1000000000) :
    Calls Tryz.prog 284 #[.string s,.int .i64 (a:Nat)] w fun e w'=>zql w (zen s.data.toList a) e w':=by
  obtain⟨r,hr⟩:∃ r,zen s.data.toList a=r:=⟨_,rfl⟩;rw[hr];have hl:s.data.toList.length=s.size:=by simp
  obtain⟨v0,er0,hv0,hst0,C0⟩:=zvg s a w hs
  have CG:Hid (∀ a:Nat,∃ (v:Nat) (er:Int),v<65536∧((er=0∧a+16≤8*s.size∧v=B.num (B.slice s.data.toList a 16))∨(er=2∧8*s.size<a+16∧v=0)) ∧
    ∀ W,Calls Tryz.prog 231 #[.string s,.int .i64 (a:Nat),.int .i64 16] W fun e w'=>e=.returned (.tuple #[.int .u64 (v:Nat),.int .i64 er])∧W=w'):=fun a=>zvg s a w hs
  have HS0:Hid (UnSt s.data.toList a 0 er0 false []):=by
    rcases hst0 with ⟨rfl,h,_⟩ | ⟨rfl,h,_⟩
    · exact UnSt.start _ _ (by omega)
    · exact UnSt.start2 _ _ (by omega)
  have Hv:Hid (er0=0→v0=B.num (B.slice s.data.toList a 16)):=fun e=>by
    rcases hst0 with ⟨_,_,h⟩ | ⟨h,_⟩
    · exact h
    · rw[h] at e;cases e
  have HR:=Lib.hid hr;have HL:=Lib.hid hl;have Hst0:=Lib.hid hst0;have HC0:=Lib.hid C0;generalize s.data.toList=u at *
  clear hr hl hst0 C0
  go_enter Tryz.func284,Tryz.ntmps284
  go_wp2_with fail
  refine (HC0.out _).mono ?_;rintro e w_ ⟨rfl,rfl⟩
  go_wp2_with fail
  go_loopw [1,6,7,8,10] (fun av ev ov bv kv wr=>∃ (k:Nat) (er:Int) (b:Bool) (xs:List UInt8),k≤16∧kv=.int .i64 k∧av=.int .i64 (zgt u a k:Nat)∧ev=.int .i64 er∧bv=.bool b∧OwnBytes wr w.heap.size ov xs∧Below w.heap.size w wr∧UnSt u a k er b xs) (fun _ _ _ _ kv _=>16-(intOf kv).toNat)
  case atStart=>exact⟨0,er0,false,[],Nat.zero_le _,rfl,by unfold zgt;rw[zrf];go_num,rfl,rfl,OwnBytes.nil _ _,Below.refl _ _,HS0.out⟩
  case round =>
    obtain⟨k,er,b,xs,hk,rfl,rfl,rfl,rfl,hown,hB,hst⟩:=hrel;have Hst:=Lib.hid hst;have Hown:=Lib.hid hown;have hzB:=hB.size;have hol:=zub u a k;have hxl:=hst.1;have her:=hst.er;clear hst hown HS0 HC0;rcases her with rfl | rfl
    · have Hv0:Hid (v0=B.num (B.slice u a 16)):=by
        show _=_
        rcases Hst0.out with ⟨h1,_,h2⟩ | ⟨h1,h2,_⟩
        · exact h2
        · exfalso
          obtain⟨_,⟨_,h3,_⟩ | ⟨h3,_⟩⟩:=Hst.out
          · have:=HL.out;have:a+16≤zgt u a k:=by unfold zgt;omega
            omega
          · cases h3
      by_cases hlt:k<16
      · obtain⟨j,hj⟩:∃ j,15-k=j:=⟨_,rfl⟩
        have hj2:((15:Int)-(k:Int)).toNat=j:=by omega
        have hj3:(0:Int)≤15-(k:Int):=by omega
        have hbit:=zrY v0 j (by omega)
        have hhd:v0.testBit j=hdU u a k:=by rw[←hj,Hv0.out];exact zvw u a k hlt
        rw[hhd] at hbit;obtain⟨h,hh⟩:∃ h,hdU u a k=h:=⟨_,rfl⟩;rw[hh] at hbit;have Hh:=Lib.hid hh;clear hhd hh;cases h with
        | false =>
          simp only[Bool.not_false] at hbit;have hos:=zdT u a k;rw[Hh.out] at hos;simp only[Bool.false_eq_true,if_false,Nat.add_zero] at hos;have Hos:=Lib.hid hos;clear hos
          go_wp2_with fail
          go_roundw
          case rel=>exact⟨k+1,0,b,xs,by omega,by go_num,by rw[Hos.out],rfl,rfl,Hown.out,hB,Hst.out.no Hh.out⟩
          case measure=>simp[intOf];omega
        | true =>
          simp only[Bool.not_true] at hbit;obtain⟨v,er,hv,hst1,C⟩:=CG.out (zgt u a k);have HC:=Lib.hid C;have hos:=zdT u a k;rw[Hh.out,if_pos rfl] at hos;have Hos:=Lib.hid hos;obtain⟨z,hz⟩:∃ z,((v:Int) == 0)=z:=⟨_,rfl⟩;obtain⟨f,hf⟩:∃ f:Nat→Bool,∀ i,v.testBit (15-i)=f i:=⟨_,fun _=>rfl⟩
          have hnext:UnSt u a (k+1) er (b || z) (zjo xs k f 16):=by
            rcases hst1 with ⟨rfl,h1,h2⟩ | ⟨rfl,h1,h2⟩
            · refine Hst.out.yes Hh.out (by rw[HL.out];exact h1) (by rw[←hz,h2];exact zlM u a k) fun i hi=>?_
              rw[←hf i,h2]
              show _=(zlU u a k).getD i false
              unfold zlU;rw[zfj u _ 16 i hi,B.getD_slice _ _ _ _ hi]
            · exact Hst.out.short Hh.out (by rw[HL.out];exact h1)
          have Hnext:=Lib.hid hnext;have Hf:=Lib.hid hf;clear hos hnext hst1 hf C;cases b
          all_goals
            go_wp2_with fail
            refine (HC.out _).mono ?_;rintro e w_ ⟨rfl,rfl⟩
            go_wp2_with fail
            obtain⟨wo,rfl⟩:∃ wo:World,wo=wr:=⟨_,rfl⟩
            go_loopw [7,48] (fun ov iv wr=>∃ i:Nat,i≤16∧iv=.int .i64 i∧OwnBytes wr w.heap.size ov (zjo xs k f i)∧Below w.heap.size w wr) (fun _ iv _=>16-(intOf iv).toNat)
            case atStart=>exact⟨0,Nat.zero_le _,rfl,Hown.out,hB⟩
            case round =>
              obtain⟨i,hi,rfl,hown1,hB1⟩:=hrel;have Hown1:=Lib.hid hown1;have hzB1:=hB1.size;have hal:=zeC xs k f i;clear hown1
              by_cases hit:i<16
              · obtain⟨m,hm⟩:∃ m,15-i=m:=⟨_,rfl⟩
                have hm2:((15:Int)-(i:Int)).toNat=m:=by omega
                have hm3:(0:Int)≤15-(i:Int):=by omega
                have hbit1:=zm2 v m (by omega)
                have hfi:=Hf.out i;rw[hm] at hfi;rw[hfi] at hbit1;obtain⟨c,hc⟩:∃ c,f i=c:=⟨_,rfl⟩;rw[hc] at hbit1;have Hc:=Lib.hid hc;have hk1:((k:Int)*16+(i:Int))=((k*16+i:Nat):Int):=by omega
                have Hk1:=Lib.hid hk1;clear hfi hc hk1;cases c with
                | true =>
                  go_wp2_with
                    (at_builtin
                     refine za9 rfl _ _ rfl w.heap.size _ (zjo xs k f i) rfl (Hown1.out.alloc _) wr.heap.size (k*16+i) (by omega) rfl (by rw[←Hk1.out];exact zae _ _ _ rfl) (by omega) (by simp;omega) ?_
                     intro q' c' w1 hown2 hg1 hat1;have Hown2:=Lib.hid hown2;have hB2:Below w.heap.size w w1:=(hB1.alloc (by omega) _).grown hg1 (by simp;omega) (fun j hj=>zcG Hown1.out hj)
                     clear hg1 hat1 hown2)
                  go_roundw
                  case rel=>exact⟨i+1,by omega,by go_num,by rw[zrW Hc.out];exact Hown2.out,hB2⟩
                  case measure=>simp[intOf];omega
                | false =>
                  go_wp2_with fail
                  go_roundw
                  case rel=>exact⟨i+1,by omega,by go_num,by rw[zqi Hc.out];exact Hown1.out,hB1⟩
                  case measure=>simp[intOf];omega
              · obtain rfl:i=16:=by omega
                go_wp2_with fail
                go_roundw
                case rel=>exact⟨k+1,er,_,zjo xs k f 16,by omega,by go_num,by rw[Hos.out];go_num,rfl,rfl,Hown1.out,hB1,Hnext.out⟩
                case measure=>simp[intOf];omega
      · obtain rfl:k=16:=by omega
        obtain⟨z,hz⟩:∃ z,((v0:Int) == 0)=z:=⟨_,rfl⟩;have hend:=Hst.out.end (z:=z) (by rw[←hz,Hv0.out];exact zoI u a)
        rw[HR.out] at hend;have Hend:=Lib.hid hend;clear hend;have hcv:=zbb _ Hown.out;cases b
        · cases z
          · go_wp2_with fail
            go_ret3
            rw[Hend.out];exact⟨rfl,hB⟩
          · go_wp2_with fail
            go_ret3
            rw[Hend.out];exact⟨rfl,hB⟩
        · go_wp2_with fail
          go_ret3
          rw[Hend.out];exact⟨rfl,hB⟩
    · have htwo:=Hst.out.two hk
      rw[HR.out] at htwo;have Htwo:=Lib.hid htwo;clear htwo
      by_cases hlt:k<16
      · go_wp2_with fail
        go_ret3
        rw[Htwo.out];exact⟨rfl,hB⟩
      · go_wp2_with fail
        go_ret3
        rw[Htwo.out];exact⟨rfl,hB⟩
end Go.Proofs.YtoejfkeofbdalaaGreatDoor
namespace Go.Proofs.YtoejfkeofbdalaaGreatDoor
open Go.RowKit Go.Shelf
attribute [local go_sem] Oper.semAt_some
theorem ziX (R:Int) (hR:5≤R):∀ (m k:Nat) (l:List UInt8),l.length≤m→l.length≤k→zdy R m l=zdy R k l
  | 0,k,l,hm,hk=>by
    have hl:l=[]:=List.eq_nil_of_length_eq_zero (by omega)
    subst hl;cases k with
    | zero=>rfl
    | succ k=>rw[zdy,zdy,if_pos rfl]
  | m+1,k,l,hm,hk=>by
    by_cases hl:l=[]
    · subst hl
      cases k with
      | zero=>rw[zdy,zdy,if_pos rfl]
      | succ k=>rw[zdy,zdy,if_pos rfl,if_pos rfl]
    · have hpos:0<l.length:=List.length_pos_iff.2 hl
      obtain⟨k2,rfl⟩:∃ k2,k=k2+1:=⟨k-1,by omega⟩
      rw[zdy,zdy,if_neg hl,if_neg hl];have hc:=zee hl R hR;rw[ziX R hR m k2 (l.drop (zh1 l R)) (by rw[List.length_drop];omega) (by rw[List.length_drop];omega)]
def zbD (R:Int) (l:List UInt8):List (List UInt8):=zdy R l.length l
theorem zqD (R:Int):zbD R []=[]:=rfl
theorem zi9 (R:Int) (hR:5≤R) {l:List UInt8} (hl:l≠[]):zbD R l=l.take (zh1 l R)::zbD R (l.drop (zh1 l R)):=by
  have hpos:0<l.length:=List.length_pos_iff.2 hl;obtain⟨k,hk⟩:∃ k,l.length=k+1:=⟨l.length-1,by omega⟩
  have hc:=zee hl R hR;unfold zbD;rw[hk,zdy,if_neg hl];congr 1
  exact ziX R hR k _ _ (by rw[List.length_drop];omega) (Nat.le_refl _)
theorem zoF (R:Int) (hR:5≤R) (l:List UInt8):(zbD R l).flatten=l:=ziO R hR _ l (Nat.le_refl _)
theorem zr8 (R:Int) (hR:5≤R) (l:List UInt8):∀ p∈zbD R l,p≠[]∧(zaU p:Int)≤R:=zny R hR _ l
theorem zfg (R:Int) (hR:5≤R):∀ (m:Nat) (l:List UInt8),l.length≤m→(zbD R l).length≤l.length
  | 0,l,hm=>by
    have hl:l=[]:=List.eq_nil_of_length_eq_zero (by omega)
    subst hl;exact Nat.le_refl _
  | m+1,l,hm=>by
    by_cases hl:l=[]
    · subst hl;exact Nat.le_refl _
    · have hpos:0<l.length:=List.length_pos_iff.2 hl
      have hc:=zee hl R hR;have h1:=zfg R hR m (l.drop (zh1 l R)) (by rw[List.length_drop];omega)
      rw[zi9 R hR hl,List.length_cons];rw[List.length_drop] at h1;omega
def zqZ (x:List UInt8) (W:World):Prop:=x.length≤1000000
theorem zsh (s:ByteArray) (lv:Int) (w:World) :
    Calls Tryz.prog 38 #[.string s,.int .i64 lv] w fun e w'=>e=.returned (.func (.func 101) #[] #[.pointer (some ⟨w.heap.size,0,none⟩),.pointer (some ⟨w.heap.size+1,0,none⟩)])∧(w.alloc (.cells #[.string s] 9)).alloc (.cells #[.int .i64 lv] 3)=w':=by
  have hmf:=hmf
  go_enter Tryz.func38,Tryz.ntmps38
  go_wp2
  go_ret
  exact⟨by simp,rfl⟩
theorem zm0:Enters Tryz.prog 101:=enters_of Tryz.func101 (by kernel_rfl) rfl
theorem zuq (n:Nat) (hn:3≤n) (y b1 b2:Nat) (s:ByteArray) (hs:s.size≤1000000) (lv:Nat) (h1:1≤lv) (h9:lv≤9) (bad:Nat→Prop) (J Jx:List (List UInt8)→World→Prop) (W:World) (hb1:W.heap[b1]?=some (.cells #[.string s] 9 (0,0))) (hb2:W.heap[b2]?=some (.cells #[.int .i64 (lv:Nat)] 3 (0,0)))
    (hbad:¬ bad b1) (hbad2:¬ bad b2) (hne:b1≠b2)
    (hJ:∀ s A C,J s A→Below A.heap.size A C→J s C) (hJb:∀ s A u,J s A→J s (A.setCell ⟨b1,0,none⟩ u))
    (hY:∀ pre x W1,J pre W1→pre.length<(zbD (40*lv:Nat) s.data.toList).length→zqZ x W1→YieldAt Fence.wide (n-1) Tryz.prog y (pcE x) W1 fun e W'=>(e=.returned (.bool true)∧J (pre++[x]) W'∧KeepC bad W1 W'∧W1.heap.size≤W'.heap.size)∨(e=.returned (.bool false)∧Jx (pre++[x]) W'))
    (h0:J [] W) :
    CallsIn Fence.wide n Tryz.prog 101 #[.func (.yield y) #[] #[],.pointer (some ⟨b1,0,none⟩),.pointer (some ⟨b2,0,none⟩)] W fun e W'=>(∃ v,e=.returned v)∧((∃ xs,xs=zbD (40*lv:Nat) s.data.toList∧J xs W')∨(∃ pre,pre <+: zbD (40*lv:Nat) s.data.toList∧Jx pre W')):=by
  obtain⟨R,hR⟩:∃ R:Int,((40*lv:Nat):Int)=R:=⟨_,rfl⟩;rw[hR] at hY ⊢;have hR5:5≤R:=by omega
  have hwR:IntKind.i64.wrap ((lv:Int)*40)=R:=by rw[IntWalk.i64_in _ (by omega)];omega
  have CU:Hid (∀ (t:ByteArray),t.size≤1000000→∀ W,Calls Tryz.prog 102 #[.string t,.int .i64 R] W fun e w'=>e=.returned (.int .i64 (zh1 t.data.toList R:Nat))∧Below W.heap.size W w'):=fun t ht W=>zsT t R W ht (by omega) (by omega)
  have HBAD:=Lib.hid hbad;have HBAD2:=Lib.hid hbad2;have HJ:=Lib.hid hJ;have HJB:=Lib.hid hJb;have HY:=Lib.hid hY;have HB1:=Lib.hid hb1;have HB2:=Lib.hid hb2;have HNE:=Lib.hid hne;clear hbad hbad2 hJ hJb hY hb1 hb2 hR hne;refine callsIn_of_wp Tryz.func101 rfl trivial ?_ rfl;simp only[Tryz.ntmps101,List.size_toArray,List.length_cons,List.length_nil,Nat.reduceAdd,Nat.reduceSub,Array.replicate_succ,Array.replicate_zero,List.push_toArray,List.append_toArray,List.nil_append,List.cons_append];have h1n:1≤n:=by omega
  refine wpIn_block ?_
  gi_loopw [4] (fun nv wr=>∃ (pre:List (List UInt8)) (t:ByteArray),t.size≤1000000∧Hid (wr.heap[b1]?=some (.cells #[.string t] 9 (0,0)))∧Hid (wr.heap[b2]?=some (.cells #[.int .i64 (lv:Nat)] 3 (0,0)))∧Hid (pre++zbD R t.data.toList=zbD R s.data.toList)∧Hid (J pre wr)∧Hid (W.heap.size≤wr.heap.size)) (fun nv wr=>ztD (wr.cell? ⟨b1,0,none⟩))
  case atStart=>exact⟨[],s,hs,HB1.out,HB2.out,rfl,h0,Nat.le_refl _⟩
  case round =>
    clear h0 HB1 HB2;obtain⟨pre,t,ht,HB1,HB2,HP,HJ0,HZ⟩:=hrel;have kb1:wr.cell? ⟨b1,0,none⟩=some (.string t):=(zaa HB1.out 0).trans rfl;have kb2:wr.cell? ⟨b2,0,none⟩=some (.int .i64 (lv:Nat)):=(zaa HB2.out 0).trans rfl
    by_cases ht0:t.size=0
    · have hte:t=⟨#[]⟩:=by
        cases t with
        | mk d =>
          have:d.size=0:=ht0;rw[Array.eq_empty_of_size_eq_zero this]
      subst hte;have hp:=HP.out;have hnil:(⟨#[]⟩:ByteArray).data.toList=[]:=rfl;rw[hnil,zqD,List.append_nil] at hp;rw[hp] at HJ0;clear hp hnil
      gi_wp2_with fail
      refine bodyPost_end (results_none rfl _ _ _) rfl ?_
      first
        | exact⟨⟨_,rfl⟩,.inl ⟨_,rfl,HJ0.out⟩⟩
        | exact⟨⟨_,rfl⟩,.inl HJ0.out⟩
    · have hne:t.data.toList≠[]:=fun h=>ht0 (by have:=congrArg List.length h;simpa using this)
      have he1:t.toList.isEmpty=false:=by rw[List.isEmpty_eq_false_iff,ByteArray.toList_eq];exact hne
      have hc1:=zee hne R hR5;have hc2:=(zmz t.data.toList.length t.data.toList R (Nat.le_refl _) (by omega)).1
      have hlen:t.data.toList.length=t.size:=by simp
      rw[hlen] at hc2;have hpc:=zi9 R hR5 hne;have CUt:=Lib.hid (CU.out t ht);obtain⟨k,hk⟩:∃ k,zh1 t.data.toList R=k:=⟨_,rfl⟩;rw[hk] at hc1 hc2 hpc CUt;have HPC:=Lib.hid hpc;clear hk hlen hpc hne
      gi_wp2_with fail
      refine⟨trivial,(callsIn_wide.2 (CUt.out _)).mono ?_⟩;rintro e w1 ⟨rfl,hB1⟩;have HJ1:=Lib.hid (HJ.out _ _ _ HJ0.out hB1);have HB11:=Lib.hid ((hB1.block b1 (zab HB1.out)).trans HB1.out);have HB21:=Lib.hid ((hB1.block b2 (zab HB2.out)).trans HB2.out);have HZ1:Hid (W.heap.size≤w1.heap.size):=Nat.le_trans HZ.out hB1.size;have hk1:w1.cell? ⟨b1,0,none⟩=some (.string t):=(zaa HB11.out 0).trans rfl;have hex:t.extract 0 k=⟨(t.data.toList.take k).toArray⟩:=zfi t k;have hex2:(t.extract k t.size).data.toList=t.data.toList.drop k:=zgG t k
      have hpl:pre.length<(zbD R s.data.toList).length:=by
        rw[←HP.out,HPC.out,List.length_append,List.length_cons];omega
      have hok:zqZ (t.data.toList.take k) w1:=by
        show (t.data.toList.take k).length≤_
        have:t.data.toList.length=t.size:=by simp
        rw[List.length_take,this];omega
      obtain⟨fn,tmps,assign,body,hy,hRR⟩:=HY.out pre (t.data.toList.take k) w1 HJ1.out hpl hok;simp only[pcE,←hex] at hy
      have HP2:Hid ((pre++[t.data.toList.take k])++zbD R (t.extract k t.size).data.toList=zbD R s.data.toList):=by
        show _=_
        rw[hex2,List.append_assoc,List.singleton_append,←HPC.out];exact HP.out
      have hsz2:(t.extract k t.size).size≤1000000∧(t.extract k t.size).size<t.size:=by
        have h1:(t.extract k t.size).size=t.size-k:=by simp
        omega
      have HSZ:=Lib.hid hsz2;have hki:(k:Int)≤(t.size:Int):=by omega
      have hk0:(0:Int)≤(k:Int):=by omega
      have HKB0:=Lib.hid kb1;clear hpl hok hex hex2 hsz2 hB1 HJ0 HB1 HB2 kb1 kb2 HPC CUt
      gi_wp2_with fail
      refine hRR.mono ?_;rintro e W' (⟨rfl,hJ',hk',hz'⟩ | ⟨rfl,hJx'⟩)
      · have kb1':W'.heap[b1]?=some (.cells #[.string t] 9 (0,0)):=hk'.cells HBAD.out HB11.out
        have kb2':W'.heap[b2]?=some (.cells #[.int .i64 (lv:Nat)] 3 (0,0)):=hk'.cells HBAD2.out HB21.out;have kc1:W'.cell? ⟨b1,0,none⟩=some (.string t):=(zaa kb1' 0).trans rfl;have kf1:W'.frozen? ⟨b1,0,none⟩=false:=zac kb1' 0;have HKB:=Lib.hid kb1';have HKB2:=Lib.hid kb2';have HJ3:=Lib.hid hJ';have HZ2:Hid (W.heap.size≤W'.heap.size):=Nat.le_trans HZ1.out hz';clear hRR hy kb1' kb2' hJ' hk' hz' HJ1 hk1 HB11 HB21
        gi_wp2_with fail
        have h9:(W'.setCell ⟨b1,0,none⟩ (.string (t.extract k t.size))).heap[b1]?=some (.cells #[.string (t.extract k t.size)] 9 (0,0)):=zaf HKB.out 0 _;refine⟨⟨_,t.extract k t.size,HSZ.out.1,h9,(Below.heap_setCell _ _ _ _ (fun e=>HNE.out e.symm)).trans HKB2.out,HP2.out,HJB.out _ _ _ HJ3.out,?_⟩,?_⟩
        · show _≤_
          rw[show (W'.setCell ⟨b1,0,none⟩ (.string (t.extract k t.size))).heap.size=W'.heap.size by simp[World.setCell]];exact HZ2.out
        · rw[HKB0.out,(zaa h9 0).trans rfl]
          exact HSZ.out.2
      · clear hRR hy
        gi_wp2_with fail
        exact bodyPost_ret (results_none rfl _ _ _) rfl ⟨⟨_,rfl⟩,.inr ⟨_,⟨_,HP2.out⟩,hJx'⟩⟩
theorem zr3 (n:Nat) (hn:3≤n) (b1 b2:Nat) (s:ByteArray) (hs:s.size≤1000000) (lv:Nat) (h1:1≤lv) (h9:lv≤9) (bad:Nat→Prop) (w0:World) (hb1:w0.heap[b1]?=some (.cells #[.string s] 9 (0,0))) (hb2:w0.heap[b2]?=some (.cells #[.int .i64 (lv:Nat)] 3 (0,0))) (hbad:¬ bad b1) (hbad2:¬ bad b2) (hne:b1≠b2) :
    zqz b1 n 101 #[.pointer (some ⟨b1,0,none⟩),.pointer (some ⟨b2,0,none⟩)] pcE zqZ (KeepC bad) (fun xs=>xs=zbD (40*lv:Nat) s.data.toList) (fun pre=>pre <+: zbD (40*lv:Nat) s.data.toList) (zbD (40*lv:Nat) s.data.toList).length w0 :=
  fun y J Jx W hBW hJ hJx hJb hY h0=>zuq n hn y b1 b2 s hs lv h1 h9 bad J Jx W ((hBW.block b1 (zab hb1)).trans hb1) ((hBW.block b2 (zab hb2)).trans hb2) hbad hbad2 hne hJ hJb hY h0
end Go.Proofs.YtoejfkeofbdalaaGreatDoor
