import Derived.Test.YtoejfkeofbdalaaGreatDoorM29
set_option linter.unusedVariables false
set_option maxRecDepth 100000
set_option maxHeartbeats 8000000
namespace Go.Proofs.YtoejfkeofbdalaaGreatDoor
open Go.RowKit Go.Shelf
attribute [local go_sem] Oper.semAt_some
theorem zfe {fn:Func} {p q r:Tmp} {ty uy zy:TypeId} (h:fn.results=#[.cell p ty,.cell q uy,.cell r zy]) (tmps:Array Value) (P:Program) (w:World) (a b c:Addr) (v u z:Value) (hp:tmps.getD p undef=.pointer (some a)) (hq:tmps.getD q undef=.pointer (some b)) (hr:tmps.getD r undef=.pointer (some c)) (hl:(loadVar ty a).run P w=.ok v w) (hm:(loadVar uy b).run P w=.ok u w) (hn:(loadVar zy c).run P w=.ok z w):(results fn tmps).run P w=.ok (.tuple #[v,u,z]) w:=by
  have hp':tmps[p]?.getD undef=.pointer (some a):=by simpa using hp
  have hq':tmps[q]?.getD undef=.pointer (some b):=by simpa using hq
  have hr':tmps[r]?.getD undef=.pointer (some c):=by simpa using hr
  simp[results,h,hp',hq',hr',asAddr,hl,hm,hn]
def zvX:Except Int (Nat × Int)→Int × Int × Int
  | .ok (x,p)=>(x,p,0)
  | .error c=>(0,0,c)
theorem zsa (s:List UInt8) (a n:Int):0≤zd9 s a n:=by
  unfold zd9;split
  · omega
  · split <;> omega
theorem zuA (s:List UInt8) (a:Int) (n:Nat) (hn:n≤20):zd9 s a n<1048576:=by
  unfold zd9;split
  · omega
  · split
    · omega
    · have:=B.num_lt (B.slice s a.toNat (n:Int).toNat)
      rw[B.length_slice,Int.toNat_natCast] at this;have h2:(2:Nat) ^ n≤2 ^ 20:=Nat.pow_le_pow_right (by omega) hn
      have h3:(2:Nat) ^ 20=1048576:=by decide
      rw[Int.toNat_natCast];omega
theorem zru (s:List UInt8) (a n:Int) (h:zeO s a n=0):0≤n∧n≤64∧0≤a∧a≤8*(s.length:Int)-n:=by
  unfold zeO at h;split at h
  · cases h
  · split at h
    · cases h
    · omega
theorem znR (s:List UInt8) (a n:Int):zeO s a n=0∨zeO s a n=1∨zeO s a n=2:=by
  unfold zeO;split
  · simp
  · split <;> simp
theorem zoA {l:List Nat} {u:List UInt8} {a:Int} {n:Nat} (h:¬ zfB l u a n) (ns:List Nat):zbL l u a (n::ns)=zbL l u a [n]:=by
  rw[zbL,zbL]
  by_cases h1:zeO u a n≠0
  · rw[if_pos h1,if_pos h1]
  · rw[if_neg h1,if_neg h1]
    by_cases h2:2*zaH l (n-1)≤(zd9 u a n).toNat∧(zd9 u a n).toNat<2*zaH l (n-1)+l.count n
    · rw[if_pos h2,if_pos h2]
    · exact absurd ⟨by simpa using h1,h2⟩ h
theorem zlo {l:List Nat} {u:List UInt8} {a:Int} {ns:List Nat} {n:Nat} (hp:ns++[n] <+: zaG l 20) (hm:∀ m∈ns,zfB l u a m) (h:¬ zfB l u a n):zha l u a=zbL l u a [n]:=by
  obtain⟨r,hr⟩:=hp;unfold zha;rw[←hr,List.append_assoc,zeA hm];exact zoA h r
theorem zoq {l:List Nat} {u:List UInt8} {a:Int} (hm:∀ m∈zaG l 20,zfB l u a m):zha l u a=.error 3:=by
  have:=zeA hm [];rw[List.append_nil] at this;exact this
structure Bx5 (w W:World) (s:ByteArray) (a:Int) (x y z:Value):Prop where
  b0:Boxed W w.heap.size 9 (.string s)
  b1:Boxed W (w.heap.size+1) 3 (.int .i64 a)
  b2:Boxed W (w.heap.size+1+1) 3 x
  b3:Boxed W (w.heap.size+1+1+1) 3 y
  b4:Boxed W (w.heap.size+1+1+1+1) 25 z
  bel:Below w.heap.size w W
theorem Bx5.start (w:World) (s:ByteArray) (a:Int) :
    Bx5 w (((((w.alloc (.cells #[.string s] 9)).alloc (.cells #[.int .i64 a] 3)).alloc (.cells #[.int .i64 0] 3)).alloc (.cells #[.int .i64 0] 3)).alloc (.cells #[.int .i64 0] 25)) s a (.int .i64 0) (.int .i64 0) (.int .i64 0) :=
  ⟨((((Boxed.new w _ _).alloc _).alloc _).alloc _).alloc _,(((zco _ _ _ _ (by simp)).alloc _).alloc _).alloc _,((zco _ _ _ _ (by simp)).alloc _).alloc _,(zco _ _ _ _ (by simp)).alloc _,zco _ _ _ _ (by simp),
    (((((Below.refl _ w).alloc (Nat.le_refl _) _).alloc (by simp) _).alloc (by simp;omega) _).alloc (by simp;omega) _).alloc (by simp;omega) _⟩
theorem Bx5.step {w W W':World} {s:ByteArray} {a:Int} {x y z:Value} (h:Bx5 w W s a x y z) (hB:Below W.heap.size W W'):Bx5 w W' s a x y z :=
  ⟨(hB.block _ h.b0.lt).trans h.b0,(hB.block _ h.b1.lt).trans h.b1,(hB.block _ h.b2.lt).trans h.b2,(hB.block _ h.b3.lt).trans h.b3,(hB.block _ h.b4.lt).trans h.b4,h.bel.trans (hB.mono h.bel.size)⟩
theorem Bx5.set {w W:World} {s:ByteArray} {a:Int} {x y z:Value} (h:Bx5 w W s a x y z) (x' y' z':Value) :
    Bx5 w (((W.setCell ⟨w.heap.size+1+1,0,none⟩ x').setCell ⟨w.heap.size+1+1+1,0,none⟩ y').setCell ⟨w.heap.size+1+1+1+1,0,none⟩ z') s a x' y' z' :=
  ⟨((h.b0.other (by omega) _).other (by omega) _).other (by omega) _,((h.b1.other (by omega) _).other (by omega) _).other (by omega) _,
    ((Boxed.set _ h.b2).other (by omega) _).other (by omega) _,(Boxed.set _ (h.b3.other (by omega) _)).other (by omega) _,Boxed.set _ ((h.b4.other (by omega) _).other (by omega) _),
    ((h.bel.setCell (p:=⟨w.heap.size+1+1,0,none⟩) (by simp;omega) _).setCell (p:=⟨w.heap.size+1+1+1,0,none⟩) (by simp;omega) _).setCell (p:=⟨w.heap.size+1+1+1+1,0,none⟩) (by simp;omega) _⟩
theorem Bx5.own {β:Type} {w:World} (B:Nat) (hB:w.heap.size≤B) (s:ByteArray) (a:Int) (f:β→Value × Value × Value):OwnFrom B (fun (p:β) W=>Bx5 w W s a (f p).1 (f p).2.1 (f p).2.2):=fun p W W' row h hg hr =>
  ⟨boxed_own _ _ (fun _:β=>_) p W W' row h.b0 hg (fun r e=>(hr r e).2),boxed_own _ _ (fun _:β=>_) p W W' row h.b1 hg (fun r e=>(hr r e).2),boxed_own _ _ (fun _:β=>_) p W W' row h.b2 hg (fun r e=>(hr r e).2),
    boxed_own _ _ (fun _:β=>_) p W W' row h.b3 hg (fun r e=>(hr r e).2),boxed_own _ _ (fun _:β=>_) p W W' row h.b4 hg (fun r e=>(hr r e).2),ownFrom_below (β:=β) (w₀:=w) (Nat.le_refl _) hB p W W' row h.bel hg hr⟩
def zkD (r:Except Int (Nat × Int)):Value × Value × Value:=(.int .i64 ((zvX r).1),.int .i64 ((zvX r).2.1),.int .i64 ((zvX r).2.2))
theorem zrE (w:World) (v:Value) (l:List Nat) (s:ByteArray) (a:Int) (hv:IsInts w w.heap.size v (ints l)) (hl:Code l) (hs:s.size≤281474976710656) :
    Calls Tryz.prog 313 #[v,.string s,.int .i64 a] w fun e w'=>e=.returned (.tuple #[(zkD (zha l s.data.toList a)).1,(zkD (zha l s.data.toList a)).2.1,(zkD (zha l s.data.toList a)).2.2])∧Below w.heap.size w w':=by
  obtain⟨A,ca,rfl,hc1,hc2⟩:=hv.shape;have hli:=zad l;obtain⟨N,hN⟩:∃ N,l.length=N:=⟨_,rfl⟩;rw[hli,hN] at hc1 hv ⊢;have hN258:N≤258:=by rw[←hN];exact hl.most
  have CC:Hid (∀ W,IsInts W W.heap.size (.slice A N ca) (ints l)→Calls Tryz.prog 31 #[.slice A N ca] W fun e w'=>e=.returned (.int .i64 0)∧Below W.heap.size W w'):=fun W h=>by
    have:=zdQ W _ _ h (by rw[hli];omega)
    rw[hl.ok] at this;exact this
  have hsl:s.data.toList.length=s.size:=by simp
  have CG:Hid (∀ n W,Calls Tryz.prog 231 #[.string s,.int .i64 a,.int .i64 n] W fun e w'=>e=.returned (.tuple #[.int .u64 (zd9 s.data.toList a n),.int .i64 (zeO s.data.toList a n)])∧W=w'):=fun n W=>zdW s a n W hs;generalize s.data.toList=u at *
  have Hsl:=Lib.hid hsl;have Hv:=Lib.hid hv;have HN:=Lib.hid hN;have Hlc:=Lib.hid hl;obtain⟨D,hD⟩:∃ D:Nat,8≤D:=⟨8,by omega⟩
  have h1D:1≤D:=by omega
  clear hv hN hl hli hsl;refine (callsIn_wide (n:=D)).1 ?_;refine callsIn_of_wp_marks Tryz.func313 rfl trivial ?_ rfl;simp only[Tryz.ntmps313,List.size_toArray,List.length_cons,List.length_nil,Nat.reduceAdd,Nat.reduceSub,Array.replicate_succ,Array.replicate_zero,List.push_toArray,List.append_toArray,List.nil_append,List.cons_append];have hb0:=Bx5.start w s a
  gi_wp2_with fail
  generalize ((((w.alloc (.cells #[.string s] 9)).alloc (.cells #[.int .i64 a] 3)).alloc (.cells #[.int .i64 0] 3)).alloc (.cells #[.int .i64 0] 3)).alloc (.cells #[.int .i64 0] 25)=W0 at *
  refine⟨trivial,(callsIn_wide.2 (CC.out W0 ((Hv.out.below hb0.bel (Nat.le_refl _)).mono hb0.bel.size))).mono ?_⟩;rintro e w1 ⟨rfl,hB1⟩;have Hb:=Lib.hid (hb0.step hB1);clear hb0 hB1 CC
  gi_wp2_with fail
  refine⟨trivial,(callsIn_wide.2 (zi8 _ A N ca)).mono ?_⟩;rintro e w' ⟨rfl,rfl⟩
  gi_wp2_with fail
  have hal:Below w1.heap.size w1 (w1.alloc (.cells #[.slice A N ca] 67)):=(Below.refl _ _).alloc (Nat.le_refl _) _;have hbx:=Hb.out.step hal;have hW3:(w1.alloc (.cells #[.slice A N ca] 67)).heap[w1.heap.size]?=some (.cells #[.slice A N ca] 67 (0,0)):=zae _ _ _ rfl;have hWs:(w1.alloc (.cells #[.slice A N ca] 67)).heap.size=w1.heap.size+1:=by simp
  have hz4:=Hb.out.b4.lt;obtain⟨bl,hbl⟩:∃ bl,w1.heap.size=bl:=⟨_,rfl⟩;rw[hbl] at hW3 hWs hz4 ⊢;generalize w1.alloc (.cells #[.slice A N ca] 67)=W1 at *
  have hvW:=Hv.out.below hbx.bel (Nat.le_refl _);clear hal Hb hbl
  refine zjj (n:=D) h1D (gf:=229) (lb:=#[.pointer (some ⟨bl,0,none⟩)]) rfl zeW (encs:=zuW) (fun _=>rfl) (zjN l W1.heap.size) (fun _=>False)
    (zi7 (D-1) (by omega) bl w.heap.size l Hlc.out (fun _=>False) (.slice A N ca) W1 hvW hbx.bel.size ((zaa hW3 0).trans rfl) (fun k hk=>hk.elim)) (Below.refl _ _)
    (fun pre W=>Bx5 w W s a (.int .i64 0) (.int .i64 0) (.int .i64 0)∧∀ n∈pre.map (·.1),zfB l u a n)
    (fun c pre W=>∃ n ns,Bx5 w W s a (zkD (zbL l u a [n])).1 (zkD (zbL l u a [n])).2.1 (zkD (zbL l u a [n])).2.2∧c=Code.ret∧pre.map (·.1)=ns++[n]∧(∀ m∈ns,zfB l u a m)∧¬ zfB l u a n)
    (OwnFrom.and (Bx5.own _ hbx.bel.size s a (fun _:List Lev=>(.int .i64 0,.int .i64 0,.int .i64 0))) (ownFrom_pure _ (fun pre:List Lev=>∀ n∈pre.map (·.1),zfB l u a n)))
    (fun c pre W W' row h hg hr=>by
      obtain⟨n,ns,h1,h2⟩:=h;exact⟨n,ns,Bx5.own _ hbx.bel.size s a (fun _:Unit=>zkD (zbL l u a [n])) () W W' row h1 hg hr,h2⟩)
    ⟨hbx,fun n hn=>by simp at hn⟩
    (fun x a' W=>∃ lb,W1.heap.size≤lb∧a' = { tmps:=#[.slice A N ca,.string s,.int .i64 a,undef,.pointer (some ⟨w.heap.size,0,none⟩),.pointer (some ⟨w.heap.size+1,0,none⟩),.pointer (some ⟨w.heap.size+1+1,0,none⟩),.pointer (some ⟨w.heap.size+1+1+1,0,none⟩),.pointer (some ⟨w.heap.size+1+1+1+1,0,none⟩),.int .i64 0,.pointer (some ⟨lb,0,none⟩),undef,undef,.slice A N ca,.int .i64 0,.int .i64 0,.bool false,undef,.slice A N ca,.func (.func 229) #[] #[.pointer (some ⟨bl,0,none⟩)],.agg #[.int .i64 (x.1:Nat),.int .u64 (x.2.1:Nat),x.2.2],undef,undef,undef,undef,undef,undef,undef,undef,undef,undef,undef,undef,undef,undef,undef,undef,undef,undef,undef,undef,undef,undef,undef,undef,undef,undef,undef,undef,undef,undef],defers:=[] } ∧
      W.heap[lb]?=some (.cells #[.int .i64 (x.1:Nat),.int .u64 (x.2.1:Nat),x.2.2] 288 (0,0))∧zjN l W1.heap.size x W)
    (fun x a' s W W' row h hgr hr=>by
      obtain⟨lb,h0,h2,h3,h4,h5,h6,h7⟩:=h;exact⟨lb,h0,h2,zhY lb _ (fun _:Unit=>_) () W W' row h3 hgr (fun r e=>(hr r e).2),h4,h5,zc9 h6 hgr (fun r e=>(hr r e).2),h7⟩)
    ?assign ?body ?done ?stop
  case assign =>
    intro y pre x W K hi hok hlt hK;obtain⟨n,q,v⟩:=x;obtain⟨hk1,hk2,hk3,hk4⟩:n∈zaG l 20∧q=2*zaH l (n-1)∧IsInts W W.heap.size v (ints (zbr l n))∧∀ g o m c,v=.slice (some ⟨g,o,none⟩) m c→W1.heap.size≤g:=hok;obtain⟨sq,sc,rfl,hsc,_⟩:=hk3.shape;have Hok:Hid (zjN l W1.heap.size (n,q,.slice sq (ints (zbr l n)).length sc) W):=⟨hk1,hk2,hk3,hk4⟩;have HK:=Lib.hid hK;have Hi:=Lib.hid hi;clear hK hk1 hk2 hk3 hk4 hi hbx hvW hW3;simp only[zuW]
    gi_wp2_with fail
    have hBa:Below W.heap.size W (W.alloc (.cells #[.int .i64 (n:Nat),.int .u64 (q:Nat),.slice sq (ints (zbr l n)).length sc] 288)):=(Below.refl _ W).alloc (Nat.le_refl _) _
    exact HK.out _ _ ((KeepsOthers.alloc W _).from _) ((KeepC.refl _ _).below hBa) ⟨Hi.out.1.step hBa,Hi.out.2⟩
      ⟨W.heap.size,by omega,rfl,zae _ _ _ rfl,Hok.out.1,Hok.out.2.1,zc9 Hok.out.2.2.1 (zde hBa) (fun r e=>by cases e),Hok.out.2.2.2⟩
  case body =>
    rintro y pre x a' W ⟨hbox,hmiss⟩ ⟨lb,hlb,rfl,hlv,hok⟩ hlt hlen;have hbs0:=hbx.bel.size;obtain⟨n,q,v⟩:=x;have Hlb:=Lib.hid hlb;have Hws:=Lib.hid hWs;have Hz4:=Lib.hid hz4;have n2:¬ lb=w.heap.size+1+1:=by omega
    have n3:¬ lb=w.heap.size+1+1+1:=by omega
    have n4:¬ lb=w.heap.size+1+1+1+1:=by omega
    have m2:¬ w.heap.size+1+1=lb:=by omega
    have m3:¬ w.heap.size+1+1+1=lb:=by omega
    have m4:¬ w.heap.size+1+1+1+1=lb:=by omega
    obtain⟨hk1,hk2,hk3,hk4⟩:n∈zaG l 20∧q=2*zaH l (n-1)∧IsInts W W.heap.size v (ints (zbr l n))∧∀ g o m c,v=.slice (some ⟨g,o,none⟩) m c→W1.heap.size≤g:=hok;have hn20:=(zcm l 20 n).1 hk1
    have hqb:q≤1048576:=by
      have h1:=zgA l Hlc.out.fits Hlc.out.room (n-1) (by omega)
      have h2:2 ^ (n-1)≤2 ^ 19:=Nat.pow_le_pow_right (by omega) (by omega)
      have h3:(2:Nat) ^ 19=524288:=by decide
      omega
    obtain⟨sq,sc,rfl,hsc,_⟩:=hk3.shape;have hlw:=zaY l n;have hwle:=zdP l n;rw[zad] at hk3 hlv hsc ⊢;rw[HN.out] at hwle;obtain⟨C,hC⟩:∃ C,(zbr l n).length=C:=⟨_,rfl⟩;rw[hC] at hk3 hlv hlw hsc hwle ⊢;have HC:=Lib.hid hC;have Hk3:=Lib.hid hk3;have Hk4:=Lib.hid hk4;have Hq:=Lib.hid hk2;have Hlw:=Lib.hid hlw;have Hbox:=Lib.hid hbox;have Hmiss:=Lib.hid hmiss;have hd:1≤D-1-1:=by omega
    have k0:=(zaa hlv 0).trans rfl;have k1:=(zaa hlv 1).trans rfl;have k2:=(zaa hlv 2).trans rfl;have c0:=hbox.b0.cell;have c1:=hbox.b1.cell;have c2:=hbox.b2.cell;have c3:=hbox.b3.cell;have c4:=hbox.b4.cell;have f2:=hbox.b2.frozen;have f3:=hbox.b3.frozen;have f4:=hbox.b4.frozen;have l2:=hbox.b2.lt;have l3:=hbox.b3.lt;have l4:=hbox.b4.lt;have CG1:=Lib.hid (CG.out n);have hec:=znR u a n;have hez:=zru u a n;have hvn:=zsa u a n;have hvl:=zuA u a n hn20.2.1
    have hgo:zbL l u a [n]=if zeO u a n≠0 then .error (zeO u a n)
      else if 2*zaH l (n-1)≤(zd9 u a n).toNat∧(zd9 u a n).toNat<2*zaH l (n-1)+l.count n then .ok ((zbr l n)[(zd9 u a n).toNat-2*zaH l (n-1)]?.getD 0,a+n)
      else .error 3:=rfl
    have hmn:zfB l u a n↔zeO u a n=0∧¬ (2*zaH l (n-1)≤(zd9 u a n).toNat∧(zd9 u a n).toNat<2*zaH l (n-1)+l.count n):=Iff.rfl;rw[←hk2,←hlw] at hgo hmn;generalize zeO u a n=E at *
    obtain⟨V,hV⟩:∃ V:Nat,zd9 u a n=(V:Int):=⟨(zd9 u a n).toNat,by omega⟩
    rw[hV,Int.toNat_natCast] at hgo hmn;rw[hV] at CG1 hvl;have hvl2:V<1048576:=by omega
    have Hgo:=Lib.hid hgo;have Hmn:=Lib.hid hmn;have Hez:=Lib.hid hez;have Hec:=Lib.hid hec;clear hlv hbox hmiss hk1 hk2 hk3 hk4 hC hlw hW3 hvW hbx hlen hec hez hvn hvl hgo hmn hV hWs hz4 hbs0 hlb
    gi_wp2_with fail
    refine⟨trivial,(CallsIn.inRound y (callsIn_wide.2 (CG1.out W))).mono ?_⟩;rintro e w_ ⟨rfl,rfl⟩;have hko:∀ x y z:Value,KeepsOthers W (((W.setCell ⟨w.heap.size+1+1,0,none⟩ x).setCell ⟨w.heap.size+1+1+1,0,none⟩ y).setCell ⟨w.heap.size+1+1+1+1,0,none⟩ z):=fun x y z=>((KeepsOthers.setCell W _ _).trans (KeepsOthers.setCell _ _ _)).trans (KeepsOthers.setCell _ _ _);have Hko:=Lib.hid hko;clear hko
    by_cases hE:E=0
    · subst hE
      by_cases hhit:q≤V∧V<q+C
      · have hmi:Hid (¬ zfB l u a n):=fun h=>(Hmn.out.1 h).2 hhit
        obtain⟨d,hd2⟩:∃ d,V-q=d:=⟨_,rfl⟩;have hdC:d<C:=by omega
        obtain⟨g2,o2,rfl,hg2,hx⟩:=Hk3.out.at d (by rw[zad,HC.out];exact hdC)
        obtain⟨s2,hs2⟩:∃ s,(zbr l n)[d]?=some s:=⟨_,List.getElem?_eq_getElem (by rw[HC.out];exact hdC)⟩
        have hxe:(ints (zbr l n))[d]?.getD 0=(s2:Int):=by simp[ints,hs2]
        rw[hxe] at hx
        have hgoE:Hid (zbL l u a [n] = .ok (s2,a+n)):=by
          show _=_
          rw[Hgo.out,if_neg (by simp),if_pos hhit,hd2,hs2]
          rfl
        have hwr:IntKind.u64.wrap ((V:Int)-(q:Int))=(d:Int):=by rw[IntKind.wrap_u64];omega
        have hdi:(d:Int)<(C:Int):=by omega
        have hdi0:(0:Int)≤(d:Int):=by omega
        have hza:=Hez.out rfl;have hsb:=Hsl.out;have hwa:IntKind.i64.wrap (a+(n:Int))=a+(n:Int):=IntWalk.i64_in _ (by omega)
        have hmx:Tryz.prog.follows .mixedOrders=true:=by kernel_rfl
        have hg2l:=Hk4.out g2 o2 _ _ rfl;have hws:=Hws.out;have hz4:=Hz4.out;have p2:¬ g2=w.heap.size+1+1:=by omega
        have p3:¬ g2=w.heap.size+1+1+1:=by omega
        have p4:¬ g2=w.heap.size+1+1+1+1:=by omega
        have q2:¬ w.heap.size+1+1=g2:=by omega
        have q3:¬ w.heap.size+1+1+1=g2:=by omega
        have q4:¬ w.heap.size+1+1+1+1=g2:=by omega
        clear hg2l hws hz4;clear hhit hd2 hs2 hxe hza hsb hdC
        gi_wp2_with fail
        refine zdv (S:=(fun w'=>w'.cell? ⟨lb,0,none⟩=some (.int .i64 (n:Nat))∧w'.cell? ⟨lb,2,none⟩=some (.slice (some ⟨g2,o2,none⟩) C sc)∧w'.cell? ⟨w.heap.size+1,0,none⟩=some (.int .i64 a)∧w'.cell? ⟨g2,o2+d,none⟩=some (.int .i64 (s2:Int)))) (by kernel_rfl) (by kernel_rfl) (fun hHeld=>?_) ?_
        rotate_left
        · (refine⟨?_,?_,?_,?_⟩ <;> (go_simp;try assumption))
        refine zay (v:=?_) 0 (by simp only[List.getElem?_toArray,List.getElem?_cons_zero];rfl) (by kernel_rfl) (fun _ _ _ h=>h) (by rfl) (by assumption) ?_ ?_
        rotate_left
        · (intro w hSw;(try dsimp only at hSw);go_simp;try with_reducible rfl)
        try simp only[Act.put,List.setIfInBounds_toArray,List.set_cons_zero,List.set_cons_succ]
        refine zay (v:=?_) 1 (by simp only[List.getElem?_toArray,List.getElem?_cons_succ,List.getElem?_cons_zero];rfl) (by kernel_rfl) (fun _ _ _ h=>h) (by rfl) (by assumption) ?_ ?_
        rotate_left
        · (intro w hSw;(try dsimp only at hSw);go_simp;try with_reducible rfl)
        try simp only[Act.put,List.setIfInBounds_toArray,List.set_cons_zero,List.set_cons_succ]
        refine zay (v:=?_) 2 (by simp only[List.getElem?_toArray,List.getElem?_cons_succ,List.getElem?_cons_zero];rfl) (by kernel_rfl) (fun _ _ _ h=>h) (by rfl) (by assumption) ?_ ?_
        rotate_left
        · (intro w hSw;(try dsimp only at hSw);go_simp;try with_reducible rfl)
        try simp only[Act.put,List.setIfInBounds_toArray,List.set_cons_zero,List.set_cons_succ]
        refine zay (v:=?_) 3 (by simp only[List.getElem?_toArray,List.getElem?_cons_succ,List.getElem?_cons_zero];rfl) (by kernel_rfl) (fun _ _ _ h=>h) (by rfl) (by assumption) ?_ ?_
        rotate_left
        · (intro w hSw;(try dsimp only at hSw);go_simp;try with_reducible rfl)
        try simp only[Act.put,List.setIfInBounds_toArray,List.set_cons_zero,List.set_cons_succ]
        refine zay (v:=?_) 4 (by simp only[List.getElem?_toArray,List.getElem?_cons_succ,List.getElem?_cons_zero];rfl) (by kernel_rfl) (fun _ _ _ h=>h) (by rfl) (by assumption) ?_ ?_
        rotate_left
        · (intro w hSw;(try dsimp only at hSw);go_simp;try with_reducible rfl)
        try simp only[Act.put,List.setIfInBounds_toArray,List.set_cons_zero,List.set_cons_succ]
        refine zay (v:=?_) 5 (by simp only[List.getElem?_toArray,List.getElem?_cons_succ,List.getElem?_cons_zero];rfl) (by kernel_rfl) (fun _ _ _ h=>h) (by rfl) (by assumption) ?_ ?_
        rotate_left
        · (intro w hSw;(try dsimp only at hSw);go_simp;try with_reducible rfl)
        try simp only[Act.put,List.setIfInBounds_toArray,List.set_cons_zero,List.set_cons_succ]
        refine zay (v:=?_) 6 (by simp only[List.getElem?_toArray,List.getElem?_cons_succ,List.getElem?_cons_zero];rfl) (by kernel_rfl) (fun _ _ _ h=>h) (by rfl) (by assumption) ?_ ?_
        rotate_left
        · (intro w hSw;(try dsimp only at hSw);go_simp;try with_reducible rfl)
        try simp only[Act.put,List.setIfInBounds_toArray,List.set_cons_zero,List.set_cons_succ]
        refine zay (v:=?_) 7 (by simp only[List.getElem?_toArray,List.getElem?_cons_succ,List.getElem?_cons_zero];rfl) (by kernel_rfl) (fun _ _ _ h=>h) (by rfl) (by assumption) ?_ ?_
        rotate_left
        · (intro w hSw;(try dsimp only at hSw);go_simp;try with_reducible rfl)
        try simp only[Act.put,List.setIfInBounds_toArray,List.set_cons_zero,List.set_cons_succ]
        refine zay (v:=?_) 8 (by simp only[List.getElem?_toArray,List.getElem?_cons_succ,List.getElem?_cons_zero];rfl) (by kernel_rfl) (fun _ _ _ h=>h) (by rfl) (by assumption) ?_ ?_
        rotate_left
        · (intro w hSw;(try dsimp only at hSw);go_simp;try with_reducible rfl)
        try simp only[Act.put,List.setIfInBounds_toArray,List.set_cons_zero,List.set_cons_succ]
        refine za4 9 (by simp only[List.getElem?_toArray,List.getElem?_cons_succ,List.getElem?_cons_zero];rfl) (by kernel_rfl) (by rfl) (fun K hK=>?_)
        go_simp
        skip
        refine hK.out _ _ ?_ (fun hHeld=>?_)
        · (refine⟨?_,?_,?_,?_⟩ <;> (go_simp;try assumption))
        clear hK K
        try simp only[Act.put,List.setIfInBounds_toArray,List.set_cons_zero,List.set_cons_succ]
        refine za4 10 (by simp only[List.getElem?_toArray,List.getElem?_cons_succ,List.getElem?_cons_zero];rfl) (by kernel_rfl) (by rfl) (fun K hK=>?_)
        go_simp
        skip
        refine hK.out _ _ ?_ (fun hHeld=>?_)
        · (refine⟨?_,?_,?_,?_⟩ <;> (go_simp;try assumption))
        clear hK K
        try simp only[Act.put,List.setIfInBounds_toArray,List.set_cons_zero,List.set_cons_succ]
        refine za4 11 (by simp only[List.getElem?_toArray,List.getElem?_cons_succ,List.getElem?_cons_zero];rfl) (by kernel_rfl) (by rfl) (fun K hK=>?_)
        go_simp
        skip
        refine hK.out _ _ ?_ (fun hHeld=>?_)
        · (refine⟨?_,?_,?_,?_⟩ <;> (go_simp;try assumption))
        clear hK K
        try simp only[Act.put,List.setIfInBounds_toArray,List.set_cons_zero,List.set_cons_succ]
        refine wpAnyH_done (by kernel_rfl) ?_ _
        refine NormalOnly.normal ?_
        all_goals gi_wp2_with fail
        all_goals exact⟨((KeepsOthers.drew W).trans (((KeepsOthers.setCell _ _ _).trans (KeepsOthers.setCell _ _ _)).trans (KeepsOthers.setCell _ _ _))).from _,n,pre.map (·.1),by rw[hgoE.out];exact (Hbox.out.step (Below.refl _ W).drew).set _ _ _,rfl,by rw[List.map_append];rfl,Hmiss.out,hmi.out⟩
      · have hmi:Hid (zfB l u a n):=Hmn.out.2 ⟨rfl,hhit⟩
        obtain⟨z,hwr,hzC⟩:∃ z:Nat,IntKind.u64.wrap ((V:Int)-(q:Int))=(z:Int)∧C≤z:=by
          by_cases h:q≤V
          · exact⟨V-q,by rw[IntKind.wrap_u64];omega,by omega⟩
          · exact⟨V+18446744073709551616-q,by rw[IntKind.wrap_u64];omega,by omega⟩
        have hzc:decide (z<C)=false:=by rw[decide_eq_false_iff_not];omega
        clear hhit hzC
        gi_wp2_with fail
        exact⟨KeepsFrom.refl _ _,KeepC.refl _ _,Hbox.out,fun m hm=>by
          rw[List.map_append,List.mem_append] at hm;rcases hm with hm | hm
          · exact Hmiss.out m hm
          · simp at hm
            rw[hm];exact hmi.out⟩
    · have hE1:(E != 0)=true:=by rw[bne_iff_ne];exact hE
      have hgoE:Hid (zbL l u a [n] = .error E):=by
        show _=_
        rw[Hgo.out,if_pos hE]
      have hmi:Hid (¬ zfB l u a n):=fun h=>hE (Hmn.out.1 h).1;clear hE
      gi_wp2_with fail
      exact⟨(Hko.out _ _ _).from _,n,pre.map (·.1),by rw[hgoE.out];exact Hbox.out.set _ _ _,rfl,by rw[List.map_append];rfl,Hmiss.out,hmi.out⟩
  case done =>
    rintro Dd xs W hDd hS ⟨hbox,hmiss⟩ hK;have hS2:xs.map (·.1)=zaG l 20:=hS;rw[hS2] at hmiss;have hres:=zoq hmiss;have Hres:=Lib.hid hres;have Hbox:=Lib.hid hbox;have c2:=hbox.b2.cell;have c3:=hbox.b3.cell;have c4:=hbox.b4.cell;have f2:=hbox.b2.frozen;have f3:=hbox.b3.frozen;have f4:=hbox.b4.frozen;have l2:=hbox.b2.lt;have l3:=hbox.b3.lt;have l4:=hbox.b4.lt;have hbs:=hbx.bel.size;have Hbs:=Lib.hid hbs;have Hdd:=Lib.hid (show w.heap.size+1+1+1+1<Dd by omega)
    clear hmiss hres hbox hbx hW3 hvW hS hS2 hWs hz4 hbs
    gi_wp2_with fail
    have hdd:=Hdd.out;have hs:=Hbox.out.set (.int .i64 0) (.int .i64 0) (.int .i64 3)
    have hK2:(((W.setCell ⟨w.heap.size+1+1,0,none⟩ (.int .i64 0)).setCell ⟨w.heap.size+1+1+1,0,none⟩ (.int .i64 0)).setCell ⟨w.heap.size+1+1+1+1,0,none⟩ (.int .i64 3)).heap[Dd]?=some (.deferred (some [])):=by
      rw[Below.heap_setCell _ _ _ _ (by simp;omega),Below.heap_setCell _ _ _ _ (by simp;omega),Below.heap_setCell _ _ _ _ (by simp;omega),hK]
    have hp:=(Bx5.own W1.heap.size Hbs.out s a (fun _:Unit=>((.int .i64 0,.int .i64 0,.int .i64 3):Value × Value × Value))).putObj (s:=()) (.deferred none) hs hDd hK2 rfl;refine⟨by simp,.inl ⟨_,_,rfl,run_takeDeferred hK2,?_⟩⟩
    exact⟨_,zfe rfl _ _ _ _ _ _ _ _ _ rfl rfl rfl (zaV _ _ _ hp.b2.cell) (zaV _ _ _ hp.b3.cell) (zaZ _ _ _ hp.b4.cell),by rw[Hres.out];rfl,hp.bel⟩
  case stop =>
    rintro Dd c pre W hDd hS ⟨n,ns,hbox,rfl,hpre,hmiss,hhit⟩ hK;have hS2:pre.map (·.1) <+: zaG l 20:=hS;rw[hpre] at hS2;have hres:=zlo hS2 hmiss hhit;have Hres:=Lib.hid hres;have Hbox:=Lib.hid hbox;have hbs:=hbx.bel.size;have Hbs:=Lib.hid hbs;clear hmiss hres hbox hbx hW3 hvW hS hS2 hpre hhit hWs hz4 hbs
    gi_wp2_with fail
    have hp:=(Bx5.own W1.heap.size Hbs.out s a (fun _:Unit=>zkD (zbL l u a [n]))).putObj (s:=()) (.deferred none) Hbox.out hDd hK rfl;refine⟨by simp,.inl ⟨_,_,rfl,run_takeDeferred hK,?_⟩⟩
    exact⟨_,zfe rfl _ _ _ _ _ _ _ _ _ rfl rfl rfl (zaV _ _ _ hp.b2.cell) (zaV _ _ _ hp.b3.cell) (zaZ _ _ _ hp.b4.cell),by rw[Hres.out],hp.bel⟩
end Go.Proofs.YtoejfkeofbdalaaGreatDoor
namespace Go.Proofs.YtoejfkeofbdalaaGreatDoor
open Go.RowKit
theorem zr0 (l:List Nat) {j k:Nat} (h:j≤k):zaH l j*2 ^ (k-j)≤zaH l k:=by
  induction k with
  | zero =>
    obtain rfl:j=0:=by omega
    simp
  | succ k ih =>
    rcases Nat.lt_or_ge k j with h1 | h1
    · obtain rfl:j=k+1:=by omega
      simp
    · have:=ih h1
      rw[show k+1-j=(k-j)+1 by omega,Nat.pow_succ,zaH,←Nat.mul_assoc]
      omega
theorem zp3 (u:List UInt8) (a:Nat) {j k:Nat} (h:j≤k):B.num (B.slice u a j)=B.num (B.slice u a k) / 2 ^ (k-j):=by
  obtain⟨d,rfl⟩:∃ d,k=j+d:=⟨k-j,by omega⟩
  rw[B.slice_append,B.num_append,B.length_slice,Nat.add_sub_cancel_left];have:=B.num_lt (B.slice u (a+j) d);rw[B.length_slice] at this;rw[Nat.mul_comm,Nat.mul_add_div (Nat.pow_pos (by omega)),Nat.div_eq_of_lt this,Nat.add_zero]
def zr2 (l:List Nat) (u:List UInt8) (a:Int) (s n:Nat):Prop:=l[s]?=some n∧0≤a∧a+n≤8*(u.length:Int)∧B.num (B.slice u a.toNat n)=zcO l s
theorem zdj (u:List UInt8) (a:Int) (n:Nat) (hn:n≤64):zeO u a n=0↔0≤a∧a+n≤8*(u.length:Int):=by
  unfold zeO;split
  · constructor
    · intro h;cases h
    · intro h;omega
  · split
    · constructor
      · intro h;cases h
      · intro h;omega
    · constructor
      · intro _;omega
      · intro _;rfl
theorem ziz (u:List UInt8) (a:Int) (n:Nat) (hn:n≤64) (h:zeO u a n=0):(zd9 u a n).toNat=B.num (B.slice u a.toNat n):=by
  have:=(zdj u a n hn).1 h;unfold zd9;rw[if_neg (by omega),if_neg (by omega)]
  simp
theorem zoo {l:List Nat} (h:Code l) {s n:Nat} (hs:l[s]?=some n):1≤n∧n≤20∧0<l.count n∧2*zaH l (n-1)≤zcO l s∧zcO l s<zaH l n:=by
  have hn:=h.fits n (List.mem_of_getElem? hs);have hc:0<l.count n:=List.count_pos_iff.2 (List.mem_of_getElem? hs);have hr:=zed l n s hs;have hl:=(List.getElem?_eq_some_iff.1 hr).1;rw[zaY] at hl;obtain⟨k,rfl⟩:∃ k,n=k+1:=⟨n-1,by omega⟩
  refine⟨hn.1,hn.2,hc,?_,?_⟩
  · unfold zcO
    rw[hs];simp
  · unfold zcO
    rw[hs];simp only[Option.getD_some,Nat.add_sub_cancel];rw[zaH];omega
theorem zpg {l:List Nat} (h:Code l) (u:List UInt8) (a:Int) (s n:Nat) (hs:zr2 l u a s n):zha l u a=.ok (s,a+n):=by
  obtain⟨h1,h2,h3,h4⟩:=hs;obtain⟨r1,r2,r3,r4,r5⟩:=zoo h h1;have hE:=(zdj u a n (by omega)).2 ⟨h2,h3⟩
  have hV:=ziz u a n (by omega) hE
  obtain⟨ms,hms⟩:=zcS l r2;obtain⟨k,rfl⟩:∃ k,n=k+1:=⟨n-1,by omega⟩
  rw[zb2,if_pos r3] at hms
  have hmiss:∀ j∈zaG l k,zfB l u a j:=by
    intro j hj;obtain⟨j1,j2,j3⟩:=(zcm l k j).1 hj;have jE:=(zdj u a j (by omega)).2 ⟨h2,by omega⟩
    refine⟨jE,?_⟩;rw[ziz u a j (by omega) jE,zp3 u a.toNat (show j≤k+1 by omega),h4]
    intro hh;have hu:=zr0 l (show j≤k by omega)
    have hj2:2*zaH l (j-1)+l.count j=zaH l j:=by
      obtain⟨i,rfl⟩:∃ i,j=i+1:=⟨j-1,by omega⟩
      rfl
    rw[hj2] at hh
    have h5:zaH l j*2 ^ (k+1-j)≤zcO l s:=by
      rw[show k+1-j=(k-j)+1 by omega,Nat.pow_succ,←Nat.mul_assoc]
      simp only[Nat.add_sub_cancel] at r4;omega
    have h6:zaH l j≤zcO l s / 2 ^ (k+1-j):=(Nat.le_div_iff_mul_le (Nat.pow_pos (by omega))).2 h5
    omega
  unfold zha;rw[←hms,List.append_assoc,zeA hmiss,List.singleton_append,zbL,if_neg (by rw[hE];simp),hV,h4]
  have hr:=zed l (k+1) s h1
  have hw:zcO l s-2*zaH l (k+1-1)=(l.take s).count (k+1):=by
    unfold zcO;rw[h1];simp
  rw[if_pos ⟨r4,by rw[zaH] at r5;exact r5⟩,hw,hr]
  rfl
abbrev zuE:=Except Int (List Nat × Nat)
abbrev zu8:=Except Int (List Nat × List Bool)
def zrO {α:Type} (l:List Nat):Except Int (List Nat × α)→Except Int (List Nat × α)
  | .error e=>.error e
  | .ok (m,x)=>.ok (l++m,x)
theorem zsV {α:Type} (r:Except Int (List Nat × α)):zrO [] r=r:=by
  cases r with
  | error e=>rfl
  | ok p=>rfl
theorem zri {α:Type} (l m:List Nat) (r:Except Int (List Nat × α)):zrO l (zrO m r)=zrO (l++m) r:=by
  cases r with
  | error e=>rfl
  | ok p=>simp[zrO]
def zkg (s:List UInt8):Nat→Nat→Nat→zuE
  | 0,_,a=>.ok ([],a)
  | c+1,now,a =>
    match zct s (8*s.length+1) now a with
    | .error e=>.error e
    | .ok (m,b)=>zrO [m] (zkg s c m b)
def zll (s:List UInt8) (a c:Nat):zuE :=
  if 8*s.length<a+5 then .error 2
  else if B.num (B.slice s a 5)<1∨20<B.num (B.slice s a 5) then .error 3
  else zkg s c (B.num (B.slice s a 5)) (a+5)
def zgL:Nat→List Bool→Except Int (Nat × List Bool)
  | _,[]=>.error 2
  | n,false::r=>.ok (n,r)
  | _,[true]=>.error 2
  | n,true::b::r=>if b then (if 2≤n then zgL (n-1) r else .error 3) else (if n≤19 then zgL (n+1) r else .error 3)
def zln:Nat→Nat→List Bool→zu8
  | 0,_,l=>.ok ([],l)
  | c+1,now,l =>
    match zgL now l with
    | .error e=>.error e
    | .ok (m,r)=>zrO [m] (zln c m r)
def znk (c:Nat) (l:List Bool):zu8 :=
  if l.length<5 then .error 2
  else if B.num (l.take 5)<1∨20<B.num (l.take 5) then .error 3
  else zln c (B.num (l.take 5)) (l.drop 5)
def zgc {α:Type} (n:Nat):Except Int (α × List Bool)→Except Int (α × Nat)
  | .error e=>.error e
  | .ok (m,r)=>.ok (m,n-r.length)
theorem zgi (s:List UInt8):∀ (F n a:Nat),8*s.length<a+F→zct s F n a=zgc (8*s.length) (zgL n (rest s a)):=by
  intro F
  induction F with
  | zero =>
    intro n a h;rw[zgy s a (by omega)]
    rfl
  | succ F ih =>
    intro n a h;rw[zct]
    by_cases h1:8*s.length<a+1
    · rw[if_pos h1,zgy s a (by omega)]
      rfl
    rw[if_neg h1,zg8 s a (by omega)]
    cases hb:B.bitAt s a with
    | false =>
      rw[if_pos rfl];simp only[zgL,zgc,zbt];rw[show 8*s.length-(8*s.length-(a+1))=a+1 by omega]
    | true =>
      rw[if_neg (by simp)]
      by_cases h2:8*s.length<a+1+1
      · rw[if_pos h2,zgy s (a+1) (by omega)]
        rfl
      rw[if_neg h2,zg8 s (a+1) (by omega)]
      cases hc:B.bitAt s (a+1) with
      | true =>
        simp only[zgL,if_true]
        by_cases hn:2≤n
        · rw[if_pos hn,if_pos hn]
          exact ih _ _ (by omega)
        · rw[if_neg hn,if_neg hn]
          rfl
      | false =>
        simp only[zgL,Bool.false_eq_true,if_false]
        by_cases hn:n≤19
        · rw[if_pos hn,if_pos hn]
          exact ih _ _ (by omega)
        · rw[if_neg hn,if_neg hn]
          rfl
theorem zf1:∀ (l:List Bool) (n m:Nat) (r:List Bool),zgL n l=.ok (m,r)→∃ p,l=p++r∧(zdk n m).length≤p.length∧(p.length=(zdk n m).length→p=zdk n m)
  | [],n,m,r,h=>by simp[zgL] at h
  | false::l,n,m,r,h=>by
    simp only[zgL,Except.ok.injEq,Prod.mk.injEq] at h;obtain⟨rfl,rfl⟩:=h;refine⟨[false],rfl,?_,fun _=>?_⟩
    · rw[zd8]
      simp
    · rw[zd8]
  | [true],n,m,r,h=>by simp[zgL] at h
  | true::true::l,n,m,r,h=>by
    simp only[zgL,if_true] at h
    by_cases hn:2≤n
    · rw[if_pos hn] at h
      obtain⟨p,hp,h1,h2⟩:=zf1 l _ _ _ h;refine⟨true::true::p,by rw[hp];rfl,?_,fun he=>?_⟩
      · rw[zbY] at h1 ⊢
        simp only[List.length_cons];omega
      · rw[zbY] at he h1 h2
        simp only[List.length_cons] at he;rw[zfT (by omega),h2 (by omega)]
        rfl
    · rw[if_neg hn] at h
      cases h
  | true::false::l,n,m,r,h=>by
    simp only[zgL,Bool.false_eq_true,if_false] at h
    by_cases hn:n≤19
    · rw[if_pos hn] at h
      obtain⟨p,hp,h1,h2⟩:=zf1 l _ _ _ h;refine⟨true::false::p,by rw[hp];rfl,?_,fun he=>?_⟩
      · rw[zbY] at h1 ⊢
        simp only[List.length_cons];omega
      · rw[zbY] at he h1 h2
        simp only[List.length_cons] at he;rw[zjd (by omega),h2 (by omega)]
        rfl
    · rw[if_neg hn] at h
      cases h
theorem zfM:∀ (l:List Bool) (n m:Nat) (r:List Bool),1≤n→n≤20→zgL n l=.ok (m,r)→1≤m∧m≤20
  | [],n,m,r,_,_,h=>by simp[zgL] at h
  | false::l,n,m,r,h1,h2,h=>by
    simp only[zgL,Except.ok.injEq,Prod.mk.injEq] at h;obtain⟨rfl,rfl⟩:=h;exact⟨h1,h2⟩
  | [true],n,m,r,_,_,h=>by simp[zgL] at h
  | true::true::l,n,m,r,h1,h2,h=>by
    simp only[zgL,if_true] at h
    by_cases hn:2≤n
    · rw[if_pos hn] at h
      exact zfM l _ _ _ (by omega) (by omega) h
    · rw[if_neg hn] at h
      cases h
  | true::false::l,n,m,r,h1,h2,h=>by
    simp only[zgL,Bool.false_eq_true,if_false] at h
    by_cases hn:n≤19
    · rw[if_pos hn] at h
      exact zfM l _ _ _ (by omega) (by omega) h
    · rw[if_neg hn] at h
      cases h
theorem zrA (d:Nat):∀ (now n:Nat) (r:List Bool),(n-now)+(now-n)=d→1≤now→now≤20→1≤n→n≤20→zgL now (zdk now n++r) = .ok (n,r):=by
  induction d with
  | zero =>
    intro now n r hd _ _ _ _;obtain rfl:now=n:=by omega
    rw[zd8];rfl
  | succ d ih =>
    intro now n r hd h1 h2 h3 h4
    by_cases h:now<n
    · rw[zjd h]
      simp only[List.cons_append,List.nil_append,zgL,Bool.false_eq_true,if_false];rw[if_pos (by omega)]
      exact ih _ _ _ (by omega) (by omega) (by omega) h3 h4
    · rw[zfT (by omega)]
      simp only[List.cons_append,List.nil_append,zgL,if_true];rw[if_pos (by omega)]
      exact ih _ _ _ (by omega) (by omega) (by omega) h3 h4
theorem zl7 (s:List UInt8):∀ (c now a:Nat),a≤8*s.length→zkg s c now a=zgc (8*s.length) (zln c now (rest s a)):=by
  intro c
  induction c with
  | zero =>
    intro now a h;simp only[zkg,zln,zgc,zbt];rw[show 8*s.length-(8*s.length-a)=a by omega]
  | succ c ih =>
    intro now a h;rw[zkg,zln,zgi s _ _ _ (by omega)]
    cases hl:zgL now (rest s a) with
    | error e=>rfl
    | ok p =>
      obtain⟨m,r⟩:=p;obtain⟨p,hp,_,_⟩:=zf1 _ _ _ _ hl;have hlen:=congrArg List.length hp;rw[zbt,List.length_append] at hlen
      have hr:r=rest s (8*s.length-r.length):=by
        have h1:=zgJ s a p.length (by omega)
        rw[h1] at hp;have h2:=(List.append_inj hp (by rw[B.length_slice])).2
        rw[←h2];congr 1
        rw[zbt];omega
      simp only[zgc];rw[ih m (8*s.length-r.length) (by omega),←hr]
      cases zln c m r with
      | error e=>rfl
      | ok q=>rfl
theorem zk1 (s:List UInt8) (a c:Nat) (h:a≤8*s.length):zll s a c=zgc (8*s.length) (znk c (rest s a)):=by
  unfold zll znk;rw[zbt]
  by_cases h1:8*s.length<a+5
  · have h1':8*s.length-a<5:=by omega
    rw[if_pos h1,if_pos h1'];rfl
  have h1':¬ 8*s.length-a<5:=by omega
  rw[if_neg h1,if_neg h1'];have h2:=zgJ s a 5 (by omega)
  have h3:(rest s a).take 5=B.slice s a 5:=by
    rw[h2,List.take_append_of_le_length (by rw[B.length_slice];omega),List.take_of_length_le (by rw[B.length_slice];omega)]
  have h4:(rest s a).drop 5=rest s (a+5):=by
    rw[h2,List.drop_append_of_le_length (by rw[B.length_slice];omega),List.drop_of_length_le (by rw[B.length_slice];omega),List.nil_append]
  rw[h3,h4]
  by_cases h5:B.num (B.slice s a 5)<1∨20<B.num (B.slice s a 5)
  · rw[if_pos h5,if_pos h5]
    rfl
  · rw[if_neg h5,if_neg h5]
    exact zl7 s _ _ _ (by omega)
theorem znZ (l:List Nat):∀ (now:Nat) (r:List Bool),1≤now→now≤20→(∀ n∈l,1≤n∧n≤20)→zln l.length now (zeN now l++r) = .ok (l,r):=by
  induction l with
  | nil=>intro now r _ _ _;rfl
  | cons n l ih =>
    intro now r h1 h2 h;have hn:=h n (by simp)
    rw[zeN,List.length_cons,zln,List.append_assoc,zrA _ now n _ rfl h1 h2 hn.1 hn.2];simp only;rw[ih n r hn.1 hn.2 fun m hm=>h m (by simp[hm])]
    rfl
theorem zsJ (n:Nat) (h:n≤20):B.num (B.low n 5)=n:=by
  rw[B.num_low,Nat.mod_eq_of_lt (by omega)]
theorem zjA (l:List Nat) (r:List Bool) (h0:l≠[]) (h:∀ n∈l,1≤n∧n≤20):znk l.length (zbc l++r) = .ok (l,r):=by
  have hh:1≤l.headD 0∧l.headD 0≤20:=by
    cases l with
    | nil=>simp at h0
    | cons a l=>exact h a (by simp)
  unfold znk zbc
  have h5:(B.low (l.headD 0) 5++zeN (l.headD 0) l++r).take 5=B.low (l.headD 0) 5:=by
    rw[List.append_assoc,List.take_append_of_le_length (by rw[B.length_low];omega),List.take_of_length_le (by rw[B.length_low];omega)]
  have h6:(B.low (l.headD 0) 5++zeN (l.headD 0) l++r).drop 5=zeN (l.headD 0) l++r:=by
    rw[List.append_assoc,List.drop_append_of_le_length (by rw[B.length_low];omega),List.drop_of_length_le (by rw[B.length_low];omega),List.nil_append]
  rw[if_neg (by simp only[List.length_append,B.length_low];omega),h5,h6,zsJ _ hh.2,if_neg (by omega)]
  exact znZ l _ r hh.1 hh.2 h
theorem zjV (w:World):Calls Tryz.prog 289 #[.int .i64 0] w fun e w'=>e=.returned (.tuple #[])∧w=w':=by
  go_enter Tryz.func289,Tryz.ntmps289
  go_wp2_with fail
  exact bodyPost_end (results_none rfl _ _ _) rfl ⟨rfl,rfl⟩
theorem zgB (c:Int) (w:World):Calls Tryz.prog 260 #[.bool true,.int .i64 c] w fun e w'=>e=.returned (.tuple #[])∧w=w':=by
  go_enter Tryz.func260,Tryz.ntmps260
  go_wp2_with fail
  exact bodyPost_end (results_none rfl _ _ _) rfl ⟨rfl,rfl⟩
abbrev zaA (w:World) (k:Nat) (s:ByteArray) (at0:Nat) (tv cv cd:Value):Prop:=w.heap[k]?=some (Obj.cells #[.string s,.int .i64 (at0:Nat),tv,cv,cd] 380 (0,0))
theorem zc4 (w:World) (k:Nat) (s:ByteArray) (at0 n v:Nat) (tv cv cd:Value) (hE:zaA w k s at0 tv cv cd) (hs:s.size≤1099511627776) (hn:n≤48) (h:at0+n≤8*s.size) (hv:B.num (B.slice s.data.toList at0 n)=v) :
    Calls Tryz.prog 283 #[.pointer (some ⟨k,0,none⟩),.int .i64 n] w fun e w'=>e=.returned (.int .i64 (v:Nat))∧zaA w' k s (at0+n) tv cv cd∧Only k w w':=by
  have hl:s.data.toList.length=s.size:=by simp
  have G:Hid (∀ W,Calls Tryz.prog 231 #[.string s,.int .i64 at0,.int .i64 n] W fun e w'=>e=.returned (.tuple #[.int .u64 (v:Nat),.int .i64 0])∧W=w'):=fun W=>by
    have:=zdW s at0 n W (by omega)
    rw[zhw _ at0 n (by omega) (by omega),zgY _ at0 n (by omega) (by omega),hv] at this
    exact this
  have hb:v<281474976710656:=by
    rw[←hv];have h1:=B.num_lt (B.slice s.data.toList at0 n);rw[B.length_slice] at h1;exact Nat.lt_of_lt_of_le h1 (Nat.pow_le_pow_right (by omega) hn)
  have O:=Lib.hid zjV;have k0:w.cell? ⟨k,0,none⟩=some (.string s):=zaa hE 0;have k1:w.cell? ⟨k,1,none⟩=some (.int .i64 at0):=zaa hE 1;have f1:w.frozen? ⟨k,1,none⟩=false:=zac hE 1;have x0:k<w.heap.size:=zab hE;have hwr:IntKind.i64.wrap (v:Int)=(v:Int):=IntWalk.i64_in _ (by omega)
  have hw2:IntKind.i64.wrap ((at0:Int)+(n:Int))=((at0+n:Nat):Int):=by rw[IntWalk.i64_in _ (by omega)];omega
  have HE:=Lib.hid hE;clear hE hl hv hb
  go_enter Tryz.func283,Tryz.ntmps283
  go_wp2_with fail
  go_quiet ((go_at_call 231;exact zdO (G.out _)))
  go_wp2_with fail
  refine (O.out _).mono ?_;rintro e w1 ⟨rfl,rfl⟩
  go_wp2_with fail
  go_ret
  have hd:=below_drewN (Below.refl w.heap.size w) nq;refine⟨rfl,?_,(Only.of hd).set 1 _⟩;have:=zaf ((hd.block k x0).trans HE.out) 1 (.int .i64 ((at0+n:Nat):Int));unfold zaA;simpa using this
theorem zgE (w:World) (k:Nat) (s:ByteArray) (at0 n:Nat) (tv cv cd:Value) (hE:zaA w k s at0 tv cv cd) :
    Calls Tryz.prog 285 #[.pointer (some ⟨k,0,none⟩),.int .i64 n,.int .i64 0] w fun e w'=>e=.returned (.tuple #[])∧zaA w' k s n tv cv cd∧Only k w w':=by
  have O:=Lib.hid zjV;have k1:w.cell? ⟨k,1,none⟩=some (.int .i64 at0):=zaa hE 1;have f1:w.frozen? ⟨k,1,none⟩=false:=zac hE 1;have x0:k<w.heap.size:=zab hE;have HE:=Lib.hid hE;clear hE
  go_enter Tryz.func285,Tryz.ntmps285
  go_wp2_with fail
  refine (O.out _).mono ?_;rintro e w1 ⟨rfl,rfl⟩
  go_wp2_with fail
  refine bodyPost_end (results_none rfl _ _ _) rfl ⟨rfl,?_,(Only.refl k w).set 1 _⟩;have:=zaf HE.out 1 (.int .i64 (n:Int));unfold zaA;simpa using this
end Go.Proofs.YtoejfkeofbdalaaGreatDoor
