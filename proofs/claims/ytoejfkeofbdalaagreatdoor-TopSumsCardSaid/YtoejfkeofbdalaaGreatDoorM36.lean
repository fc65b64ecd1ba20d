import Derived.Test.YtoejfkeofbdalaaGreatDoorM35
import Derived.Test.YtoejfkeofbdalaaGreatDoorM32
import Derived.Test.YtoejfkeofbdalaaGreatDoorM26
set_option linter.unusedVariables false
set_option maxRecDepth 100000
set_option maxHeartbeats 8000000
namespace Go.Proofs.YtoejfkeofbdalaaGreatDoor
open Go.RowKit
def zqG (w:World) (r:zuE) (e:Ending) (w':World):Prop :=
  match r with
  | .ok (l,x)=>∃ v,e=.returned (.tuple #[v,.int .i64 (x:Nat),.int .i64 0])∧OwnInts w' w.heap.size v (ints l)∧Below w.heap.size w w'
  | .error c=>e=.returned (.tuple #[.slice none 0 0,.int .i64 0,.int .i64 c])∧Below w.heap.size w w'
structure TakeSt (w wr:World) (s:ByteArray) (v:Value) (l:List Nat) (a:Nat):Prop where
  bel:Below w.heap.size w wr
  size:w.heap.size+4≤wr.heap.size
  b0:Boxed wr w.heap.size 67 v
  b1:Boxed wr (w.heap.size+1) 3 (.int .i64 0)
  b2:Boxed wr (w.heap.size+1+1) 25 (.int .i64 0)
  rd:zkj wr (w.heap.size+1+1+1) s a
  own:OwnInts wr (w.heap.size+4) v (ints l)
theorem zjF {k:Nat} {W W':World} {base e size n:Nat} {v:Value} {xs:List Value} (h:W.ownsRow base e size v n xs) (hO:Only k W W') (hk:k<base):W'.ownsRow base e size v n xs:=by
  refine⟨h.1,?_⟩;rcases h.2 with h0 | ⟨g,cap,cur,e1,e2,e3,e4⟩
  · exact .inl h0
  · exact .inr ⟨g,cap,cur,e1,e2,(hO.block g (zab e3) (by omega)).trans e3,e4⟩
theorem TakeSt.only {w wr w':World} {s:ByteArray} {v:Value} {l:List Nat} {a a':Nat} (h:TakeSt w wr s v l a) (hO:Only (w.heap.size+1+1+1) wr w') (hR:zkj w' (w.heap.size+1+1+1) s a'):TakeSt w w' s v l a' :=
  have hs:=h.size
  ⟨h.bel.trans (hO.below (by omega) (by omega)),by have:=hO.size;omega,(hO.block _ (by omega) (by omega)).trans h.b0,(hO.block _ (by omega) (by omega)).trans h.b1,(hO.block _ (by omega) (by omega)).trans h.b2,hR,zjF h.own hO (by omega)⟩
theorem TakeSt.blocks {w wr w':World} {s:ByteArray} {v:Value} {l:List Nat} {a:Nat} (h:TakeSt w wr s v l a) (hO:Only (w.heap.size+1+1+1) wr w') :
    Below w.heap.size w w'∧w.heap.size+4≤w'.heap.size∧Boxed w' w.heap.size 67 v∧Boxed w' (w.heap.size+1) 3 (.int .i64 0)∧Boxed w' (w.heap.size+1+1) 25 (.int .i64 0) :=
  have hs:=h.size
  ⟨h.bel.trans (hO.below (by omega) (by omega)),by have:=hO.size;omega,(hO.block _ (by omega) (by omega)).trans h.b0,(hO.block _ (by omega) (by omega)).trans h.b1,(hO.block _ (by omega) (by omega)).trans h.b2⟩
def zk9 (w w':World) (why:Int):World:=((((w'.setCell ⟨w.heap.size,0,none⟩ (.slice none 0 0)).setCell ⟨w.heap.size+1,0,none⟩ (.int .i64 0)).setCell ⟨w.heap.size+1+1,0,none⟩ (.int .i64 why)).alloc (.cells #[.int .i64 why] 460)).drew
theorem zev {w w':World} {v:Value} {why:Int} (hB:Below w.heap.size w w') (hs:w.heap.size+4≤w'.heap.size) (b0:Boxed w' w.heap.size 67 v) (b1:Boxed w' (w.heap.size+1) 3 (.int .i64 0)) (b2:Boxed w' (w.heap.size+1+1) 25 (.int .i64 0)) :
    Below w.heap.size w (zk9 w w' why)∧(zk9 w w' why).cell? ⟨w.heap.size,0,none⟩=some (.slice none 0 0)∧(zk9 w w' why).cell? ⟨w.heap.size+1,0,none⟩=some (.int .i64 0)∧(zk9 w w' why).cell? ⟨w.heap.size+1+1,0,none⟩=some (.int .i64 why):=by
  have s0:=zaf (w:=w') b0 0 (.slice none 0 0);have t0:=(Below.heap_setCell (w'.setCell ⟨w.heap.size,0,none⟩ (.slice none 0 0)) ⟨w.heap.size+1,0,none⟩ (.int .i64 0) w.heap.size (by simp <;> omega)).trans s0
  have u0:=(Below.heap_setCell _ ⟨w.heap.size+1+1,0,none⟩ (.int .i64 why) w.heap.size (by simp <;> omega)).trans t0
  have v0:=zah (.cells #[.int .i64 why] 460) u0;have s1:=(Below.heap_setCell w' ⟨w.heap.size,0,none⟩ (.slice none 0 0) (w.heap.size+1) (by simp <;> omega)).trans b1
  have t1:=zaf (w:=w'.setCell ⟨w.heap.size,0,none⟩ (.slice none 0 0)) s1 0 (.int .i64 0);have u1:=(Below.heap_setCell _ ⟨w.heap.size+1+1,0,none⟩ (.int .i64 why) (w.heap.size+1) (by simp <;> omega)).trans t1
  have v1:=zah (.cells #[.int .i64 why] 460) u1;have s2:=(Below.heap_setCell w' ⟨w.heap.size,0,none⟩ (.slice none 0 0) (w.heap.size+1+1) (by simp <;> omega)).trans b2
  have t2:=(Below.heap_setCell (w'.setCell ⟨w.heap.size,0,none⟩ (.slice none 0 0)) ⟨w.heap.size+1,0,none⟩ (.int .i64 0) (w.heap.size+1+1) (by simp <;> omega)).trans s2
  have u2:=zaf (w:=(w'.setCell ⟨w.heap.size,0,none⟩ (.slice none 0 0)).setCell ⟨w.heap.size+1,0,none⟩ (.int .i64 0)) t2 0 (.int .i64 why);have v2:=zah (.cells #[.int .i64 why] 460) u2;refine⟨?_,zaa v0 0,zaa v1 0,zaa v2 0⟩;unfold zk9;exact ((((hB.setCell (p:=⟨w.heap.size,0,none⟩) (Nat.le_refl _) _).setCell (p:=⟨w.heap.size+1,0,none⟩) (by simp <;> omega) _).setCell (p:=⟨w.heap.size+1+1,0,none⟩) (by simp <;> omega) _).alloc (by simp;omega) _).drew
def ztG (w w':World) (v:Value) (a:Nat):World:=(((w'.setCell ⟨w.heap.size,0,none⟩ v).setCell ⟨w.heap.size+1,0,none⟩ (.int .i64 (a:Nat))).setCell ⟨w.heap.size+1+1,0,none⟩ (.int .i64 0)).drew
theorem zoE {w w':World} {s:ByteArray} {v:Value} {l:List Nat} {a:Nat} (h:TakeSt w w' s v l a) :
    Below w.heap.size w (ztG w w' v a)∧(ztG w w' v a).cell? ⟨w.heap.size,0,none⟩=some v∧(ztG w w' v a).cell? ⟨w.heap.size+1,0,none⟩=some (.int .i64 (a:Nat))∧(ztG w w' v a).cell? ⟨w.heap.size+1+1,0,none⟩=some (.int .i64 0)∧OwnInts (ztG w w' v a) w.heap.size v (ints l):=by
  have hs:=h.size;have s0:=zaf (w:=w') h.b0 0 v;have t0:=(Below.heap_setCell (w'.setCell ⟨w.heap.size,0,none⟩ v) ⟨w.heap.size+1,0,none⟩ (.int .i64 (a:Nat)) w.heap.size (by simp)).trans s0
  have u0:=(Below.heap_setCell _ ⟨w.heap.size+1+1,0,none⟩ (.int .i64 0) w.heap.size (by simp <;> omega)).trans t0
  have s1:=(Below.heap_setCell w' ⟨w.heap.size,0,none⟩ v (w.heap.size+1) (by simp)).trans h.b1
  have t1:=zaf (w:=w'.setCell ⟨w.heap.size,0,none⟩ v) s1 0 (.int .i64 (a:Nat));have u1:=(Below.heap_setCell _ ⟨w.heap.size+1+1,0,none⟩ (.int .i64 0) (w.heap.size+1) (by simp)).trans t1
  have s2:=(Below.heap_setCell w' ⟨w.heap.size,0,none⟩ v (w.heap.size+1+1) (by simp <;> omega)).trans h.b2
  have t2:=(Below.heap_setCell (w'.setCell ⟨w.heap.size,0,none⟩ v) ⟨w.heap.size+1,0,none⟩ (.int .i64 (a:Nat)) (w.heap.size+1+1) (by simp)).trans s2
  have u2:=zaf (w:=(w'.setCell ⟨w.heap.size,0,none⟩ v).setCell ⟨w.heap.size+1,0,none⟩ (.int .i64 (a:Nat))) t2 0 (.int .i64 0);refine⟨?_,zaa u0 0,zaa u1 0,zaa u2 0,?_⟩
  · unfold ztG
    exact (((h.bel.setCell (p:=⟨w.heap.size,0,none⟩) (Nat.le_refl _) _).setCell (p:=⟨w.heap.size+1,0,none⟩) (by simp) _).setCell (p:=⟨w.heap.size+1+1,0,none⟩) (by simp <;> omega) _).drew
  · refine⟨h.own.1,?_⟩
    rcases h.own.2 with h0 | ⟨g,cap,cur,e1,e2,e3,e4⟩
    · exact .inl h0
    · refine .inr ⟨g,cap,cur,e1,by omega,?_,e4⟩
      unfold ztG
      show (((w'.setCell _ _).setCell _ _).setCell _ _).heap[g]?=_
      rw[Below.heap_setCell _ _ _ _ (by simp <;> omega),Below.heap_setCell _ _ _ _ (by simp <;> omega),Below.heap_setCell _ _ _ _ (by simp <;> omega)]
      exact e3
theorem zos {s:List UInt8} {F n a m b:Nat} (h:zct s F n a=.ok (m,b)) (hF:8*s.length<a+F) (h1:1≤n) (h2:n≤20):1≤m∧m≤20∧b≤8*s.length:=by
  rw[zgi s F n a hF] at h;cases hl:zgL n (rest s a) with
  | error e=>rw[hl] at h;cases h
  | ok q =>
    obtain⟨m',r⟩:=q;rw[hl] at h;simp only[zgc,Except.ok.injEq,Prod.mk.injEq] at h;obtain⟨rfl,rfl⟩:=h;have:=zfM _ _ _ _ h1 h2 hl;exact⟨this.1,this.2,by omega⟩
theorem zoH (l:List Nat) (m:Nat):ints (l++[m])=ints l++[(m:Int)]:=by simp[ints]
theorem zpF (w:World) (s:ByteArray) (at0 n:Nat) (hs:s.size≤1099511627776) (hat:at0≤9223372036854775807) (hn:2≤n) (hn':n≤258) :
    Calls Tryz.prog 312 #[.string s,.int .i64 at0,.int .i64 n] w fun e w'=>zqG w (zll s.data.toList at0 n) e w':=by
  have hmf:=hmf
  have CM:Hid (∀ W,Calls Tryz.prog 87 #[.int .i64 (n:Nat)] W fun e w'=>e=.returned (.bool true)∧W=w'):=fun W=>by
    have:=zne (n:Nat) W;rw[show zom (n:Nat)=true by simp[zom];omega] at this
    exact this
  have hl:s.data.toList.length=s.size:=by simp
  have HL:=Lib.hid hl;obtain⟨r,hr⟩:∃ r,zll s.data.toList at0 n=r:=⟨_,rfl⟩;rw[hr];unfold zll at hr;have HR:=Lib.hid hr;clear hr hl;have hd:decide ((at0:Int)<0)=false:=by simp
  obtain⟨W0,hW0⟩:∃ W0,W0=((((w.alloc (.cells #[.slice none 0 0] 67)).alloc (.cells #[.int .i64 0] 3)).alloc (.cells #[.int .i64 0] 25)).alloc (.cells #[.string s,.int .i64 at0] 463)):=⟨_,rfl⟩
  have S0:TakeSt w W0 s (.slice none 0 0) [] at0:=by
    rw[hW0];exact⟨((((Below.refl _ _).alloc (Nat.le_refl _) _).alloc (by simp) _).alloc (by simp;omega) _).alloc (by simp;omega) _,by simp,(((Boxed.new w _ _).alloc _).alloc _).alloc _,((zco _ _ _ _ (by simp)).alloc _).alloc _,(zco _ _ _ _ (by simp)).alloc _,zae _ _ _ (by simp),OwnInts.nil _ _⟩
  have HS0:=Lib.hid S0;have HW0:=Lib.hid hW0;clear S0 hW0
  go_enter_defers Tryz.func312,Tryz.ntmps312
  go_wp2_with fail
  refine (CM.out _).mono ?_;rintro e w1 ⟨rfl,rfl⟩
  go_wp2_with fail
  rw[←HW0.out]
  by_cases h1:8*s.size<at0+5
  · have C:=Lib.hid (ze3 W0 (w.heap.size+1+1+1) s at0 5 HS0.out.rd hs hat (by omega) (by omega))
    have hre:r=.error 2:=by rw[←HR.out,HL.out,if_pos h1]
    subst hre;refine C.out.mono ?_;rintro e w1 ⟨rfl,hB⟩;have HB:=Lib.hid (HS0.out.blocks (Only.of hB));clear hB C HR
    go_wp2_with fail
    refine leaves_cons (f:=334) (args:=#[.pointer (some ⟨w.heap.size,0,none⟩),.pointer (some ⟨w.heap.size+1,0,none⟩),.pointer (some ⟨w.heap.size+1+1,0,none⟩)]) (by simp) (by simp[go_sem]) ?_
    obtain⟨g0,g1,g2,g3,g4⟩:=HB.out;refine (zjM w.heap.size (w.heap.size+1) (w.heap.size+1+1) _ _ _ 2 w1 g2.cell g3.cell g4.cell g2.frozen g3.frozen g4.frozen (by omega) (by omega) (by omega) (by omega) (by omega) (by omega)).mono ?_
    rintro e u' w'' ⟨rfl,rfl,hw⟩;obtain⟨k0,k1,k2,k3⟩:=zev (why:=2) g0 g1 g2 g3 g4;have hw2:w''=zk9 w w1 2:=hw;rw[←hw2] at k0 k1 k2 k3;clear hw hw2;simp[Leaves,settle,results,Tryz.results312,go_sem,k1,k2,k3];exact⟨rfl,k0⟩
  have hrr:=HR.out;rw[HL.out,if_neg h1] at hrr;obtain⟨v0,hv0⟩:∃ v,B.num (B.slice s.data.toList at0 5)=v:=⟨_,rfl⟩;rw[hv0] at hrr;have C:=Lib.hid (zdX W0 (w.heap.size+1+1+1) s at0 5 v0 HS0.out.rd hs (by omega) (by omega) hv0)
  clear hv0 HR
  by_cases h2:v0<1∨20<v0
  · have hre:r=.error 3:=by rw[←hrr,if_pos h2]
    subst hre;clear hrr;refine C.out.mono ?_;rintro e w1 ⟨rfl,hO1,hR1⟩;have HB:=Lib.hid (HS0.out.blocks hO1);clear C hO1 hR1
    go_wp2_with fail
    refine (zlX _ _ _ (by simp[zpo] <;> omega)).mono ?_
    rintro e w2 ⟨rfl,rfl⟩
    go_wp2_with fail
    refine leaves_cons (f:=334) (args:=#[.pointer (some ⟨w.heap.size,0,none⟩),.pointer (some ⟨w.heap.size+1,0,none⟩),.pointer (some ⟨w.heap.size+1+1,0,none⟩)]) (by simp) (by simp[go_sem]) ?_
    obtain⟨g0,g1,g2,g3,g4⟩:=HB.out;refine (zjM w.heap.size (w.heap.size+1) (w.heap.size+1+1) _ _ _ 3 w1 g2.cell g3.cell g4.cell g2.frozen g3.frozen g4.frozen (by omega) (by omega) (by omega) (by omega) (by omega) (by omega)).mono ?_
    rintro e u' w'' ⟨rfl,rfl,hw⟩;obtain⟨k0,k1,k2,k3⟩:=zev (why:=3) g0 g1 g2 g3 g4;have hw2:w''=zk9 w w1 3:=hw;rw[←hw2] at k0 k1 k2 k3;clear hw hw2;simp[Leaves,settle,results,Tryz.results312,go_sem,k1,k2,k3];exact⟨rfl,k0⟩
  rw[if_neg h2] at hrr;have HR:=Lib.hid hrr;clear hrr;refine C.out.mono ?_;rintro e w1 ⟨rfl,hO1,hR1⟩;have HS1:=Lib.hid (HS0.out.only hO1 hR1);clear C hO1 hR1 HS0 HW0
  go_wp2_with fail
  refine (zm9 _ _ _ (by simp[zpo];omega)).mono ?_
  rintro e w2 ⟨rfl,rfl⟩
  go_wp2_with fail
  go_loopw [10,28] (fun nv iv wr=>∃ (j m a:Nat) (l:List Nat) (v:Value),j≤n∧1≤m∧m≤20∧nv=.int .i64 m∧iv=.int .i64 j∧l.length=j∧a≤8*s.size∧zrO l (zkg s.data.toList (n-j) m a)=r∧TakeSt w wr s v l a) (fun _ iv _=>n+1-(intOf iv).toNat)
  case atStart=>exact⟨0,v0,at0+5,[],_,by omega,by omega,by omega,rfl,rfl,rfl,by omega,by rw[zsV];exact HR.out,HS1.out⟩
  case round =>
    obtain⟨j,m,a,l,v,hj,hm1,hm2,rfl,rfl,hll,ha,hpr,hS⟩:=hrel;have HS:=Lib.hid hS;have HLL:=Lib.hid hll;have HPR:=Lib.hid hpr;clear hS hll hpr HS1 HR
    by_cases hlt:j<n
    · have hpr:=HPR.out
      rw[show n-j=(n-(j+1))+1 by omega,zkg] at hpr
      have hok:=fun m' b h=>zos (s:=s.data.toList) (F:=8*s.data.toList.length+1) (n:=m) (a:=a) (m:=m') (b:=b) h (by omega) hm1 hm2
      have C:=Lib.hid (zlL wr (w.heap.size+1+1+1) s a m (8*s.data.toList.length+1) HS.out.rd hs hm1 hm2 (by omega) (by rw[HL.out];omega))
      cases hlr:zct s.data.toList (8*s.data.toList.length+1) m a with
      | error c =>
        rw[hlr] at hpr C;simp only[zrO] at hpr;subst hpr;clear hlr hok HPR
        go_wp2_with fail
        refine C.out.mono ?_;rintro e w2 hE;obtain⟨rfl,hO⟩:=hE;have HB:=Lib.hid (HS.out.blocks hO);clear hO C HS
        go_wp2_with fail
        refine leaves_cons (f:=334) (args:=#[.pointer (some ⟨w.heap.size,0,none⟩),.pointer (some ⟨w.heap.size+1,0,none⟩),.pointer (some ⟨w.heap.size+1+1,0,none⟩)]) (by simp) (by simp[go_sem]) ?_
        obtain⟨g0,g1,g2,g3,g4⟩:=HB.out;refine (zjM w.heap.size (w.heap.size+1) (w.heap.size+1+1) _ _ _ c w2 g2.cell g3.cell g4.cell g2.frozen g3.frozen g4.frozen (by omega) (by omega) (by omega) (by omega) (by omega) (by omega)).mono ?_
        rintro e u' w'' ⟨rfl,rfl,hw⟩;obtain⟨k0,k1,k2,k3⟩:=zev (why:=c) g0 g1 g2 g3 g4;have hw2:w''=zk9 w w2 c:=hw;rw[←hw2] at k0 k1 k2 k3;clear hw hw2;simp[Leaves,settle,results,Tryz.results312,go_sem,k1,k2,k3];exact⟨rfl,k0⟩
      | ok p =>
        obtain⟨m',b⟩:=p;rw[hlr] at hpr C;simp only[zri] at hpr;obtain⟨hm1',hm2',hb⟩:=hok m' b hlr;rw[HL.out] at hb;have HPR2:=Lib.hid hpr;clear hlr hok HPR hpr
        go_wp2_with fail
        refine C.out.mono ?_;rintro e w2 hE;obtain⟨rfl,hO,hR⟩:=hE;have HS2:=Lib.hid (HS.out.only hO hR);have hc0:=HS2.out.b0.cell;have hf0:=HS2.out.b0.frozen;have hz2:=HS2.out.size;have hls:l.length+1≤300:=by have:=HLL.out;omega
        clear hO hR C HS
        go_wp2_with
          (first
           | (at_builtin
              refine zar rfl _ _ rfl (w.heap.size+4) _ (ints l) rfl (HS2.out.own.alloc _) (w2.heap.size+1) _ [(m':Int)] rfl (IsInts.new w2 [(m':Int)] _ _ _ rfl rfl rfl (by simp[maxLen])) (by rw[zad];simp;omega) (by simp;omega) ?_
              intro q c w3 hown hg hat1;obtain⟨hv1,hv2,hr2,hk2,hb2,hb3⟩:=zh9 HS2.out.b0 (by decide) HS2.out.own (by omega) hown hg
              rw[←zoH] at hown hr2;have hs3:=HS2.out.b1;have hs4:=HS2.out.b2;have hs5:=HS2.out.rd;have hs6:=HS2.out.bel;have hc1:=hv1.cell;have hf1:=hv1.frozen;have L3:=hb3 w.heap.size (by omega) (by omega)
              have S3:TakeSt w (w3.setCell ⟨w.heap.size,0,none⟩ (.slice q ((ints l).length + [(m':Int)].length) c)) s (.slice q ((ints l).length + [(m':Int)].length) c) (l++[m']) b :=
                ⟨hs6.trans L3,by have:=L3.size;simp at this ⊢;omega,hv2,(hb2 _ (by omega) (by omega)).trans hs3,(hb2 _ (by omega) (by omega)).trans hs4,(hb2 _ (by omega) (by omega)).trans hs5,hr2⟩
              have HS3:=Lib.hid S3;clear hs3 hs4 hs5 hs6 hown hg hat1 hv1 hv2 hr2 hk2 hb2 hb3 L3 S3))
        go_roundw
        case rel=>exact⟨j+1,m',b,l++[m'],_,by omega,hm1',hm2',rfl,by go_num,by rw[List.length_append,HLL.out];rfl,hb,HPR2.out,HS3.out⟩
        case measure=>simp[intOf];omega
    · obtain rfl:j=n:=by omega
      have hpr:=HPR.out;rw[Nat.sub_self,zkg] at hpr;simp only[zrO,List.append_nil] at hpr;subst hpr;obtain⟨q,c,rfl⟩:=HS.out.own.shape;have hc0:=HS.out.b0.cell;have hf0:=HS.out.b0.frozen;have hc1:=HS.out.b1.cell;have hf1:=HS.out.b1.frozen;have hc2:=HS.out.b2.cell;have hf2:=HS.out.b2.frozen;have hc3:wr.cell? ⟨w.heap.size+1+1+1,1,none⟩=some (.int .i64 (a:Nat)):=zaa HS.out.rd 1;have hz:=HS.out.size;clear HPR
      go_wp2_with fail
      go_region
      go_wp2_with fail
      refine leaves_cons (f:=334) (args:=#[.pointer (some ⟨w.heap.size,0,none⟩),.pointer (some ⟨w.heap.size+1,0,none⟩),.pointer (some ⟨w.heap.size+1+1,0,none⟩)]) (by simp) (by simp[go_sem]) ?_
      refine (zrv _ _ _ _).mono ?_;rintro e u' w'' ⟨rfl,rfl,hw⟩;obtain⟨k0,k1,k2,k3,k4⟩:=zoE HS.out;have hw2:w''=ztG w wr (.slice q (ints l).length c) a:=hw;rw[←hw2] at k0 k1 k2 k3 k4;clear hw hw2;simp[Leaves,settle,results,Tryz.results312,go_sem,k1,k2,k3];exact⟨_,rfl,k4,k0⟩
theorem Only.grown {k:Nat} {w a b:World} {v:Value} (h:Only k w a) (hg:a.grownBy b v.ownBlock) (hge:∀ r,v.ownBlock=some r→w.heap.size≤r):Only k w b :=
  ⟨hg.os.trans h.os,hg.tape.trans h.tape,hg.output.trans h.output,Nat.le_trans h.size hg.size,fun j hj hne=>(hg.block j (Nat.lt_of_lt_of_le hj h.size) (fun e=>by have:=hge j e.symm;omega)).trans (h.block j hj hne)⟩
theorem zhu {a b:World} {base base2 e n m:Nat} {v u:Value} {xs ys:List Value} (h:a.ownsRow base e 1 v n xs) (hr:a.ownsRow base2 67 1 u m ys) (hne:e≠67) (hg:a.grownBy b u.ownBlock):b.ownsRow base e 1 v n xs:=by
  refine World.ownsRow.kept h hg ?_;cases hv:v.ownBlock with
  | none=>exact .inl rfl
  | some g =>
    refine .inr fun e'=>?_;obtain⟨c,hc⟩:=zaN h hv;obtain⟨c2,hc2⟩:=zaN hr e'.symm;rw[hc] at hc2;injection hc2 with hc2
    injection hc2 with _ hc2
    exact hne hc2
theorem zrQ (w:World) (k:Nat) (s:ByteArray) (a0 a1 G n:Nat) (C:List Nat) (T:Nat→List Nat) (ax:Nat→Nat) (hE:zaA w k s a0 (.slice none 0 0) (.slice none 0 0) (.int .i64 (n:Nat))) (hs:s.size≤1099511627776)
    (hn2:2≤n) (hn:n≤258) (h3:B.num (B.slice s.data.toList a0 3)=2) (h15:B.num (B.slice s.data.toList (a0+3) 15)=G) (hG:0<G) (hG2:G≤32767) (hfit:a0+18≤8*s.size) (hsel:zrN s.data.toList 2 (a0+18) G=.ok (C,ax 0)) (hax:∀ i,ax i≤9223372036854775807)
    (htab:∀ i,i<2→zll s.data.toList (ax i) n=.ok (T i,ax (i+1))∧Code (T i)) :
    Calls Tryz.prog 286 #[.pointer (some ⟨k,0,none⟩)] w fun e w'=>e=.returned (.tuple #[])∧Only k w w'∧∃ tv cv L,zaA w' k s (ax 2) tv cv (.int .i64 (n:Nat))∧OwnInts w' w.heap.size cv (ints C)∧SlOwn w' w.heap.size tv L∧L.map (·.2)=(List.range 2).map fun i=>ints (T i):=by
  have C3:Hid (∀ W,zaA W k s a0 (.slice none 0 0) (.slice none 0 0) (.int .i64 (n:Nat))→Calls Tryz.prog 283 #[.pointer (some ⟨k,0,none⟩),.int .i64 3] W fun e w'=>e=.returned (.int .i64 2)∧zaA w' k s (a0+3) (.slice none 0 0) (.slice none 0 0) (.int .i64 (n:Nat))∧Only k W w'):=fun W h=>zc4 W k s a0 3 2 _ _ _ h hs (by omega) (by omega) h3
  have C15:Hid (∀ W,zaA W k s (a0+3) (.slice none 0 0) (.slice none 0 0) (.int .i64 (n:Nat))→Calls Tryz.prog 283 #[.pointer (some ⟨k,0,none⟩),.int .i64 15] W fun e w'=>e=.returned (.int .i64 (G:Nat))∧zaA w' k s (a0+18) (.slice none 0 0) (.slice none 0 0) (.int .i64 (n:Nat))∧Only k W w'):=fun W h=>zc4 W k s (a0+3) 15 G _ _ _ h hs (by omega) (by omega) h15
  have CS:Hid (∀ W,Calls Tryz.prog 311 #[.string s,.int .i64 ((a0+18:Nat):Int),.int .i64 (G:Nat),.int .i64 2] W fun e w'=>∃ v,e=.returned (.tuple #[v,.int .i64 (ax 0:Nat),.int .i64 0])∧OwnInts w' W.heap.size v (ints C)∧Below W.heap.size W w'):=fun W=>by
    have:=zmF W s (a0+18) G 2 hs (by omega) (by omega) (by omega) (by omega)
    rw[hsel] at this;exact this
  have CM:=Lib.hid zgB
  have CT:Hid (∀ i,i<2→∀ W,Calls Tryz.prog 312 #[.string s,.int .i64 (ax i:Nat),.int .i64 (n:Nat)] W fun e w'=>∃ v,e=.returned (.tuple #[v,.int .i64 (ax (i+1):Nat),.int .i64 0])∧OwnInts w' W.heap.size v (ints (T i))∧Below W.heap.size W w'):=fun i hi W=>by
    have:=zpF W s (ax i) n hs (hax i) hn2 hn;rw[(htab i hi).1] at this;exact this
  have CK:Hid (∀ i,i<2→∀ W v,IsInts W W.heap.size v (ints (T i))→Calls Tryz.prog 31 #[v] W fun e w'=>e=.returned (.int .i64 0)∧Below W.heap.size W w'):=fun i hi W v h=>by
    have hc:=(htab i hi).2;have:=zdQ W v (ints (T i)) h (by rw[zad];have:=hc.most;omega)
    rw[hc.ok] at this;exact this
  have HE:=Lib.hid hE;have d1:decide (0<(G:Int))=true:=decide_eq_true (by omega)
  have HKL:=Lib.hid (zab hE);clear hE h3 h15 hsel htab hfit hax;obtain⟨b3,hb3⟩:∃ b,a0+3=b:=⟨_,rfl⟩;obtain⟨b18,hb18⟩:∃ b,a0+18=b:=⟨_,rfl⟩;rw[hb3] at C3 C15;rw[hb18] at C15 CS;clear hb3 hb18
  go_enter Tryz.func286,Tryz.ntmps286
  go_wp2_with fail
  refine (C3.out _ HE.out).mono ?_;rintro e w1 ⟨rfl,hr,ho⟩;have HR1:=Lib.hid hr;have HO1:=Lib.hid ho;clear hr ho HE C3
  go_wp2_with fail
  refine (CM.out _ _).mono ?_;rintro e w2 ⟨rfl,rfl⟩
  go_wp2_with fail
  refine (C15.out _ HR1.out).mono ?_;rintro e w3 ⟨rfl,hr,ho⟩;have HR3:=Lib.hid hr;have HO3:=Lib.hid (HO1.out.trans ho);clear hr ho HR1 HO1 C15
  go_wp2_with fail
  refine (CM.out _ _).mono ?_;rintro e w4 ⟨rfl,rfl⟩;have k0:=(zaa HR3.out 0).trans rfl;have k1:=(zaa HR3.out 1).trans rfl;have kl:=zab HR3.out
  go_upto_region 4 with (fail)
  have HkW:Hid (∀ w':World,Below w3.heap.size w3 w'→Below w3.heap.size w3 w'∧w'.cell? ⟨k,0,none⟩=some (.string s)∧w'.cell? ⟨k,1,none⟩=some (.int .i64 (b18:Nat))):=fun w' h=>by
    have h2:=(h.block k (zab HR3.out)).trans HR3.out;exact⟨h,(zaa h2 0).trans rfl,(zaa h2 1).trans rfl⟩
  have hb3:Below w3.heap.size w3 w3:=Below.refl _ _
  go_region_held3 (fun w'=>Below w3.heap.size w3 w'∧w'.cell? ⟨k,0,none⟩=some (.string s)∧w'.cell? ⟨k,1,none⟩=some (.int .i64 (b18:Nat)))
    ((refine HkW.out _ ?_;first | assumption | exact zwd (by assumption) | exact zvS (by assumption) (And.left (by assumption)) | fail))
    ((go_at_call 311
      refine (CS.out _).mono ?_;rintro e w5 ⟨cv,rfl,hcv,hB5⟩;have hW5:Below w3.heap.size w3 w5:=zvS hB5 (And.left (by assumption))))
  have HR5:Hid (zaA w5 k s b18 (.slice none 0 0) (.slice none 0 0) (.int .i64 (n:Nat))):=(hW5.block k kl).trans HR3.out;have HO5:=Lib.hid (HO3.out.trans (Only.of hW5));obtain⟨cq,cc,rfl⟩:=hcv.shape;have HCV:Hid (OwnInts w5 w.heap.size (.slice cq (ints C).length cc) (ints C)):=hcv.mono (by have:=HO3.out.size;simpa using this)
  clear hcv hB5 hW5 hb3 HkW k0 k1 kl HR3 HO3 CS CM
  try clear hHeld
  go_wp2_with fail
  refine (zgE w5 k s b18 (ax 0) _ _ _ HR5.out).mono ?_;rintro e w6 ⟨rfl,hr,ho⟩;have HR6:=Lib.hid hr;have HO6:=Lib.hid (HO5.out.trans ho);have HC6:=Lib.hid (zau HCV.out ho HKL.out);have f3:=zac HR6.out 3;have k3:=(zaa HR6.out 3).trans rfl;clear hr HR5 HO5
  go_upto_region 7 with (fail)
  have hr7:zaA (w6.setCell ⟨k,3,none⟩ (.slice cq (ints C).length cc)) k s (ax 0) (.slice none 0 0) (.slice cq (ints C).length cc) (.int .i64 (n:Nat)):=by
    have:=zaf HR6.out 3 (.slice cq (ints C).length cc);unfold zaA;simpa using this
  have HR7:=Lib.hid hr7;have ho7:=(Only.refl k w6).set 3 (.slice cq (ints C).length cc);have HO7:=Lib.hid (HO6.out.trans ho7);have HC7:=Lib.hid (zau HC6.out ho7 HKL.out);clear hr7 ho7 HR6 HO6 HC6 HCV f3 k3;generalize w6.setCell ⟨k,3,none⟩ (.slice cq (ints C).length cc)=W7 at *
  go_wp2_with fail
  go_loopw [56] (fun iv wr=>∃ i:Nat,i≤2∧iv=.int .i64 i∧∃ (tv:Value) (L:List SV),Hid (zaA wr k s (ax i) tv (.slice cq (ints C).length cc) (.int .i64 (n:Nat)))∧Hid (Only k w wr)∧Hid (OwnInts wr w.heap.size (.slice cq (ints C).length cc) (ints C))∧Hid (SlOwn wr w.heap.size tv L)∧Hid (L.map (·.2)=(List.range i).map fun i=>ints (T i))) (fun iv _=>3-(intOf iv).toNat)
  case atStart=>exact⟨0,by omega,rfl,_,[],HR7,HO7,HC7,SlOwn.nil _ _,rfl⟩
  case round =>
    clear HR7 HO7 HC7;obtain⟨i,hi,rfl,tv,L,HR,HO,HC,HT,HL⟩:=hrel;obtain⟨vq,vc,rfl⟩:=HT.out.shape;have hLl:=congrArg List.length HL.out;simp only[List.length_map,List.length_range] at hLl;rw[hLl] at HR HT;have HLl:=Lib.hid hLl;clear hLl
    by_cases hlt:i<2
    · have kl:=zab HR.out
      have k0:=(zaa HR.out 0).trans rfl;have k1:=(zaa HR.out 1).trans rfl;have k4:=(zaa HR.out 4).trans rfl
      have HkW:Hid (∀ w':World,Below wr.heap.size wr w'→Below wr.heap.size wr w'∧w'.cell? ⟨k,0,none⟩=some (.string s)∧w'.cell? ⟨k,1,none⟩=some (.int .i64 (ax i:Nat))∧w'.cell? ⟨k,4,none⟩=some (.int .i64 (n:Nat))):=fun w' h=>by
        have h2:=(h.block k (zab HR.out)).trans HR.out;exact⟨h,(zaa h2 0).trans rfl,(zaa h2 1).trans rfl,(zaa h2 4).trans rfl⟩
      have hb3:Below wr.heap.size wr wr:=Below.refl _ _;have CTi:=Lib.hid (CT.out i hlt);have CKi:=Lib.hid (CK.out i hlt);clear CT CK
      go_wp2_with fail
      go_region_held3 (fun w'=>Below wr.heap.size wr w'∧w'.cell? ⟨k,0,none⟩=some (.string s)∧w'.cell? ⟨k,1,none⟩=some (.int .i64 (ax i:Nat))∧w'.cell? ⟨k,4,none⟩=some (.int .i64 (n:Nat)))
        ((refine HkW.out _ ?_;first | assumption | exact zwd (by assumption) | exact zvS (by assumption) (And.left (by assumption)) | fail))
        ((go_at_call 312
          refine (CTi.out _).mono ?_;rintro e w8 ⟨vt,rfl,hvt,hB8⟩;have hW8:Below wr.heap.size wr w8:=zvS hB8 (And.left (by assumption))))
      obtain⟨tq,tc,rfl⟩:=hvt.shape;have hzw:=HO.out.size;have HV8:Hid (OwnInts w8 w.heap.size (.slice tq (ints (T i)).length tc) (ints (T i))):=hvt.mono (by simpa using hzw)
      have HR8:Hid (zaA w8 k s (ax i) (.slice vq i vc) (.slice cq (ints C).length cc) (.int .i64 (n:Nat))):=(hW8.block k kl).trans HR.out;have HO8:=Lib.hid (HO.out.trans (Only.of hW8));have HC8:=Lib.hid (zau HC.out (Only.of (k:=k) hW8) HKL.out);have HT8:=Lib.hid (HT.out.only (Only.of (k:=k) hW8) HKL.out);clear hvt hB8 hW8 hb3 HkW k0 k1 k4 kl HR HO HC HT CTi
      try clear hHeld
      go_wp2_with fail
      refine (zgE w8 k s (ax i) (ax (i+1)) _ _ _ HR8.out).mono ?_;rintro e w9 ⟨rfl,hr,ho⟩;have HR9:=Lib.hid hr;have HO9:=Lib.hid (HO8.out.trans ho);have HC9:=Lib.hid (zau HC8.out ho HKL.out);have HT9:=Lib.hid (HT8.out.only ho HKL.out);have HV9:=Lib.hid (zau HV8.out ho HKL.out);clear hr ho HR8 HO8 HC8 HT8 HV8
      go_wp2_with fail
      refine (CKi.out _ _ (OwnInts.is HV9.out)).mono ?_;rintro e w10 ⟨rfl,hB⟩;have HR10:=Lib.hid ((hB.block k (zab HR9.out)).trans HR9.out);have HO10:=Lib.hid (HO9.out.trans (Only.of hB));have HC10:=Lib.hid (zau HC9.out (Only.of (k:=k) hB) HKL.out);have HT10:=Lib.hid (HT9.out.only (Only.of (k:=k) hB) HKL.out);have HV10:=Lib.hid (zau HV9.out (Only.of (k:=k) hB) HKL.out);clear hB HR9 HO9 HC9 HT9 HV9
      go_wp2_with fail
      refine (zjV _).mono ?_;rintro e w11 ⟨rfl,rfl⟩;have k2:=(zaa HR10.out 2).trans rfl;have f2:=zac HR10.out 2;have kl:=zab HR10.out;have hz10:=HO10.out.size
      go_wp2_with
        (at_builtin
         refine zav (⟨Tryz.underlying113,zmD,rfl,by decide⟩:ElemT 113 67 (.slice none 0 0) 1 24) (by rfl) _ _ (by rfl) w.heap.size _ i (L.map (·.1)) (by rfl) (by have:=HT10.out.own.alloc (.cells #[.slice tq (ints (T i)).length tc] 67);rw[HLl.out] at this;exact this) (w10.heap.size+1) 1 _ [.slice tq (ints (T i)).length tc] (by rfl) (Rd.mono (zap (zae _ _ _ rfl) rfl (by rfl) (by simp[maxLen])) (by simp)) (by intro c hc;simp at hc;subst hc;rfl) (by omega) (by omega) (by simp;omega) ?_
         intro q2 c2 w2 hown2 hg2 hat2;have hg3:(w10.alloc (.cells #[.slice tq (ints (T i)).length tc] 67)).grownBy w2 (Value.slice vq i vc).ownBlock:=hg2;have hgeb:∀ r,(Value.slice vq i vc).ownBlock=some r→w.heap.size≤r:=fun r e=>zaF HT10.out.own e;have hoA:=HO10.out.trans (Only.of (zk5 (Below.refl w10.heap.size w10) (.cells #[.slice tq (ints (T i)).length tc] 67)));have HO11:=Lib.hid (hoA.grown hg3 hgeb);have hTA:=HT10.out.own.alloc (.cells #[.slice tq (ints (T i)).length tc] 67);have HC11:=Lib.hid (zhu (HC10.out.alloc (.cells #[.slice tq (ints (T i)).length tc] 67)) hTA (by decide) hg3)
         have HV11:=Lib.hid (zhu (HV10.out.alloc (.cells #[.slice tq (ints (T i)).length tc] 67)) hTA (by decide) hg3)
         have HL11:Hid (∀ p∈L,OwnInts w2 w.heap.size p.1 p.2):=fun p hp=>zhu ((HT10.out.has p hp).alloc (.cells #[.slice tq (ints (T i)).length tc] 67)) hTA (by decide) hg3
         have HR11:=Lib.hid ((hg3.block k (by simp;omega) (fun e=>by have:=hgeb k e.symm;have:=HKL.out;omega)).trans (zah (.cells #[.slice tq (ints (T i)).length tc] 67) HR10.out))
         have k22:=(zaa HR11.out 2).trans rfl;have f22:=zac HR11.out 2;have kl2:=zab HR11.out;have HW2:=Lib.hid hown2;clear hown2 hg2 hg3 hat2 hgeb hoA hTA)
      have hr12:zaA (w2.setCell ⟨k,2,none⟩ (.slice q2 (i+1) c2)) k s (ax (i+1)) (.slice q2 (i+1) c2) (.slice cq (ints C).length cc) (.int .i64 (n:Nat)):=by
        have:=zaf HR11.out 2 (.slice q2 (i+1) c2);unfold zaA;simpa using this
      have ho12:=(Only.refl k w2).set 2 (.slice q2 (i+1) c2)
      go_roundw
      case rel =>
        refine⟨i+1,by omega,by go_num,.slice q2 (i+1) c2,L++[(.slice tq (ints (T i)).length tc,ints (T i))],Lib.hid hr12,Lib.hid (HO11.out.trans ho12),Lib.hid (zau HC11.out ho12 HKL.out),Lib.hid ⟨?_,fun p hp=>?_⟩,Lib.hid ?_⟩
        · have:=zau HW2.out ho12 HKL.out
          rw[List.map_append,List.length_append,HLl.out];exact this
        · rcases List.mem_append.1 hp with hp | hp
          · exact zau (HL11.out p hp) ho12 HKL.out
          · obtain rfl:p=(.slice tq (ints (T i)).length tc,ints (T i)):=by simpa using hp
            exact zau HV11.out ho12 HKL.out
        · rw[List.map_append,HL.out,List.range_succ,List.map_append];rfl
      case measure=>simp[intOf];omega
    · obtain rfl:i=2:=by omega
      go_wp2_with fail
      exact bodyPost_end (results_none rfl _ _ _) rfl ⟨rfl,HO.out,_,_,L,HR.out,HC.out,HT.out,HL.out⟩
end Go.Proofs.YtoejfkeofbdalaaGreatDoor
