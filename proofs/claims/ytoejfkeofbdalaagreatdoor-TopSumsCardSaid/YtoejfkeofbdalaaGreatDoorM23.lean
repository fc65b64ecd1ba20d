import Derived.Test.YtoejfkeofbdalaaGreatDoorM22
import Derived.Test.YtoejfkeofbdalaaGreatDoorM18
set_option linter.unusedVariables false
set_option maxRecDepth 100000
set_option maxHeartbeats 8000000
namespace Go.Proofs.YtoejfkeofbdalaaGreatDoor
open Go.RowKit
theorem Firsts.mem {α:Type} {R:α→α→Prop} {D X U Y:List α} {s a:Nat} (h:Firsts R D s a (X++(U++Y))) (hX:X.length=a):∀ x∈U,x∈D:=by
  obtain⟨X',e,h1,_,_⟩:=h;have e2:U++Y=D.drop a:=(List.append_inj e (by omega)).2
  intro x hx;exact List.mem_of_mem_drop (e2 ▸ (List.mem_append_left _ hx):x∈D.drop a)
theorem Blocks.mem {α:Type} {R:α→α→Prop} {D l:List α} {s a k0:Nat} (h:Blocks R D s a l) (hs:0<s) (hk0:a=2*s*k0) (i:Nat) (hi:a≤i) (x:α) (hx:l[i]?=some x):x∈D:=by
  have e:a=s*(2*k0):=by rw[hk0,Nat.mul_comm 2 s,Nat.mul_assoc]
  have h1:2*k0≤i / s:=by
    rw[Nat.le_div_iff_mul_le hs,Nat.mul_comm];omega
  have h2:a≤s*(i / s):=by rw[e];exact Nat.mul_le_mul_left s h1
  have g:=(h.2.2 (i / s) h2).1;have h3:=Nat.div_add_mod i s;have h4:=Nat.mod_lt i hs
  have hm:x∈Go.Proofs.YtoejfkeofbdalaaGreatDoor.part l (s*(i / s)) s:=by
    refine List.mem_of_getElem? (i:=i % s) ?_;unfold Go.Proofs.YtoejfkeofbdalaaGreatDoor.part;rw[List.getElem?_take_of_lt h4,List.getElem?_drop,h3];exact hx
  exact List.mem_of_mem_drop (List.mem_of_mem_take (g.mem_iff.1 hm))
theorem Blocks.mems {α:Type} {R:α→α→Prop} {D X U V Y:List α} {s a k0:Nat} (h:Blocks R D s a (X++(U++(V++Y)))) (hs:0<s) (hk0:a=2*s*k0) (hX:X.length=a):(∀ x∈U,x∈D)∧∀ x∈V,x∈D:=by
  have key:∀ x∈U++V,x∈D:=by
    intro x hx;obtain⟨i,hi,rfl⟩:=List.mem_iff_getElem.1 hx;refine h.mem hs hk0 (a+i) (by omega) _ ?_
    rw[←List.append_assoc U,List.getElem?_append_right (by omega),show a+i-X.length=i by omega,List.getElem?_append_left hi,List.getElem?_eq_getElem hi]
  exact⟨fun x hx=>key x (List.mem_append_left _ hx),fun x hx=>key x (List.mem_append_right _ hx)⟩
theorem zoW (w:World) (g n cap q M:Nat) (lt:Nat→Nat→Bool) (R:Nat→Nat→Prop) (ht:∀ x y z,R x y→R y z→R x z) (D:List Nat) (E:List Value) (hr:SRow w g D E)
    (hn:D.length=n) (hn1:n≤1000000) (hD:D.Pairwise (zwn R lt)) (hM:∀ x∈D,x<M) (hc:CmpOk w g q M lt) :
    Calls Tryz.prog 212 #[.slice (some ⟨g,0,none⟩) n cap,.int .i64 n,zj5 q] w fun e w'=>e=.returned (.tuple #[])∧(∃ L,SRow w' g L E∧L.Perm D∧L.Pairwise R)∧Only g w w':=by
  have HR:=Lib.hid hr;have HN:=Lib.hid hn;have HT:=Lib.hid ht;have HD:=Lib.hid hD;have HM:=Lib.hid hM;have HC:=Lib.hid hc;clear hr hn ht hD hM hc;unfold zj5
  go_enter Tryz.func212,Tryz.ntmps212
  go_wp2_with fail
  go_loopw [7,8] (fun av bv wr=>∃ (a b k:Nat) (L:List Nat),av=.int .i64 a∧bv=.int .i64 b∧a≤n∧b≤n+20∧a<b∧Hid (b=a+20∧a=20*k)∧Hid (Firsts R D 20 a L)∧Hid (SRow wr g L E)∧Hid (Only g w wr)) (fun av bv _=>(n+21-(intOf bv).toNat))
  case atStart=>exact⟨0,20,0,D,rfl,rfl,by omega,by omega,by omega,⟨rfl,rfl⟩,Firsts.start D 20,HR.out,Only.refl _ _⟩
  case round =>
    clear HR;obtain⟨a,b,k,L,rfl,rfl,ha,hb,hab,HE,HF,HR,HO⟩:=hrel;have hLl:L.length=n:=HF.out.length.trans HN.out
    by_cases hlt:b≤n
    · obtain⟨he1,he2⟩:=HE.out
      obtain⟨X,U,Y,hL,hX,hUl,hUa,hnext⟩:=HF.out.next (lt:=lt) (by omega) he2 (c:=20) (Nat.le_refl _) (by rw[HN.out,←he1];exact hlt) (.inl rfl)
      rw[←he1] at hnext;have hr2:=HR.out;have hfl:=HF.out;rw[hL] at hr2 hLl hfl;have hUM:∀ x∈U,x<M:=fun x hx=>HM.out x (hfl.mem hX x hx);have CI:=Lib.hid (zhD wr g n cap q M lt R HT.out X U Y E a b hr2 hX (by omega) hLl hn1 (hUa HD.out) hUM (HC.out.only HO.out))
      unfold zj5 at CI;have HNX:=Lib.hid hnext;have HE2:Hid (b=20*(k+1)):=by show _=_;omega
      clear hL hX hUl hUa hnext hr2 hLl hUM HF HR hfl he1 he2 HE;have dd:decide (b≤n)=true:=decide_eq_true hlt;have w1:IntKind.i64.wrap ((b:Int)+20)=((b+20:Nat):Int):=by rw[IntWalk.i64_in _ (by omega)];omega
      go_wp2_with fail
      refine CI.out.mono ?_;rintro e w' ⟨rfl,⟨L',hr',hp',hs'⟩,ho'⟩;have HR2:=Lib.hid hr';have HF2:=Lib.hid (HNX.out L' hp' hs');have HO2:=Lib.hid (HO.out.trans ho');clear hr' hp' hs' ho' CI HNX HO
      go_wp2_with fail
      go_roundw
      case rel=>exact⟨b,b+20,k+1,_,rfl,rfl,hlt,by omega,by omega,⟨rfl,HE2.out⟩,HF2,HR2,HO2⟩
      case measure=>simp[intOf];omega
    · obtain⟨he1,he2⟩:=HE.out
      obtain⟨X,U,Y,hL,hX,hUl,hUa,hnext⟩:=HF.out.next (lt:=lt) (by omega) he2 (c:=n-a) (by omega) (by rw[HN.out];omega) (.inr (by rw[HN.out];omega))
      have hY:Y=[]:=by
        rw[hL] at hLl;simp at hLl;exact List.eq_nil_of_length_eq_zero (by omega)
      subst hY;have hr2:=HR.out;have hfl:=HF.out;rw[hL] at hr2 hLl hfl;have hUM:∀ x∈U,x<M:=fun x hx=>HM.out x (hfl.mem hX x hx);have CI:=Lib.hid (zhD wr g n cap q M lt R HT.out X U [] E a n hr2 hX (by omega) hLl hn1 (hUa HD.out) hUM (HC.out.only HO.out))
      unfold zj5 at CI
      have hfd:∀ L',L'.Perm U→L'.Pairwise R→Blocks R D 20 0 (X++(L'++[])):=fun L' h1 h2=>by
        have:=hnext L' h1 h2;rw[show a+(n-a)=D.length by rw[HN.out];omega] at this
        exact this.done
      have HNX:=Lib.hid hfd;clear hL hX hUl hUa hnext hr2 hLl hUM HF HR hfl he1 he2 HE hfd;have dd:decide (b≤n)=false:=decide_eq_false hlt
      go_wp2_with fail
      refine CI.out.mono ?_;rintro e w' ⟨rfl,⟨L',hr',hp',hs'⟩,ho'⟩;have HR2:=Lib.hid hr';have HF2:=Lib.hid (HNX.out L' hp' hs');have HO2:=Lib.hid (HO.out.trans ho');clear hr' hp' hs' ho' CI HNX HO dd hlt hab;generalize X++(L'++[])=L1 at *
      clear X U L'
      go_wp2_with fail
      go_loopw [6] (fun sv wr=>∃ (s:Nat) (L:List Nat),sv=.int .i64 s∧20≤s∧s≤2000020∧Hid (Blocks R D s 0 L)∧Hid (SRow wr g L E)∧Hid (Only g w wr)) (fun sv _=>(n+2000021-(intOf sv).toNat))
      case atStart=>exact⟨20,L1,rfl,by omega,by omega,HF2,HR2,HO2⟩
      case round =>
        clear HF2 HR2 HO2;obtain⟨s,L,rfl,hs1,hs2,HF,HR,HO⟩:=hrel
        by_cases hsn:s<n
        · have dd:decide (s<n)=true:=decide_eq_true hsn
          have w1:IntKind.i64.wrap (2*(s:Int))=((2*s:Nat):Int):=by rw[IntWalk.i64_in _ (by omega)];omega
          obtain⟨t,ht⟩:∃ t,2*s=t:=⟨_,rfl⟩;rw[ht] at w1;have hts:s<t:=by omega
          have ht2:t≤2000020:=by omega
          have HTT:=Lib.hid ht;clear ht
          go_wp2_with fail
          go_loopw [7,8] (fun av bv wr=>∃ (a b k:Nat) (L:List Nat),av=.int .i64 a∧bv=.int .i64 b∧a≤n∧b≤n+t∧a<b∧Hid (b=a+t∧a=t*k)∧Hid (Blocks R D s a L)∧Hid (SRow wr g L E)∧Hid (Only g w wr)) (fun av bv _=>(n+t+1-(intOf bv).toNat))
          case atStart=>exact⟨0,t,0,L,rfl,rfl,by omega,by omega,by omega,⟨by omega,by omega⟩,HF,HR,HO⟩
          case round =>
            clear HF HR HO;obtain⟨a,b,k,L,rfl,rfl,ha,hb,hab,HE,HF,HR,HO⟩:=hrel;obtain⟨he1,he2⟩:=HE.out;have hk0:a=2*s*k:=by rw[HTT.out];exact he2
            have hLl:L.length=n:=HF.out.1.trans HN.out
            by_cases hlt:b≤n
            · obtain⟨X,U,V,Y,hL,hX,hUl,hVl,pU,pV,hap,hnext⟩:=HF.out.merge (lt:=lt) (by omega) hk0 (c:=t) hts (by rw[HTT.out];exact Nat.le_refl _) (by omega) (.inl HTT.out.symm)
              have hr2:=HR.out;have hfl:=HF.out;rw[hL] at hr2 hLl hfl;obtain⟨m1,m2⟩:=hfl.mems (by omega) hk0 hX
              have CI:=Lib.hid (zf8 g n cap q M lt R HT.out E hn1 (b-a) wr X U V Y a (a+s) b hr2 hX (by omega) (by omega) (Nat.le_refl _) (by omega) (by omega) hLl pU pV (hap HD.out) (fun x hx=>HM.out x (m1 x hx)) (fun x hx=>HM.out x (m2 x hx)) (HC.out.only HO.out))
              unfold zj5 at CI;rw[HTT.out,←he1] at hnext;have HNX:=Lib.hid hnext;have HE2:Hid (b=t*(k+1)):=by show _=_;rw[Nat.mul_add];omega
              clear hL hX hUl hVl pU pV hap hnext hr2 hLl HF HR hfl m1 m2 he1 he2 hk0 HE;have dd:decide (b≤n)=true:=decide_eq_true hlt;have w2:IntKind.i64.wrap ((a:Int)+(s:Int))=((a+s:Nat):Int):=by rw[IntWalk.i64_in _ (by omega)];omega
              have w3:IntKind.i64.wrap ((s:Int)*2)=(t:Int):=by rw[Int.mul_comm];exact w1
              have w4:IntKind.i64.wrap ((b:Int)+(t:Int))=((b+t:Nat):Int):=by rw[IntWalk.i64_in _ (by omega)];omega
              go_wp2_with fail
              refine CI.out.mono ?_;rintro e w' ⟨rfl,⟨L',hr',hp',hs'⟩,ho'⟩;have HR2:=Lib.hid hr';have HF2:=Lib.hid (HNX.out L' hp' hs');have HO2:=Lib.hid (HO.out.trans ho');clear hr' hp' hs' ho' CI HNX HO
              go_wp2_with fail
              go_roundw
              case rel=>exact⟨b,b+t,k+1,_,rfl,rfl,hlt,by omega,by omega,⟨rfl,HE2.out⟩,HF2,HR2,HO2⟩
              case measure=>simp[intOf];omega
            · by_cases hm:a+s<n
              · obtain⟨X,U,V,Y,hL,hX,hUl,hVl,pU,pV,hap,hnext⟩:=HF.out.merge (lt:=lt) (by omega) hk0 (c:=n-a) (by omega) (by rw[HTT.out];omega) (by omega) (.inr (by omega))
                have hY:Y=[]:=by
                  rw[hL] at hLl;simp at hLl;exact List.eq_nil_of_length_eq_zero (by omega)
                subst hY;have hr2:=HR.out;have hfl:=HF.out;rw[hL] at hr2 hLl hfl;obtain⟨m1,m2⟩:=hfl.mems (by omega) hk0 hX
                have CI:=Lib.hid (zf8 g n cap q M lt R HT.out E hn1 (n-a) wr X U V [] a (a+s) n hr2 hX (by omega) (by omega) (Nat.le_refl _) (by omega) (by omega) hLl pU pV (hap HD.out) (fun x hx=>HM.out x (m1 x hx)) (fun x hx=>HM.out x (m2 x hx)) (HC.out.only HO.out))
                unfold zj5 at CI
                have hfin:∀ L',L'.Perm (U++V)→L'.Pairwise R→Blocks R D t 0 (X++(L'++[])):=fun L' h1 h2=>by
                  have h3:=(hnext L' h1 h2).up (by rw[List.length_append,List.append_nil,h1.length_eq,List.length_append,hX,hUl,hVl,HTT.out];omega)
                  rw[HTT.out] at h3;exact h3
                have HNX:=Lib.hid hfin;clear hL hX hUl hVl pU pV hap hnext hr2 hLl HF HR hfl m1 m2 he1 he2 hk0 HE hfin;have dd:decide (b≤n)=false:=decide_eq_false hlt;have w2:IntKind.i64.wrap ((a:Int)+(s:Int))=((a+s:Nat):Int):=by rw[IntWalk.i64_in _ (by omega)];omega
                have w3:IntKind.i64.wrap ((s:Int)*2)=(t:Int):=by rw[Int.mul_comm];exact w1
                obtain⟨m,hme⟩:∃ m,a+s=m:=⟨_,rfl⟩;rw[hme] at hm w2 CI;have dm:decide (m<n)=true:=decide_eq_true hm;clear hme
                go_wp2_with fail
                refine CI.out.mono ?_;rintro e w' ⟨rfl,⟨L',hr',hp',hs'⟩,ho'⟩;have HR2:=Lib.hid hr';have HF2:=Lib.hid (HNX.out L' hp' hs');have HO2:=Lib.hid (HO.out.trans ho');clear hr' hp' hs' ho' CI HNX HO
                go_wp2_with fail
                go_roundw
                case rel=>exact⟨t,_,rfl,by omega,ht2,HF2,HR2,HO2⟩
                case measure=>simp[intOf];omega
              · have HF2:Hid (Blocks R D t 0 L):=by
                  have:=HF.out.rest (by omega) hk0 (by omega)
                  rw[HTT.out] at this;exact this
                clear HF he1 he2 hk0 HE hLl;have dd:decide (b≤n)=false:=decide_eq_false hlt;have w2:IntKind.i64.wrap ((a:Int)+(s:Int))=((a+s:Nat):Int):=by rw[IntWalk.i64_in _ (by omega)];omega
                have w3:IntKind.i64.wrap ((s:Int)*2)=(t:Int):=by rw[Int.mul_comm];exact w1
                obtain⟨m,hme⟩:∃ m,a+s=m:=⟨_,rfl⟩;rw[hme] at hm w2;have dm:decide (m<n)=false:=decide_eq_false hm;clear hme
                go_wp2_with fail
                go_roundw
                case rel=>exact⟨t,_,rfl,by omega,ht2,HF2,HR,HO⟩
                case measure=>simp[intOf];omega
        · have dd:decide (s<n)=false:=decide_eq_false hsn
          obtain⟨hg1,hg2⟩:=HF.out.whole (by rw[HF.out.1,HN.out];omega)
          go_wp2_with fail
          exact bodyPost_end (results_none rfl _ _ _) rfl ⟨rfl,⟨L,HR.out,hg1,hg2⟩,HO.out⟩
def zh5 (x y:Int):Int:=if x<y then -1 else if y<x then 1 else 0
theorem zqK (x:Int) (w:World):Calls Tryz.prog 213 #[.int .i64 x] w fun e w'=>e=.returned (.bool false)∧w=w':=by
  go_enter Tryz.func213,Tryz.ntmps213
  go_wp2_with fail
  go_ret
  exact⟨by simp,rfl⟩
theorem zmm (x y:Int) (w:World):Calls Tryz.prog 148 #[.int .i64 x,.int .i64 y] w fun e w'=>e=.returned (.int .i64 (zh5 x y))∧w=w':=by
  have CN:=Lib.hid fun x W=>zqK x W;have h3:∃ z,zh5 x y=z:=⟨_,rfl⟩;obtain⟨z,hz⟩:=h3;rw[hz];have HZ:=Lib.hid hz;clear hz
  go_enter Tryz.func148,Tryz.ntmps148
  go_wp2_with fail
  refine (CN.out _ _).mono ?_;rintro e w' ⟨rfl,rfl⟩
  go_wp2_with fail
  refine (CN.out _ _).mono ?_;rintro e w' ⟨rfl,rfl⟩;rcases Int.lt_trichotomy x y with h | h | h
  · have h1:decide (x<y)=true:=decide_eq_true h
    have hv:z = -1:=by have:=HZ.out;rw[zh5,if_pos h] at this;exact this.symm
    subst hv
    go_wp2_with fail
    go_ret
    exact⟨rfl,rfl⟩
  · have h1:decide (x<y)=false:=decide_eq_false (by omega)
    have h2:decide (y<x)=false:=decide_eq_false (by omega)
    have hv:z=0:=by have:=HZ.out;rw[zh5,if_neg (by omega),if_neg (by omega)] at this;exact this.symm
    subst hv;clear h
    go_wp2_with fail
    go_ret
    exact⟨rfl,rfl⟩
  · have h1:decide (x<y)=false:=decide_eq_false (by omega)
    have h2:decide (y<x)=true:=decide_eq_true h;have hv:z=1:=by have:=HZ.out;rw[zh5,if_neg (by omega),if_pos h] at this;exact this.symm
    subst hv
    go_wp2_with fail
    go_ret
    exact⟨rfl,rfl⟩
theorem zqv (a b:Int) (v:Value) (w:World) (hv:IsInts w w.heap.size v [a,b]):Calls Tryz.prog 147 #[v] w fun e w'=>e=.returned (.int .i64 (if a=0 then b else a))∧w=w':=by
  obtain⟨q,c,rfl,hc1,hc2⟩:=hv.shape;obtain⟨g,o,rfl,hg,ha⟩:=hv.at 0 (by simp)
  obtain⟨g',o',he,hg',hb⟩:=hv.at 1 (by simp)
  injection he with he
  injection he with he1 he2
  subst he1 he2;simp only[List.length_cons,List.length_nil,List.getElem?_cons_zero,List.getElem?_cons_succ,Option.getD_some,Nat.add_zero] at ha hb ⊢;clear hv hg hg' hc1 hc2;obtain⟨z,hz⟩:∃ z,(if a=0 then b else a)=z:=⟨_,rfl⟩
  rw[hz];have HZ:=Lib.hid hz;clear hz
  go_enter Tryz.func147,Tryz.ntmps147
  go_wp2_with fail
  go_loopw [8] (fun iv wr=>∃ i:Nat,iv=.int .i64 (i:Nat)∧(i=0∨(i=1∧a=0)∨(i=2∧a=0∧b=0))∧w=wr) (fun iv _=>3-(intOf iv).toNat)
  case atStart=>exact⟨0,rfl,.inl rfl,rfl⟩
  case round =>
    obtain⟨i,rfl,hi,rfl⟩:=hrel;rcases hi with rfl | ⟨rfl,h0⟩ | ⟨rfl,h0,h1⟩
    · by_cases h0:a=0
      · have hn:(a == 0)=true:=by simp[h0]
        subst h0
        go_wp2_with fail
        go_roundw
        case rel=>exact⟨1,by simp⟩
        case measure=>simp[intOf]
      · have hn:(a == 0)=false:=by simp[h0]
        have hv:a=z:=by have:=HZ.out;rwa [if_neg h0] at this
        subst hv
        go_wp2_with fail
        go_ret
        exact⟨rfl,rfl⟩
    · subst h0
      have hbz:b=z:=by have:=HZ.out;rwa [if_pos rfl] at this
      subst hbz
      by_cases h1:b=0
      · subst h1
        go_wp2_with fail
        go_roundw
        case rel=>exact⟨2,by simp⟩
        case measure=>simp[intOf]
      · have hn:(b == 0)=false:=by simp[h1]
        go_wp2_with fail
        go_ret
        exact⟨rfl,rfl⟩
    · subst h0 h1
      have hbz:0=z:=by have:=HZ.out;rwa [if_pos rfl] at this
      subst hbz
      go_wp2_with fail
      go_ret
      exact⟨rfl,rfl⟩
def zcw (s:ByteArray) (rv:Value) (m:Nat):Value:=.agg #[.string s,rv,.int .i64 (m:Nat)]
theorem ztM (s:ByteArray) (rb n cap m k:Nat) (P:List Nat) (w:World) (hr:SRow w rb P []) (hn:P.length=n) (hs:s.size=n) (hk:k<n) (hn1:n≤1000000) (hm:m≤2000000) :
    Calls Tryz.prog 149 #[zcw s (.slice (some ⟨rb,0,none⟩) n cap) m,.int .i64 (k:Nat)] w fun e w'=>e=.returned (.int .i64 (P[(k+m) % n]?.getD 0:Nat))∧Below w.heap.size w w':=by
  have hlt:(k+m) % n<n:=Nat.mod_lt _ (by omega)
  obtain⟨i,hi⟩:∃ i,(k+m) % n=i:=⟨_,rfl⟩;rw[hi] at hlt ⊢;obtain⟨x,hx⟩:∃ x,P[i]?=some x:=⟨_,List.getElem?_eq_getElem (by omega)⟩
  have hc:=hr.cell i x hx;rw[hx,Option.getD_some];have hB:Below w.heap.size w (w.alloc (.cells #[.string s,.slice (some ⟨rb,0,none⟩) n cap,.int .i64 (m:Nat)] 171)):=(Below.refl _ _).alloc (Nat.le_refl _) _;have hb:(w.alloc (.cells #[.string s,.slice (some ⟨rb,0,none⟩) n cap,.int .i64 (m:Nat)] 171)).heap[w.heap.size]?=some (.cells #[.string s,.slice (some ⟨rb,0,none⟩) n cap,.int .i64 (m:Nat)] 171 (0,0)):=zae _ _ _ rfl;have hc1:=(hB.cell (p:=⟨rb,i,none⟩) hr.lt).trans hc;have w1:IntKind.i64.wrap ((k:Int)+(m:Int))=((k+m:Nat):Int):=by rw[IntWalk.i64_in _ (by omega)];omega
  have w2:Int.tmod ((k+m:Nat):Int) (n:Int)=(i:Int):=by rw[Int.tmod_eq_emod_of_nonneg (by omega)];omega
  obtain⟨km,hkm⟩:∃ km,k+m=km:=⟨_,rfl⟩;rw[hkm] at w1 w2;have c0:=(zaa hb 0).trans rfl;have c1:=(zaa hb 1).trans rfl;have c2:=(zaa hb 2).trans rfl;have HBB:=Lib.hid hB;clear hi hkm hr hn hx hc hb hB;unfold zcw
  go_enter Tryz.func149,Tryz.ntmps149
  go_wp2_with fail
  generalize w.alloc (.cells #[.string s,.slice (some ⟨rb,0,none⟩) n cap,.int .i64 (m:Nat)] 171)=W1 at *
  go_region
  go_wp2_with fail
  go_ret
  exact⟨rfl,HBB.out.drew⟩
def zhb (P:List Nat) (n m a b:Nat):Int:=if zh5 (P[a]?.getD 0:Nat) (P[b]?.getD 0:Nat)=0 then zh5 (P[(a+m) % n]?.getD 0:Nat) (P[(b+m) % n]?.getD 0:Nat) else zh5 (P[a]?.getD 0:Nat) (P[b]?.getD 0:Nat)
theorem zrU (P:List Nat) (n m a b:Nat):decide (zhb P n m a b<0)=zb3 n (fun k=>P[k]?.getD 0) m a b:=by
  rw[Bool.eq_iff_iff,zaX,decide_eq_true_iff];unfold zhb zh5;generalize P[a]?.getD 0=x;generalize P[b]?.getD 0=y;generalize P[(a+m) % n]?.getD 0=u;generalize P[(b+m) % n]?.getD 0=v;rcases Nat.lt_trichotomy x y with h | h | h <;> rcases Nat.lt_trichotomy u v with h' | h' | h' <;> (repeat' split) <;> omega
theorem znW (P:List Nat) (n m a b:Nat):(zhb P n m a b != 0)=(zb3 n (fun k=>P[k]?.getD 0) m a b || zb3 n (fun k=>P[k]?.getD 0) m b a):=by
  rw[Bool.eq_iff_iff,Bool.or_eq_true,zaX,zaX,bne_iff_ne];unfold zhb zh5;generalize P[a]?.getD 0=x;generalize P[b]?.getD 0=y;generalize P[(a+m) % n]?.getD 0=u;generalize P[(b+m) % n]?.getD 0=v;rcases Nat.lt_trichotomy x y with h | h | h <;> rcases Nat.lt_trichotomy u v with h' | h' | h' <;> (repeat' split) <;> omega
theorem zhR (s:ByteArray) (rb n cap m a b:Nat) (P:List Nat) (w:World) (hr:SRow w rb P []) (hn:P.length=n) (hs:s.size=n) (ha:a<n) (hb:b<n) (hn1:n≤1000000) (hm:m≤2000000) :
    Calls Tryz.prog 98 #[zcw s (.slice (some ⟨rb,0,none⟩) n cap) m,.int .i64 (a:Nat),.int .i64 (b:Nat)] w fun e w'=>e=.returned (.int .i64 (zhb P n m a b))∧Below w.heap.size w w':=by
  have HZ:Hid (zhb P n m a b=if zh5 (P[a]?.getD 0:Nat) (P[b]?.getD 0:Nat)=0 then zh5 (P[(a+m) % n]?.getD 0:Nat) (P[(b+m) % n]?.getD 0:Nat) else zh5 (P[a]?.getD 0:Nat) (P[b]?.getD 0:Nat)):=by show _=_;rfl
  have CC:=Lib.hid fun x y W=>zmm x y W;have CO:=Lib.hid fun x y v W=>zqv x y v W;obtain⟨z,hz⟩:∃ z,zhb P n m a b=z:=⟨_,rfl⟩;rw[hz] at HZ ⊢;clear hz;obtain⟨x,hx⟩:∃ x,P[a]?=some x:=⟨_,List.getElem?_eq_getElem (by omega)⟩
  obtain⟨y,hy⟩:∃ y,P[b]?=some y:=⟨_,List.getElem?_eq_getElem (by omega)⟩
  obtain⟨u,hu⟩:∃ u,P[(a+m) % n]?.getD 0=u:=⟨_,rfl⟩;obtain⟨v,hv⟩:∃ v,P[(b+m) % n]?.getD 0=v:=⟨_,rfl⟩
  have CA:Hid (∀ W,SRow W rb P []→Calls Tryz.prog 149 #[.agg #[.string s,.slice (some ⟨rb,0,none⟩) n cap,.int .i64 (m:Nat)],.int .i64 (a:Nat)] W fun e w'=>e=.returned (.int .i64 (u:Nat))∧Below W.heap.size W w'):=fun W h=>by
    have:=ztM s rb n cap m a P W h hn hs ha hn1 hm;rw[hu] at this;exact this
  have CB:Hid (∀ W,SRow W rb P []→Calls Tryz.prog 149 #[.agg #[.string s,.slice (some ⟨rb,0,none⟩) n cap,.int .i64 (m:Nat)],.int .i64 (b:Nat)] W fun e w'=>e=.returned (.int .i64 (v:Nat))∧Below W.heap.size W w'):=fun W h=>by
    have:=ztM s rb n cap m b P W h hn hs hb hn1 hm;rw[hv] at this;exact this
  rw[hx,hy,hu,hv] at HZ;simp only[Option.getD_some] at HZ;have HZ:=Lib.hid HZ.out;have hcx:=hr.cell a x hx;have hcy:=hr.cell b y hy;obtain⟨z1,hz1⟩:∃ z1,zh5 (x:Nat) (y:Nat)=z1:=⟨_,rfl⟩;obtain⟨z2,hz2⟩:∃ z2,zh5 (u:Nat) (v:Nat)=z2:=⟨_,rfl⟩;rw[hz1,hz2] at HZ;have HZ:=Lib.hid HZ.out
  have CO2:Hid (∀ vv W,IsInts W W.heap.size vv [zh5 (x:Nat) (y:Nat),zh5 (u:Nat) (v:Nat)]→Calls Tryz.prog 147 #[vv] W fun e w'=>e=.returned (.int .i64 z)∧W=w'):=fun vv W h=>by
    have:=CO.out _ _ vv W h;rw[hz1,hz2] at this;rw[←HZ.out] at this;exact this
  have HR:=Lib.hid hr;have HL:=hr.lt;have hB:Below w.heap.size w (w.alloc (.cells #[.string s,.slice (some ⟨rb,0,none⟩) n cap,.int .i64 (m:Nat)] 171)):=(Below.refl _ _).alloc (Nat.le_refl _) _;have hbx:(w.alloc (.cells #[.string s,.slice (some ⟨rb,0,none⟩) n cap,.int .i64 (m:Nat)] 171)).heap[w.heap.size]?=some (.cells #[.string s,.slice (some ⟨rb,0,none⟩) n cap,.int .i64 (m:Nat)] 171 (0,0)):=zae _ _ _ rfl;clear hx hy hu hv hz1 hz2 hr hn CO HZ;unfold zcw
  go_enter Tryz.func98,Tryz.ntmps98
  go_wp2_with fail
  obtain⟨W,hW⟩:∃ W,w.alloc (.cells #[.string s,.slice (some ⟨rb,0,none⟩) n cap,.int .i64 (m:Nat)] 171)=W:=⟨_,rfl⟩;rw[hW] at hB hbx ⊢;obtain⟨bx,hbxe⟩:∃ bx,w.heap.size=bx:=⟨_,rfl⟩;rw[hbxe] at hbx hB HL ⊢;have HBE:=Lib.hid hbxe;clear hW hbxe;have HRW:Hid (∀ w',Below W.heap.size W w'→SRow w' rb P []):=fun w' h=>(HR.out.same (hB.block rb HL)).below h;have hbW:Below W.heap.size W W:=Below.refl _ _;have hlx:=zab hbx;have hlr:rb<W.heap.size:=by have:=hB.size;omega
  have HkW:Hid (∀ w':World,Below W.heap.size W w'→Below W.heap.size W w'∧w'.cell? ⟨bx,0,none⟩=some (.string s)∧w'.cell? ⟨bx,1,none⟩=some (.slice (some ⟨rb,0,none⟩) n cap)∧w'.cell? ⟨bx,2,none⟩=some (.int .i64 (m:Nat))∧w'.cell? ⟨rb,a,none⟩=some (.int .i64 (x:Nat))∧w'.cell? ⟨rb,b,none⟩=some (.int .i64 (y:Nat))):=fun w' h =>
    ⟨h,(h.cell (p:=⟨bx,0,none⟩) hlx).trans (zaa hbx 0),(h.cell (p:=⟨bx,1,none⟩) hlx).trans (zaa hbx 1),(h.cell (p:=⟨bx,2,none⟩) hlx).trans (zaa hbx 2),(h.cell (p:=⟨rb,a,none⟩) hlr).trans ((hB.cell (p:=⟨rb,a,none⟩) HL).trans hcx),(h.cell (p:=⟨rb,b,none⟩) hlr).trans ((hB.cell (p:=⟨rb,b,none⟩) HL).trans hcy)⟩
  have HB0:=Lib.hid hB;clear hB hbx hcx hcy HR
  go_region_held3 (fun w'=>Below W.heap.size W w'∧w'.cell? ⟨bx,0,none⟩=some (.string s)∧w'.cell? ⟨bx,1,none⟩=some (.slice (some ⟨rb,0,none⟩) n cap)∧w'.cell? ⟨bx,2,none⟩=some (.int .i64 (m:Nat))∧w'.cell? ⟨rb,a,none⟩=some (.int .i64 (x:Nat))∧w'.cell? ⟨rb,b,none⟩=some (.int .i64 (y:Nat)))
    ((refine HkW.out _ ?_;first | assumption | exact zwd (by assumption) | exact And.left (by assumption) | exact zk5 (And.left (by assumption)) _ | exact zvS (by assumption) (And.left (by assumption)) | exact zk5 (by assumption) _ | fail))
    ((first
      | (go_at_call 148
         refine (CC.out _ _ _).mono ?_;rintro e w8 ⟨rfl,rfl⟩)
      | (go_at_call 149
         with_reducible show Calls Tryz.prog _ #[_,.int .i64 (a:Nat)] _ _
         refine (CA.out _ (HRW.out _ (And.left (by assumption)))).mono ?_
         rintro e w8 ⟨rfl,hB8⟩;have hW8:Below W.heap.size W w8:=zvS hB8 (And.left (by assumption)))
      | (go_at_call 149
         refine (CB.out _ (HRW.out _ (And.left (by assumption)))).mono ?_
         rintro e w9 ⟨rfl,hB9⟩;have hW9:Below W.heap.size W w9:=zvS hB9 (And.left (by assumption)))
      | (go_at_call 147
         refine (CO2.out _ _ ((IsInts.new _ [zh5 (x:Nat) (y:Nat),zh5 (u:Nat) (v:Nat)] _ _ 2 rfl rfl rfl (by simp[maxLen])).mono (by simp))).mono ?_
         rintro e w10 ⟨rfl,rfl⟩)
      | fail))
  have HF:=Lib.hid (HB0.out.trans ((zk5 hW9 (.cells #[.int .i64 (zh5 (x:Nat) (y:Nat)),.int .i64 (zh5 (u:Nat) (v:Nat))] 3)).mono (show bx≤W.heap.size by omega)))
  go_wp2_with fail
  go_ret
  exact⟨rfl,by rw[HBE.out];exact HF.out⟩
theorem zpJ (s:ByteArray) (rb q n cap m a b:Nat) (P:List Nat) (w:World) (hq:w.heap[q]?=some (.cells #[.iface 171 (zcw s (.slice (some ⟨rb,0,none⟩) n cap) m)] 258 (0,0))) (hr:SRow w rb P []) (hn:P.length=n) (hs:s.size=n) (ha:a<n) (hb:b<n) (hn1:n≤1000000) (hm:m≤2000000) :
    Calls Tryz.prog 146 #[.int .i64 (a:Nat),.int .i64 (b:Nat),.pointer (some ⟨q,0,none⟩)] w fun e w'=>e=.returned (.int .i64 (zhb P n m a b))∧Below w.heap.size w w':=by
  have CT:=Lib.hid (zhR s rb n cap m a b P w hr hn hs ha hb hn1 hm);have c0:=(zaa hq 0).trans rfl;clear hr hn hs ha hb hn1 hm hq;unfold zcw at *
  have hm:∀ (h:Value) (W:World),(method 624 171 h "pressmark/turns.compare").run Tryz.prog W=.ok (98,h) W:=fun _ _=>by kernel_rfl
  go_enter Tryz.func146,Tryz.ntmps146
  go_wp2_with fail
  refine CT.out.mono ?_;rintro e w' ⟨rfl,hB⟩;have HB:=Lib.hid hB;clear hB
  go_wp2_with fail
  go_ret
  exact⟨rfl,HB.out⟩
def zce (P:List Nat) (k:Nat):Nat:=P[k]?.getD 0
theorem zh4 (w:World) (g n cap q M:Nat) (lt:Nat→Nat→Bool) (R:Nat→Nat→Prop) (ht:∀ x y z,R x y→R y z→R x z) (D:List Nat) (E:List Value) (hr:SRow w g D E)
    (hn:D.length=n) (hn1:n≤1000000) (hD:D.Pairwise (zwn R lt)) (hM:∀ x∈D,x<M) (hc:CmpOk w g q M lt) :
    Calls Tryz.prog 145 #[.slice (some ⟨g,0,none⟩) n cap,zj5 q] w fun e w'=>e=.returned (.tuple #[])∧(∃ L,SRow w' g L E∧L.Perm D∧L.Pairwise R)∧Only g w w':=by
  have CS:=Lib.hid (zoW w g n cap q M lt R ht D E hr hn hn1 hD hM hc);unfold zj5 at *
  clear hr hn hn1 hD hM hc ht
  go_enter Tryz.func145,Tryz.ntmps145
  go_wp2_with fail
  refine CS.out.mono ?_;rintro e w' ⟨rfl,h1,h2⟩;have H1:=Lib.hid h1;have H2:=Lib.hid h2;clear h1 h2
  go_wp2_with fail
  exact bodyPost_end (results_none rfl _ _ _) rfl ⟨rfl,H1.out,H2.out⟩
theorem zjn (s:ByteArray) (w:World) (g n cap rb cap2 m:Nat) (P D:List Nat) (E:List Value) (hr:SRow w g D E) (hp:SRow w rb P []) (hne:rb≠g) (hs:s.size=n)
    (hn:D.length=n) (hP:P.length=n) (hn1:n≤1000000) (hm:m≤2000000) (hD:D.Pairwise (· < ·)) (hM:∀ x∈D,x<n) :
    Calls Tryz.prog 97 #[.slice (some ⟨g,0,none⟩) n cap,.iface 171 (zcw s (.slice (some ⟨rb,0,none⟩) n cap2) m)] w fun e w'=>e=.returned (.tuple #[])∧(∃ L,SRow w' g L E∧L.Perm D∧L.Pairwise (KeyR n (zce P) m))∧Only g w w':=by
  have hmf:=hmf;have hB:Below w.heap.size w (w.alloc (.cells #[.iface 171 (zcw s (.slice (some ⟨rb,0,none⟩) n cap2) m)] 258)):=(Below.refl _ _).alloc (Nat.le_refl _) _;have hbx:(w.alloc (.cells #[.iface 171 (zcw s (.slice (some ⟨rb,0,none⟩) n cap2) m)] 258)).heap[w.heap.size]?=some (.cells #[.iface 171 (zcw s (.slice (some ⟨rb,0,none⟩) n cap2) m)] 258 (0,0)):=zae _ _ _ rfl;have hgl:=hr.lt
  have CS:Hid (Calls Tryz.prog 145 #[.slice (some ⟨g,0,none⟩) n cap,.func (.func 146) #[] #[.pointer (some ⟨w.heap.size,0,none⟩)]] (w.alloc (.cells #[.iface 171 (zcw s (.slice (some ⟨rb,0,none⟩) n cap2) m)] 258)) fun e w'=>e=.returned (.tuple #[])∧(∃ L,SRow w' g L E∧L.Perm D∧L.Pairwise (KeyR n (zce P) m))∧Only g (w.alloc (.cells #[.iface 171 (zcw s (.slice (some ⟨rb,0,none⟩) n cap2) m)] 258)) w'):=by
    refine zh4 _ g n cap w.heap.size n (zb3 n (zce P) m) (KeyR n (zce P) m) (KeyR.trans _ _ _) D E (hr.below hB) hn hn1 (hD.imp fun h=>zqq n (zce P) m h) hM ?_;intro W hW x y hx hy;have h1:W.heap[w.heap.size]?=some (.cells #[.iface 171 (zcw s (.slice (some ⟨rb,0,none⟩) n cap2) m)] 258 (0,0)):=hW.other hbx (by omega)
    have h2:SRow W rb P []:=(hp.below hB).same (hW.block rb (by have:=hp.lt;have:=hB.size;omega) hne)
    refine (zpJ s rb w.heap.size n cap2 m x y P W h1 h2 hP hs hx hy hn1 hm).mono ?_;rintro e w' ⟨rfl,h⟩;exact⟨_,rfl,zrU P n m x y,h⟩
  have HB:=Lib.hid (Only.of (k:=g) hB);clear hr hp hne hs hn hP hn1 hm hD hM hB hbx hgl;unfold zcw at *
  go_enter Tryz.func97,Tryz.ntmps97
  go_wp2_with fail
  refine CS.out.mono ?_;rintro e w' ⟨rfl,h1,h2⟩;have H1:=Lib.hid h1;have H2:=Lib.hid (HB.out.trans h2);clear h1 h2
  go_wp2_with fail
  exact bodyPost_end (results_none rfl _ _ _) rfl ⟨rfl,H1.out,H2.out⟩
end Go.Proofs.YtoejfkeofbdalaaGreatDoor
