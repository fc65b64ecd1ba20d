import Derived.Test.YtoejfkeofbdalaaGreatDoorM09
set_option linter.unusedVariables false
set_option maxRecDepth 100000
set_option maxHeartbeats 8000000
namespace Go.Proofs.YtoejfkeofbdalaaGreatDoor
open Go.RowKit
def CmpOk (w0:World) (g q M:Nat) (lt:Nat→Nat→Bool):Prop:=∀ W,Only g w0 W→∀ x y,x<M→y<M →
  Calls Tryz.prog 146 #[.int .i64 x,.int .i64 y,.pointer (some ⟨q,0,none⟩)] W fun e w'=>∃ c:Int,e=.returned (.int .i64 c)∧decide (c<0)=lt x y∧Below W.heap.size W w'
theorem CmpOk.only {w0 w1:World} {g q M:Nat} {lt:Nat→Nat→Bool} (h:CmpOk w0 g q M lt) (ho:Only g w0 w1):CmpOk w1 g q M lt:=fun W hW=>h W (ho.trans hW)
abbrev zj5 (q:Nat):Value:=.func (.func 146) #[] #[.pointer (some ⟨q,0,none⟩)]
theorem zhD (w:World) (g n cap q M:Nat) (lt:Nat→Nat→Bool) (R:Nat→Nat→Prop) (ht:∀ x y z,R x y→R y z→R x z) (X U Y:List Nat) (E:List Value) (a b:Nat) (hr:SRow w g (X++(U++Y)) E)
    (ha:X.length=a) (hb:a+U.length=b) (hn:(X++(U++Y)).length=n) (hn1:n≤1000000) (hU:U.Pairwise (zwn R lt)) (hM:∀ x∈U,x<M) (hc:CmpOk w g q M lt) :
    Calls Tryz.prog 252 #[.slice (some ⟨g,0,none⟩) n cap,.int .i64 a,.int .i64 b,zj5 q] w fun e w'=>e=.returned (.tuple #[])∧(∃ L,SRow w' g (X++(L++Y)) E∧L.Perm U∧L.Pairwise R)∧Only g w w':=by
  have HR:=Lib.hid hr;have HA:=Lib.hid ha;have HB:=Lib.hid hb;have HN:=Lib.hid hn;have HU:=Lib.hid hU;have HM:=Lib.hid hM;have HC:=Lib.hid hc;have HT:=Lib.hid ht;have hbn:b≤n:=by rw[←hn];simp;omega
  have hab:a≤b:=by omega
  clear hr ha hb hn hU hM hc ht;unfold zj5
  go_enter Tryz.func252,Tryz.ntmps252
  go_wp2_with fail
  go_loopw [8] (fun iv wr=>∃ (d:Nat) (L:List Nat),iv=.int .i64 ((a+d:Nat):Int)∧1≤d∧a+d≤b+1∧Hid (SRow wr g (X++(L++(U.drop d++Y))) E)∧Hid (L.Perm (U.take d))∧Hid (L.Pairwise R)∧Hid (Only g w wr)) (fun iv _=>b+1-(intOf iv).toNat)
  case atStart =>
    refine⟨1,U.take 1,by go_num,Nat.le_refl _,by omega,?_,List.Perm.refl _,?_,Only.refl _ _⟩
    · show SRow _ _ _ _
      rw[←List.append_assoc (U.take 1),List.take_append_drop];exact HR.out
    · cases U with
      | nil=>exact List.Pairwise.nil
      | cons x U=>exact List.pairwise_singleton _ _
  case round =>
    clear HR;obtain⟨d,L,rfl,hd1,hd2,HR,HL,HP,HO⟩:=hrel
    by_cases hlt:a+d<b
    · have hUl:=HB.out
      obtain⟨v,hv⟩:∃ v,U[d]?=some v:=⟨_,List.getElem?_eq_getElem (by omega)⟩
      have hdr:U.drop d=v::U.drop (d+1):=by
        rw[List.drop_eq_getElem_cons (by omega)]
        congr 1
        rw[List.getElem?_eq_getElem (by omega)] at hv
        exact Option.some.inj hv
      have hLl:L.length=d:=by rw[HL.out.length_eq,List.length_take];omega
      have hcx:∀ x∈L,zwn R lt x v:=by
        intro x hx;obtain⟨i,hi1,hi2⟩:=List.mem_take_iff_getElem.1 (HL.out.mem_iff.1 hx);obtain⟨hvl,hve⟩:=List.getElem?_eq_some_iff.1 hv;rw[←hi2,←hve];exact List.pairwise_iff_getElem.1 HU.out i d (by omega) hvl (by omega)
      have hvM:v<M:=HM.out v (List.mem_of_getElem? hv);have hLM:∀ x∈L,x<M:=fun x hx=>HM.out x (List.mem_of_mem_take (HL.out.mem_iff.1 hx));have HCX:=Lib.hid hcx;have HLM:=Lib.hid hLM;have HV:=Lib.hid hv;have HD:=Lib.hid hdr;have HLL:=Lib.hid hLl;clear hcx hLM hv hUl hLl;rw[hdr] at HR;have HR:=Lib.hid HR.out;clear hdr;obtain⟨i,hi⟩:∃ i,a+d=i:=⟨_,rfl⟩;rw[hi] at hlt hd2 ⊢;have HI:=Lib.hid hi;have hai:a<i:=by omega
      clear hi hd1
      go_wp2_with fail
      go_loopw [9] (fun jv wq=>∃ (j:Nat) (K:List Nat),jv=.int .i64 (j:Int)∧a≤j∧j≤i∧Hid (Sinking R X L (U.drop (d+1)++Y) v j K)∧Hid (SRow wq g K E)∧Hid (Only g w wq)) (fun jv _=>(intOf jv).toNat)
      case atStart =>
        refine⟨i,_,rfl,by omega,Nat.le_refl _,?_,HR.out,HO.out⟩
        exact Sinking.start R (by rw[HA.out,HLL.out];exact HI.out)
      case round =>
        clear HR HO;obtain⟨j,K,rfl,hj1,hj2,HS,HR,HO⟩:=hrel
        by_cases hja:a<j
        · have hXj:X.length<j:=by rw[HA.out];exact hja
          obtain⟨x,hgv,hgx,hup,hdn⟩:=HS.out.step HCX.out hXj
          have hKl:K.length=n:=by
            obtain⟨U1,U2,e1,e2,e3,_⟩:=HS.out;have h1:=congrArg List.length e1;have h2:=HN.out;have h3:=HLL.out;have h4:=HB.out;have h5:=HI.out;rw[e3];simp only[List.length_append,List.length_cons,List.length_drop] at h1 h2 ⊢;omega
          have hxM:x<M:=by
            obtain⟨U1,U2,e1,e2,e3,_⟩:=HS.out
            have hmem:x∈L:=by
              rw[e3] at hgx
              have h1:(X++(U1++(v::(U2++(U.drop (d+1)++Y)))))[j-1]?=(U1)[j-1-X.length]?:=by
                rw[List.getElem?_append_right (by omega),List.getElem?_append_left (by omega)]
              rw[h1] at hgx;rw[e1];exact List.mem_append_left _ (List.mem_of_getElem? hgx)
            exact HLM.out x hmem
          have cv:=HR.out.cell _ _ hgv;have cx:=HR.out.cell _ _ hgx;have hgr:=HR.out.lt;have CA:Hid (∀ W,Below wr.heap.size wr W→Calls Tryz.prog 146 #[.int .i64 v,.int .i64 x,.pointer (some ⟨q,0,none⟩)] W fun e w'=>∃ c:Int,e=.returned (.int .i64 c)∧decide (c<0)=lt v x∧Below W.heap.size W w'):=fun W hW=>HC.out W (HO.out.trans (Only.of hW)) v x hvM hxM;have HST:Hid (∀ {W':World},Below wr.heap.size wr W'→W'.cell? ⟨g,j,none⟩=some (.int .i64 (v:Int))∧W'.cell? ⟨g,j-1,none⟩=some (.int .i64 (x:Int))):=fun h=>⟨(h.cell (p:=⟨g,j,none⟩) hgr).trans cv,(h.cell (p:=⟨g,j-1,none⟩) hgr).trans cx⟩;have hr0:Below wr.heap.size wr wr:=Below.refl _ _;have w1:IntKind.i64.wrap ((j:Int)-1)=((j-1:Nat):Int):=by rw[IntWalk.i64_in _ (by omega)];omega
          have l1:j<n:=by omega
          have l2:j-1<n:=by omega
          have d1:decide ((a:Int)<(j:Int))=true:=decide_eq_true (by omega)
          have m1:¬ j=j-1:=by omega
          have m2:¬ j-1=j:=by omega
          have m3:a≤j-1:=by omega
          have m4:j-1≤i:=by omega
          have m5:j-1<j:=by omega
          have HUP:=Lib.hid hup;have HDN:=Lib.hid hdn;have HKL:=Lib.hid hKl;clear hup hdn hgv hgx hKl HS;obtain⟨r,hr⟩:∃ r,lt v x=r:=⟨_,rfl⟩;rw[hr] at CA HUP HDN;clear hr;generalize j-1=j1 at *
          go_wp2_with fail
          go_region_held3 (fun W'=>W'.cell? ⟨g,j,none⟩=some (.int .i64 (v:Int))∧W'.cell? ⟨g,j1,none⟩=some (.int .i64 (x:Int)))
            ((first | exact HST.out hr0.drew | exact HST.out HB8.out | fail))
            ((first
              | (go_at_call 146
                 refine (CA.out _ hr0.drew).mono ?_;rintro e w8 ⟨c,rfl,hcc,hB8⟩;have HB8:=Lib.hid (zvS hB8 hr0.drew);have HCC:=Lib.hid hcc;clear hB8 hcc)
              | fail))
          rename_i hheld
          clear hheld;have HO8:=Lib.hid (HO.out.trans (Only.of HB8.out));have HR8:=Lib.hid (HR.out.below HB8.out);cases r with
          | true =>
            have c1:=(HST.out HB8.out).1;have c2:=(HST.out HB8.out).2;have f1:=HR8.out.frozen j;have f2:=HR8.out.frozen j1;have HR9:=Lib.hid (HR8.out.swap j j1 x v (by rw[HKL.out];exact l1) (by rw[HKL.out];exact l2))
            have HO9:=Lib.hid (zhQ HO8.out j j1 (.int .i64 (x:Int)) (.int .i64 (v:Int)));have HS9:=Lib.hid (HUP.out rfl);rw[HCC.out];clear HR8 HO8 HR HO HST CA HB8 HDN HUP cv cx hr0 HCC hgr
            go_wp2_with fail
            go_region
            go_wp2_with fail
            go_roundw
            case rel=>exact⟨j1,_,by go_num,m3,m4,HS9,HR9,HO9⟩
            case measure=>simp[intOf];omega
          | false =>
            obtain⟨U1,U2,e1,e2,e3,W1,e4,e5⟩:=HDN.out rfl;rw[HCC.out];have hsk:(U1++v::U2).Pairwise R:=zwU HT.out (by rw[←e1];exact HP.out) e3 (.inr ⟨W1,x,e4,e5⟩)
            have hpm:(U1++v::U2).Perm (U.take (d+1)):=by
              obtain⟨hvl,hve⟩:=List.getElem?_eq_some_iff.1 HV.out;rw[List.take_succ_eq_append_getElem hvl,hve];refine List.perm_middle.trans (((e1 ▸ HL.out).cons v).trans ?_);exact List.perm_append_comm (l₁:=[v])
            rw[e2] at HR8;have HSK:=Lib.hid hsk;have HPM:=Lib.hid hpm;have hi5:a+(d+1)≤b+1:=by have:=HI.out;omega
            have hi6:i+1=a+(d+1):=by have:=HI.out;omega
            clear HR HO HST CA HB8 HDN HUP cv cx hr0 HCC hgr e1 e2 e3 e4 e5 hsk hpm
            go_wp2_with fail
            go_roundw
            case rel =>
              refine⟨d+1,U1++v::U2,?_,by omega,hi5,?_,HPM,HSK,HO8⟩
              · rw[←hi6];go_num
              · show SRow _ _ _ _
                have:=HR8.out;simpa using this
            case measure=>simp[intOf];omega
        · obtain rfl:j=a:=by omega
          obtain⟨U1,U2,e1,e2,e3,e4⟩:=HS.out;have hU1:U1=[]:=List.eq_nil_of_length_eq_zero (by have:=HA.out;omega)
          subst hU1;have hsk:(v::U2).Pairwise R:=zwU (U1:=[]) HT.out (by rw[←e1];exact HP.out) e4 (.inl rfl)
          have hpm:(v::U2).Perm (U.take (d+1)):=by
            obtain⟨hvl,hve⟩:=List.getElem?_eq_some_iff.1 HV.out;rw[List.take_succ_eq_append_getElem hvl,hve];have hl:=HL.out;rw[e1] at hl;refine ((List.nil_append U2 ▸ hl).cons v).trans ?_;exact List.perm_append_comm (l₁:=[v])
          rw[e3] at HR;have HSK:=Lib.hid hsk;have HPM:=Lib.hid hpm;have hi5:j+(d+1)≤b+1:=by have:=HI.out;omega
          have hi6:i+1=j+(d+1):=by have:=HI.out;omega
          have d1:decide ((j:Int)<(j:Int))=false:=decide_eq_false (by omega)
          clear e1 e2 e3 e4 hsk hpm HS
          go_wp2_with fail
          go_region
          go_wp2_with fail
          go_roundw
          case rel =>
            refine⟨d+1,v::U2,?_,by omega,hi5,?_,HPM,HSK,(HO.out.trans (Only.of (below_drewN (Below.refl _ _) 1)))⟩
            · rw[←hi6];go_num
            · show SRow _ _ _ _
              have:=HR.out;simpa using this.same (w':=wr.drew) rfl
          case measure=>simp[intOf];omega
    · have hUl:=HB.out
      have e1:U.take d=U:=List.take_of_length_le (by omega)
      have e2:U.drop d=[]:=List.drop_eq_nil_of_le (by omega)
      rw[e1] at HL;rw[e2,List.nil_append] at HR;have dd:decide (((a+d:Nat):Int)<(b:Int))=false:=decide_eq_false (by omega)
      clear e1 e2 hUl
      go_wp2_with fail
      exact bodyPost_end (results_none rfl _ _ _) rfl ⟨rfl,⟨L,HR.out,HL.out,HP.out⟩,HO.out⟩
theorem zuB {α:Type} (X V Y:List α) (u:α) (d:Nat) (h:d<V.length) (k:Nat) (hk:k=X.length+d) :
    ∃ y,(X++(V.take d++(u::(V.drop d++Y))))[k]?=some u∧(X++(V.take d++(u::(V.drop d++Y))))[k+1]?=some y∧V[d]?=some y ∧
      ((X++(V.take d++(u::(V.drop d++Y)))).set k y).set (k+1) u=X++(V.take (d+1)++(u::(V.drop (d+1)++Y))):=by
  have hd:V.drop d=V[d]::V.drop (d+1):=List.drop_eq_getElem_cons h;have ht:V.take (d+1)=V.take d++[V[d]]:=List.take_succ_eq_append_getElem h;have hl:(X++V.take d).length=k:=by simp;omega
  refine⟨V[d],?_,?_,by simp,?_⟩
  · rw[←List.append_assoc];exact zcV hl.symm
  · rw[hd,show X++(V.take d++u::(V[d]::V.drop (d+1)++Y))=(X++(V.take d++[u]))++V[d]::(V.drop (d+1)++Y) by simp only[List.append_assoc,List.cons_append,List.nil_append]]
    exact zcV (by simp;omega)
  · rw[ht,show V.drop d++Y=V[d]::(V.drop (d+1)++Y) by rw[hd];rfl]
    have e1:=zdo (L:=X++V.take d) (M:=V[d]::(V.drop (d+1)++Y)) (x:=u) V[d] (k:=k) hl.symm;have e2:=zdo (L:=X++(V.take d++[V[d]])) (M:=V.drop (d+1)++Y) (x:=V[d]) u (k:=k+1) (by simp;omega)
    simp only[List.append_assoc,List.cons_append,List.nil_append] at e1 e2 ⊢;rw[e1,e2]
theorem zn9 (w:World) (g n cap q M:Nat) (lt:Nat→Nat→Bool) (R:Nat→Nat→Prop) (ht:∀ x y z,R x y→R y z→R x z) (X V Y:List Nat) (u:Nat) (E:List Value) (a m b:Nat) (hr:SRow w g (X++(u::(V++Y))) E)
    (ha:X.length=a) (hm:a+1=m) (hb:m+V.length=b) (hn:(X++(u::(V++Y))).length=n) (hn1:n≤1000000) (hV:V.Pairwise R) (hA:∀ y∈V,zwn R lt u y) (hu:u<M) (hM:∀ x∈V,x<M) (hc:CmpOk w g q M lt) :
    Calls Tryz.prog 253 #[.slice (some ⟨g,0,none⟩) n cap,.int .i64 a,.int .i64 m,.int .i64 b,zj5 q] w fun e w'=>e=.returned (.tuple #[])∧(∃ L,SRow w' g (X++(L++Y)) E∧L.Perm (u::V)∧L.Pairwise R)∧Only g w w':=by
  have hbn:b≤n:=by rw[←hn];simp;omega
  have hat:∀ i (h:i<V.length),(X++(u::(V++Y)))[m+i]?.getD 0=V[i]:=by
    intro i h;rw[List.getElem?_append_right (by omega),show m+i-X.length=i+1 by omega,List.getElem?_cons_succ,List.getElem?_append_left h,List.getElem?_eq_getElem h]
    rfl
  have hat2:∀ c,m≤c→c<b→(X++(u::(V++Y)))[c]?=some ((X++(u::(V++Y)))[c]?.getD 0)∧(X++(u::(V++Y)))[c]?.getD 0<M:=by
    intro c h1 h2;have h3:=hat (c-m) (by omega)
    rw[show m+(c-m)=c by omega] at h3
    refine⟨?_,by rw[h3];exact hM _ (List.getElem_mem _)⟩
    rw[List.getElem?_eq_getElem (by omega)]
    rfl
  have hau:(X++(u::(V++Y)))[a]?=some u:=zcV ha.symm
  have HX:Hid (∀ k,Halved (fun c=>lt ((X++(u::(V++Y)))[c]?.getD 0) u) m b k k→m≤k∧k-m≤V.length∧(V.take (k-m)++u::V.drop (k-m)).Perm (u::V)∧(V.take (k-m)++u::V.drop (k-m)).Pairwise R):=fun k hk =>
    zki R ht lt hV (fun y hy=>hA y hy) (fun c=>(X++(u::(V++Y)))[c]?.getD 0) hat (by rw[hb];exact hk)
  have HA2:=Lib.hid hat2;have HAU:=Lib.hid hau;have HR:=Lib.hid hr;have HN:=Lib.hid hn;have HXA:=Lib.hid ha;have HB:=Lib.hid hb;have HC:=Lib.hid hc;have hmb:m≤b:=by omega
  have ham:a<m:=by omega
  have HMA:=Lib.hid hm;obtain⟨K,hK⟩:∃ K,X++(u::(V++Y))=K:=⟨_,rfl⟩;have HK:=Lib.hid hK;rw[hK] at HX HA2 HAU HR HN;have w0:IntKind.i64.wrap ((m:Int)-(a:Int))=1:=by rw[IntWalk.i64_in _ (by omega)];omega
  have w00:((b:Int)-(m:Int)=1)↔b=m+1:=by omega
  clear hr ha hb hn hV hA hM hc hat hat2 hau hK ht w00 hm;unfold zj5
  go_enter Tryz.func253,Tryz.ntmps253
  go_wp2_with fail
  go_loopw [10,11] (fun iv jv wr=>∃ i j:Nat,iv=.int .i64 i∧jv=.int .i64 j∧Hid (Halved (fun c=>lt (K[c]?.getD 0) u) m b i j)∧Hid (SRow wr g K E)∧Hid (Only g w wr)) (fun iv jv _=>(intOf jv-intOf iv).toNat)
  case atStart=>exact⟨m,b,rfl,rfl,Halved.start _ hmb,HR.out,Only.refl _ _⟩
  case round =>
    clear HR;obtain⟨i,j,rfl,rfl,HH,HR,HO⟩:=hrel;obtain⟨hi1,hij,hj1⟩:m≤i∧i≤j∧j≤b:=⟨HH.out.1,HH.out.2.1,HH.out.2.2.1⟩
    by_cases hlt:i<j
    · obtain⟨h,hh⟩:∃ h,(i+j) / 2=h:=⟨_,rfl⟩
      have hih:i≤h:=by omega
      have hhj:h<j:=by omega
      have hz:((i:Int)+(j:Int)) / 2=(h:Int):=by omega
      clear hh;obtain⟨hgx,hxM⟩:=HA2.out h (by omega) (by omega)
      obtain⟨x,hx⟩:∃ x,K[h]?.getD 0=x:=⟨_,rfl⟩;have hup:=HH.out.up hih hhj;have hdn:=HH.out.down hih hhj;rw[hx] at hgx hxM hup hdn;have cx:=HR.out.cell _ _ hgx;have cu:=HR.out.cell _ _ HAU.out;have hgr:=HR.out.lt;have CA:Hid (∀ W,Below wr.heap.size wr W→Calls Tryz.prog 146 #[.int .i64 x,.int .i64 u,.pointer (some ⟨q,0,none⟩)] W fun e w'=>∃ c:Int,e=.returned (.int .i64 c)∧decide (c<0)=lt x u∧Below W.heap.size W w'):=fun W hW=>HC.out W (HO.out.trans (Only.of hW)) x u hxM hu;have HST:Hid (∀ {W':World},Below wr.heap.size wr W'→W'.cell? ⟨g,h,none⟩=some (.int .i64 (x:Int))∧W'.cell? ⟨g,a,none⟩=some (.int .i64 (u:Int))):=fun h0=>⟨(h0.cell (p:=⟨g,h,none⟩) hgr).trans cx,(h0.cell (p:=⟨g,a,none⟩) hgr).trans cu⟩;have hr0:Below wr.heap.size wr wr:=Below.refl _ _;have l1:h<n:=by omega
      have l2:a<n:=by omega
      have HUP:=Lib.hid hup;have HDN:=Lib.hid hdn;clear hup hdn hgx hx HH;obtain⟨r,hr⟩:∃ r,lt x u=r:=⟨_,rfl⟩;rw[hr] at CA HUP HDN;clear hr
      go_wp2_with fail
      go_region_held3 (fun W'=>W'.cell? ⟨g,h,none⟩=some (.int .i64 (x:Int))∧W'.cell? ⟨g,a,none⟩=some (.int .i64 (u:Int)))
        ((first | exact HST.out hr0.drew | exact HST.out HB8.out | fail))
        ((first
          | (go_at_call 146
             refine (CA.out _ hr0.drew).mono ?_;rintro e w8 ⟨c,rfl,hcc,hB8⟩;have HB8:=Lib.hid (zvS hB8 hr0.drew);have HCC:=Lib.hid hcc;clear hB8 hcc)
          | fail))
      have HO8:=Lib.hid (HO.out.trans (Only.of HB8.out));have HR8:=Lib.hid (HR.out.below HB8.out);rw[HCC.out];cases r with
      | true =>
        have HH8:=Lib.hid (HUP.out rfl);clear HR HO HST CA HB8 HDN HUP cx cu hr0 HCC hgr
        go_wp2_with fail
        go_roundw
        case rel=>exact⟨h+1,j,by go_num,rfl,HH8,HR8,HO8⟩
        case measure=>simp[intOf];omega
      | false =>
        have HH8:=Lib.hid (HDN.out rfl);clear HR HO HST CA HB8 HDN HUP cx cu hr0 HCC hgr
        go_wp2_with fail
        go_roundw
        case rel=>exact⟨i,h,rfl,rfl,HH8,HR8,HO8⟩
        case measure=>simp[intOf];omega
    · obtain rfl:i=j:=by omega
      have hfin:=HX.out i HH.out;have w1:IntKind.i64.wrap ((i:Int)-1)=(i:Int)-1:=IntWalk.i64_in _ (by omega)
      have HF:=Lib.hid hfin;clear hfin HH HX HA2 hij
      go_wp2_with fail
      go_loopw [13] (fun kv wr=>∃ d:Nat,kv=.int .i64 ((a+d:Nat):Int)∧d+m≤i∧Hid (SRow wr g (X++(V.take d++(u::(V.drop d++Y)))) E)∧Hid (Only g w wr)) (fun kv _=>(i-(intOf kv).toNat))
      case atStart =>
        refine⟨0,rfl,by omega,?_,HO⟩
        show SRow _ _ _ _
        rw[List.take_zero,List.nil_append,List.drop_zero,HK.out];exact HR.out
      case round =>
        clear HR HO;obtain⟨d,rfl,hd,HR,HO⟩:=hrel
        by_cases hlt2:d+m<i
        · obtain⟨y,hg1,hg2,hVy,hset⟩:=zuB X V Y u d (by have:=HB.out;omega) (a+d) (by rw[HXA.out])
          have hKl:(X++(V.take d++(u::(V.drop d++Y)))).length=n:=by
            have h1:=HN.out;rw[←HK.out] at h1;rw[←h1];have h2:=congrArg List.length (List.take_append_drop d V);simp only[List.length_append,List.length_cons] at h2 ⊢;omega
          have cx:=HR.out.cell _ _ hg1;have cu:=HR.out.cell _ _ hg2;have f1:=HR.out.frozen (a+d);have f2:=HR.out.frozen (a+d+1);have hla:a+d+1<n:=by omega
          have HR9:=HR.out.swap (a+d) (a+d+1) y u (by omega) (by omega)
          rw[hset] at HR9;have HR9:=Lib.hid HR9;have HO9:=Lib.hid (zhQ HO.out (a+d) (a+d+1) (.int .i64 (y:Int)) (.int .i64 (u:Int)));have hk:decide (((a+d:Nat):Int)<(i:Int)-1)=true:=decide_eq_true (by omega)
          have hki:a+d+1≤i:=by omega
          have he:a+(d+1)=a+d+1:=rfl;clear HR HO hg1 hg2 hVy hset hKl;obtain⟨k,hkk⟩:∃ k,a+d=k:=⟨_,rfl⟩;rw[hkk] at cx cu f1 f2 hla HR9 HO9 hk hki he ⊢;have m1:¬ k=k+1:=by omega
          have m2:¬ k+1=k:=by omega
          have w2:IntKind.i64.wrap ((k:Int)+1)=((k+1:Nat):Int):=by rw[IntWalk.i64_in _ (by omega)];omega
          have l1:k<n:=by omega
          obtain⟨k1,hk1⟩:∃ k1,k+1=k1:=⟨_,rfl⟩;rw[hk1] at cu f2 hla HR9 HO9 hki he m1 m2 w2;have HK1:=Lib.hid hk1;clear hk1 hkk
          go_wp2_with fail
          go_region
          go_wp2_with fail
          go_roundw
          case rel=>exact⟨d+1,by rw[he],by omega,HR9,HO9⟩
          case measure=>have:=HK1.out;simp[intOf];omega
        · have hf:=HF.out
          rw[show i-m=d by omega] at hf
          have HF2:=Lib.hid hf;have hk:decide (((a+d:Nat):Int)<(i:Int)-1)=false:=decide_eq_false (by have:=HMA.out;omega)
          clear hf HF hlt2 hd;obtain⟨k,hkk⟩:∃ k,a+d=k:=⟨_,rfl⟩;rw[hkk] at hk ⊢;clear hkk
          go_wp2_with fail
          refine bodyPost_ret (v:=.tuple #[]) (results_none rfl _ _ _) rfl ⟨rfl,⟨_,?_,HF2.out.2.2.1,HF2.out.2.2.2⟩,HO.out⟩;have:=HR.out;simpa using this
theorem zqE {α:Type} (X U Y:List α) (v:α) (d:Nat) (h:d<U.length) (k:Nat) (hk:k=X.length+d) :
    ∃ y,(X++(U.take (d+1)++(v::(U.drop (d+1)++Y))))[k+1]?=some v∧(X++(U.take (d+1)++(v::(U.drop (d+1)++Y))))[k]?=some y∧U[d]?=some y ∧
      ((X++(U.take (d+1)++(v::(U.drop (d+1)++Y)))).set (k+1) y).set k v=X++(U.take d++(v::(U.drop d++Y))):=by
  have hd:U.drop d++Y=U[d]::(U.drop (d+1)++Y):=by rw[List.drop_eq_getElem_cons h];rfl
  have ht:U.take (d+1)=U.take d++[U[d]]:=List.take_succ_eq_append_getElem h;have hl:(X++U.take d).length=k:=by simp;omega
  refine⟨U[d],?_,?_,by simp,?_⟩
  · rw[←List.append_assoc];exact zcV (by simp;omega)
  · rw[ht,show X++(U.take d++[U[d]]++v::(U.drop (d+1)++Y))=(X++U.take d)++U[d]::(v::(U.drop (d+1)++Y)) by simp only[List.append_assoc,List.cons_append,List.nil_append]]
    exact zcV (by omega)
  · rw[ht,hd]
    have e1:=zdo (L:=X++(U.take d++[U[d]])) (M:=U.drop (d+1)++Y) (x:=v) U[d] (k:=k+1) (by simp;omega)
    have e2:=zdo (L:=X++U.take d) (M:=U[d]::(U.drop (d+1)++Y)) (x:=U[d]) v (k:=k) hl.symm;simp only[List.append_assoc,List.cons_append,List.nil_append] at e1 e2 ⊢;rw[e1,e2]
theorem zma (w:World) (g n cap q M:Nat) (lt:Nat→Nat→Bool) (R:Nat→Nat→Prop) (ht:∀ x y z,R x y→R y z→R x z) (X U Y:List Nat) (v:Nat) (E:List Value) (a m b:Nat) (hr:SRow w g (X++(U++(v::Y))) E)
    (ha:X.length=a) (hm:a+U.length=m) (hb:m+1=b) (h2:2≤U.length) (hn:(X++(U++(v::Y))).length=n) (hn1:n≤1000000) (hU:U.Pairwise R) (hA:∀ x∈U,zwn R lt x v) (hv:v<M) (hM:∀ x∈U,x<M) (hc:CmpOk w g q M lt) :
    Calls Tryz.prog 253 #[.slice (some ⟨g,0,none⟩) n cap,.int .i64 a,.int .i64 m,.int .i64 b,zj5 q] w fun e w'=>e=.returned (.tuple #[])∧(∃ L,SRow w' g (X++(L++Y)) E∧L.Perm (U++[v])∧L.Pairwise R)∧Only g w w':=by
  have hbn:b≤n:=by rw[←hn];simp;omega
  have hat:∀ i (h:i<U.length),(X++(U++(v::Y)))[a+i]?.getD 0=U[i]:=by
    intro i h;rw[List.getElem?_append_right (by omega),show a+i-X.length=i by omega,List.getElem?_append_left h,List.getElem?_eq_getElem h]
    rfl
  have hat2:∀ c,a≤c→c<m→(X++(U++(v::Y)))[c]?=some ((X++(U++(v::Y)))[c]?.getD 0)∧(X++(U++(v::Y)))[c]?.getD 0<M:=by
    intro c h1 h2;have h3:=hat (c-a) (by omega)
    rw[show a+(c-a)=c by omega] at h3
    refine⟨?_,by rw[h3];exact hM _ (List.getElem_mem _)⟩
    rw[List.getElem?_eq_getElem (by omega)]
    rfl
  have hau:(X++(U++(v::Y)))[m]?=some v:=by rw[←List.append_assoc];exact zcV (by simp;omega)
  have HX:Hid (∀ k,Halved (fun c=>!lt v ((X++(U++(v::Y)))[c]?.getD 0)) a m k k→a≤k∧k-a≤U.length∧(U.take (k-a)++v::U.drop (k-a)).Perm (U++[v])∧(U.take (k-a)++v::U.drop (k-a)).Pairwise R):=fun k hk =>
    zsP R ht lt hU (fun y hy=>hA y hy) (fun c=>(X++(U++(v::Y)))[c]?.getD 0) hat (by rw[hm];exact hk)
  have HA2:=Lib.hid hat2;have HAU:=Lib.hid hau;have HR:=Lib.hid hr;have HN:=Lib.hid hn;have HXA:=Lib.hid ha;have HC:=Lib.hid hc;have hmb:m<b:=by omega
  have ham:a<m:=by omega
  have HM:=Lib.hid hm;have HB:=Lib.hid hb;have HTA:Hid (U.take U.length=U∧U.drop U.length=[]):=⟨List.take_length,List.drop_length⟩;obtain⟨K,hK⟩:∃ K,X++(U++(v::Y))=K:=⟨_,rfl⟩;have HK:=Lib.hid hK;rw[hK] at HX HA2 HAU HR HN;have w0:IntKind.i64.wrap ((m:Int)-(a:Int))=(m:Int)-(a:Int):=IntWalk.i64_in _ (by omega)
  have d0:((m:Int)-(a:Int) == 1)=false:=by simp;omega
  have w1:IntKind.i64.wrap ((b:Int)-(m:Int))=1:=by rw[IntWalk.i64_in _ (by omega)];omega
  clear hr ha hb hn hU hA hM hc hat hat2 hau hK ht hm h2;unfold zj5
  go_enter Tryz.func253,Tryz.ntmps253
  go_wp2_with fail
  go_loopw [14,15] (fun iv jv wr=>∃ i j:Nat,iv=.int .i64 i∧jv=.int .i64 j∧Hid (Halved (fun c=>!lt v (K[c]?.getD 0)) a m i j)∧Hid (SRow wr g K E)∧Hid (Only g w wr)) (fun iv jv _=>(intOf jv-intOf iv).toNat)
  case atStart=>exact⟨a,m,rfl,rfl,Halved.start _ (Nat.le_of_lt ham),HR.out,Only.refl _ _⟩
  case round =>
    clear HR;obtain⟨i,j,rfl,rfl,HH,HR,HO⟩:=hrel;obtain⟨hi1,hij,hj1⟩:a≤i∧i≤j∧j≤m:=⟨HH.out.1,HH.out.2.1,HH.out.2.2.1⟩
    by_cases hlt:i<j
    · obtain⟨h,hh⟩:∃ h,(i+j) / 2=h:=⟨_,rfl⟩
      have hih:i≤h:=by omega
      have hhj:h<j:=by omega
      have hz:((i:Int)+(j:Int)) / 2=(h:Int):=by omega
      clear hh;obtain⟨hgx,hxM⟩:=HA2.out h (by omega) (by omega)
      obtain⟨x,hx⟩:∃ x,K[h]?.getD 0=x:=⟨_,rfl⟩;have hup:=HH.out.up hih hhj;have hdn:=HH.out.down hih hhj;rw[hx] at hgx hxM hup hdn;have cx:=HR.out.cell _ _ hgx;have cu:=HR.out.cell _ _ HAU.out;have hgr:=HR.out.lt;have CA:Hid (∀ W,Below wr.heap.size wr W→Calls Tryz.prog 146 #[.int .i64 v,.int .i64 x,.pointer (some ⟨q,0,none⟩)] W fun e w'=>∃ c:Int,e=.returned (.int .i64 c)∧decide (c<0)=lt v x∧Below W.heap.size W w'):=fun W hW=>HC.out W (HO.out.trans (Only.of hW)) v x hv hxM;have HST:Hid (∀ {W':World},Below wr.heap.size wr W'→W'.cell? ⟨g,h,none⟩=some (.int .i64 (x:Int))∧W'.cell? ⟨g,m,none⟩=some (.int .i64 (v:Int))):=fun h0=>⟨(h0.cell (p:=⟨g,h,none⟩) hgr).trans cx,(h0.cell (p:=⟨g,m,none⟩) hgr).trans cu⟩;have hr0:Below wr.heap.size wr wr:=Below.refl _ _;have l1:h<n:=by omega
      have l2:m<n:=by omega
      have HUP:=Lib.hid hup;have HDN:=Lib.hid hdn;clear hup hdn hgx hx HH;obtain⟨r,hr⟩:∃ r,lt v x=r:=⟨_,rfl⟩;rw[hr] at CA HUP HDN;clear hr
      go_wp2_with fail
      go_region_held3 (fun W'=>W'.cell? ⟨g,h,none⟩=some (.int .i64 (x:Int))∧W'.cell? ⟨g,m,none⟩=some (.int .i64 (v:Int)))
        ((first | exact HST.out hr0.drew | exact HST.out HB8.out | fail))
        ((first
          | (go_at_call 146
             refine (CA.out _ hr0.drew).mono ?_;rintro e w8 ⟨c,rfl,hcc,hB8⟩;have HB8:=Lib.hid (zvS hB8 hr0.drew);have HCC:=Lib.hid hcc;clear hB8 hcc)
          | fail))
      have HO8:=Lib.hid (HO.out.trans (Only.of HB8.out));have HR8:=Lib.hid (HR.out.below HB8.out);rw[HCC.out];cases r with
      | false =>
        have HH8:=Lib.hid (HUP.out rfl);clear HR HO HST CA HB8 HDN HUP cx cu hr0 HCC hgr
        go_wp2_with fail
        go_roundw
        case rel=>exact⟨h+1,j,by go_num,rfl,HH8,HR8,HO8⟩
        case measure=>simp[intOf];omega
      | true =>
        have HH8:=Lib.hid (HDN.out rfl);clear HR HO HST CA HB8 HDN HUP cx cu hr0 HCC hgr
        go_wp2_with fail
        go_roundw
        case rel=>exact⟨i,h,rfl,rfl,HH8,HR8,HO8⟩
        case measure=>simp[intOf];omega
    · obtain rfl:i=j:=by omega
      have hfin:=HX.out i HH.out;have HF:=Lib.hid hfin;clear hfin HH HX HA2 hij
      go_wp2_with fail
      go_loopw [17] (fun kv wr=>∃ d:Nat,kv=.int .i64 ((a+d:Nat):Int)∧i≤a+d∧a+d≤m∧Hid (SRow wr g (X++(U.take d++(v::(U.drop d++Y)))) E)∧Hid (Only g w wr)) (fun kv _=>((intOf kv).toNat))
      case atStart =>
        refine⟨U.length,by rw[HM.out],by have:=HM.out;omega,by have:=HM.out;omega,?_,HO⟩
        show SRow _ _ _ _
        rw[HTA.out.1,HTA.out.2,List.nil_append,HK.out];exact HR.out
      case round =>
        clear HR HO;obtain⟨d,rfl,hd,hdm,HR,HO⟩:=hrel
        by_cases hlt2:i<a+d
        · obtain⟨d,rfl⟩:∃ d',d=d' + 1:=⟨d-1,by omega⟩
          obtain⟨y,hg1,hg2,hVy,hset⟩:=zqE X U Y v d (by have:=HM.out;omega) (a+d) (by rw[HXA.out])
          have hKl:(X++(U.take (d+1)++(v::(U.drop (d+1)++Y)))).length=n:=by
            have h1:=HN.out;rw[←HK.out] at h1;rw[←h1];have h2:=congrArg List.length (List.take_append_drop (d+1) U);simp only[List.length_append,List.length_cons] at h2 ⊢;omega
          have cx:=HR.out.cell _ _ hg1;have cu:=HR.out.cell _ _ hg2;have f1:=HR.out.frozen (a+d);have f2:=HR.out.frozen (a+d+1);have hla:a+d+1<n:=by omega
          have HR9:=HR.out.swap (a+d+1) (a+d) y v (by omega) (by omega)
          rw[hset] at HR9;have HR9:=Lib.hid HR9;have HO9:=Lib.hid (zhQ HO.out (a+d+1) (a+d) (.int .i64 (y:Int)) (.int .i64 (v:Int)));have hki:i≤a+d:=by omega
          have hkm:a+d≤m:=by omega
          have he:a+(d+1)=a+d+1:=rfl;rw[he] at hlt2 ⊢;clear HR HO hg1 hg2 hVy hset hKl he hd hdm;obtain⟨k,hkk⟩:∃ k,a+d=k:=⟨_,rfl⟩;rw[hkk] at cx cu f1 f2 hla HR9 HO9 hki hkm hlt2 ⊢;have m1:¬ k=k+1:=by omega
          have m2:¬ k+1=k:=by omega
          have l1:k<n:=by omega
          obtain⟨k1,hk1⟩:∃ k1,k+1=k1:=⟨_,rfl⟩;have w2:IntKind.i64.wrap ((k1:Int)-1)=(k:Int):=by rw[IntWalk.i64_in _ (by omega)];omega
          rw[hk1] at cx f2 hla HR9 HO9 m1 m2 hlt2 ⊢;have HK1:=Lib.hid hk1;have HKK:=Lib.hid hkk;clear hk1 hkk
          go_wp2_with fail
          go_region
          go_wp2_with fail
          go_roundw
          case rel=>exact⟨d,by rw[HKK.out],by rw[HKK.out];exact hki,by rw[HKK.out];exact hkm,HR9,HO9⟩
          case measure=>have:=HK1.out;simp[intOf];omega
        · have hf:=HF.out
          rw[show i-a=d by omega] at hf
          have HF2:=Lib.hid hf;have hk:decide (i<a+d)=false:=decide_eq_false (by omega)
          clear hf HF hlt2 hd;obtain⟨k,hkk⟩:∃ k,a+d=k:=⟨_,rfl⟩;rw[hkk] at hk ⊢;clear hkk
          go_wp2_with fail
          refine bodyPost_ret (v:=.tuple #[]) (results_none rfl _ _ _) rfl ⟨rfl,⟨_,?_,HF2.out.2.2.1,HF2.out.2.2.2⟩,HO.out⟩;have:=HR.out;simpa using this
end Go.Proofs.YtoejfkeofbdalaaGreatDoor
