import Derived.Test.YtoejfkeofbdalaaGreatDoorM05
import Derived.Deep.RegionHeld3
import Derived.Deep.RegionLaw
import Derived.BigRegion
import Derived.Deep.CutRange
import Derived.Deep.DeepCutAuto
set_option linter.unusedVariables false
set_option maxRecDepth 100000
set_option maxHeartbeats 8000000
namespace Go.Proofs.YtoejfkeofbdalaaGreatDoor
open Go.RowKit
theorem zlk (w:World) (a b:NP) :
    Calls Tryz.prog 139 #[.agg #[.int .i64 (a.1:Int),.int .i64 (a.2:Int)],.agg #[.int .i64 (b.1:Int),.int .i64 (b.2:Int)]] w fun e w'=>e=.returned (.bool (ltP a b))∧Below w.heap.size w w':=by
  obtain⟨a1,a2⟩:=a;obtain⟨b1,b2⟩:=b;have hBl:Below w.heap.size w ((w.alloc (.cells #[.int .i64 (a1:Int),.int .i64 (a2:Int)] 245)).alloc (.cells #[.int .i64 (b1:Int),.int .i64 (b2:Int)] 245)):=((Below.refl _ _).alloc (Nat.le_refl _) _).alloc (by simp) _
  have HBl:=Lib.hid hBl;clear hBl
  by_cases h1:a1<b1
  · have hr:Hid (ltP (a1,a2) (b1,b2)=true):=by show _=_;rw[zb7];exact .inl h1
    go_enter Tryz.func139,Tryz.ntmps139
    go_wp2
    go_ret
    exact⟨by rw[hr.out];simp,HBl.out⟩
  · by_cases h2:a1=b1
    · subst h2
      by_cases h3:a2<b2
      · have hr:Hid (ltP (a1,a2) (a1,b2)=true):=by show _=_;rw[zb7];exact .inr ⟨rfl,h3⟩
        go_enter Tryz.func139,Tryz.ntmps139
        go_wp2
        go_ret
        exact⟨by rw[hr.out];simp,HBl.out⟩
      · have hr:Hid (ltP (a1,a2) (a1,b2)=false):=by show _=_;rw[zg2];simp;omega
        go_enter Tryz.func139,Tryz.ntmps139
        go_wp2
        go_ret
        exact⟨by rw[hr.out];simp,HBl.out⟩
    · have hr:Hid (ltP (a1,a2) (b1,b2)=false):=by show _=_;rw[zg2];simp;omega
      have hne:((a1:Int) == (b1:Int))=false:=by rw[beq_eq_false_iff_ne];omega
      have hlt:b1<a1:=by omega
      go_enter Tryz.func139,Tryz.ntmps139
      go_wp2
      go_ret
      exact⟨by rw[hr.out];simp,HBl.out⟩
theorem Que.row {w:World} {qb:Nat} {h:List NP} (hq:Que w qb h) (hn:0<h.length):∃ g cap,w.heap[qb]?=some (.cells #[.slice (some ⟨g,0,none⟩) h.length cap,.func (.func 139) #[] #[]] 249 (0,0))∧TreeOwn w (qb+1) (.slice (some ⟨g,0,none⟩) h.length cap) h:=by
  obtain⟨v,h1,h2⟩:=hq.ex;obtain⟨g,cap,rfl,_⟩:=h2.place hn;exact⟨g,cap,h1,h2⟩
theorem Que.up {w w':World} {qb:Nat} {h:List NP} (hq:Que w qb h) (hB:Below w.heap.size w w'):Que w' qb h:=by
  obtain⟨v,h1,h2⟩:=hq.ex;exact⟨v,(hB.block _ (zab h1)).trans h1,h2.below hB⟩
theorem zlm {W c c':World} (h2:Below c.heap.size c c') (h:Below W.heap.size W c):Below W.heap.size W c':=h.trans (h2.mono h.size)
theorem zur {w:World} {qb:Nat} {v v':Value} {h:List NP} (hq:w.heap[qb]?=some (.cells #[v,.func (.func 139) #[] #[]] 249 (0,0))) (ho:TreeOwn w (qb+1) v' h):Que (w.setCell ⟨qb,0,none⟩ v') qb h :=
  ⟨v',by have:=zaf hq 0 v';simpa using this,World.ownsRow.kept ho (grownBy_setCell' w qb v') (by
    cases hb:v'.ownBlock with
    | none=>exact .inl rfl
    | some k =>
      refine .inr fun e=>?_;have:=zeH ho hb;injection e with e
      omega)⟩
theorem TreeOwn.put {w:World} {base g n cap:Nat} {h:List NP} (ho:TreeOwn w base (.slice (some ⟨g,0,none⟩) n cap) h) (j:Nat) (x:NP) (hj:j<h.length) :
    TreeOwn ((w.setCell ⟨g,j*2,none⟩ (.int .i64 (x.1:Int))).setCell ⟨g,j*2+1,none⟩ (.int .i64 (x.2:Int))) base (.slice (some ⟨g,0,none⟩) n cap) (h.set j x):=by
  obtain⟨g',cap',he,_,_,_,_,_,_,_,h2,_⟩:=ho.place (by omega)
  injection he with he1 he2 he3
  injection he1 with he1
  injection he1 with he1
  subst he1;exact h2 j x hj
theorem zbz {w:World} {g:Nat} (h:∃ cur,w.heap[g]?=some (.cells cur 245 (0,0))) (i:Nat) (u:Value):∃ cur,(w.setCell ⟨g,i,none⟩ u).heap[g]?=some (.cells cur 245 (0,0)):=by
  obtain⟨cur,hc⟩:=h;exact⟨_,zaf hc i u⟩
theorem zsr {w:World} {qb g n cap i k:Nat} {h:List NP} {a b:NP} (hq:w.heap[qb]?=some (.cells #[.slice (some ⟨g,0,none⟩) n cap,.func (.func 139) #[] #[]] 249 (0,0)))
    (ho:TreeOwn w (qb+1) (.slice (some ⟨g,0,none⟩) n cap) h) (hi:i<h.length) (hk:k<h.length) (ha:gP h i=a) (hb:gP h k=b) (hg:qb<g) (hh:∃ cur,w.heap[g]?=some (.cells cur 245 (0,0))) :
    Que (((((w.setCell ⟨g,i*2,none⟩ (.int .i64 (b.1:Int))).setCell ⟨g,i*2+1,none⟩ (.int .i64 (b.2:Int))).setCell ⟨g,k*2,none⟩ (.int .i64 (a.1:Int))).setCell ⟨g,k*2+1,none⟩ (.int .i64 (a.2:Int))).drew) qb (zdM h i k) ∧
    Kept qb w (((((w.setCell ⟨g,i*2,none⟩ (.int .i64 (b.1:Int))).setCell ⟨g,i*2+1,none⟩ (.int .i64 (b.2:Int))).setCell ⟨g,k*2,none⟩ (.int .i64 (a.1:Int))).setCell ⟨g,k*2+1,none⟩ (.int .i64 (a.2:Int))).drew):=by
  subst ha hb;have h1:=ho.put i (gP h k) hi;have h2:=h1.put k (gP h i) (by rw[List.length_set];exact hk)
  have hne:qb≠g:=by omega
  refine⟨⟨_,?_,h2⟩,?_⟩
  · have e:∀ (W:World) (j:Nat) (u:Value),(W.setCell ⟨g,j,none⟩ u).heap[qb]?=W.heap[qb]?:=fun W j u=>Below.heap_setCell _ _ _ _ hne
    show (((((w.setCell _ _).setCell _ _).setCell _ _).setCell _ _)).heap[qb]?=_
    rw[e,e,e,e];exact hq
  · have t1:=zbz hh (i*2) (.int .i64 ((gP h k).1:Int))
    have t2:=zbz t1 (i*2+1) (.int .i64 ((gP h k).2:Int));have t3:=zbz t2 (k*2) (.int .i64 ((gP h i).1:Int));have k4:=(((Kept.set hg hh (i*2) (.int .i64 ((gP h k).1:Int))).trans (Kept.set hg t1 (i*2+1) (.int .i64 ((gP h k).2:Int)))).trans (Kept.set hg t2 (k*2) (.int .i64 ((gP h i).1:Int)))).trans (Kept.set hg t3 (k*2+1) (.int .i64 ((gP h i).2:Int)));exact⟨k4.bel.drew,k4.size,k4.other⟩
theorem znK (w:World) (qb:Nat) (h:List NP) (x:NP) (hq:Que w qb h) (hh:HeapP h) (hl:h.length≤1000) :
    Calls Tryz.prog 140 #[.pointer (some ⟨qb,0,none⟩),.agg #[.int .i64 (x.1:Int),.int .i64 (x.2:Int)]] w fun e w'=>e=.returned (.tuple #[])∧∃ h',HeapP h'∧h'.Perm (x::h)∧Que w' qb h'∧Kept qb w w':=by
  obtain⟨v,hqb,hrow⟩:=hq.ex;obtain⟨q0,c0,rfl⟩:=hrow.shape;obtain⟨x1,x2⟩:=x;have HQB:=Lib.hid hqb;have HRW:=Lib.hid hrow;have hql:=zab hqb;have HH:=Lib.hid hh;clear hqb hrow hh hq
  go_enter Tryz.func140,Tryz.ntmps140
  go_wp2_with fail
  obtain⟨bx,hbx⟩:∃ b,w.heap.size=b:=⟨_,rfl⟩;have hX0:(w.alloc (.cells #[.int .i64 (x1:Int),.int .i64 (x2:Int)] 245)).heap[bx]?=some (.cells #[.int .i64 (x1:Int),.int .i64 (x2:Int)] 245 (0,0)):=zae _ _ _ hbx.symm;have HQ1:=Lib.hid (zah (.cells #[.int .i64 (x1:Int),.int .i64 (x2:Int)] 245) HQB.out);have HR1:=Lib.hid (HRW.out.alloc (.cells #[.int .i64 (x1:Int),.int .i64 (x2:Int)] 245));have HB1:Hid (Below w.heap.size w (w.alloc (.cells #[.int .i64 (x1:Int),.int .i64 (x2:Int)] 245))):=(Below.refl _ _).alloc (Nat.le_refl _) _;have hz1:(w.alloc (.cells #[.int .i64 (x1:Int),.int .i64 (x2:Int)] 245)).heap.size=bx+1:=by simp[hbx]
  generalize w.alloc (.cells #[.int .i64 (x1:Int),.int .i64 (x2:Int)] 245)=W1 at *
  have HX0:=Lib.hid hX0;have kx0:=(zaa hX0 0).trans rfl;have kx1:=(zaa hX0 1).trans rfl;have kq0:=(zaa HQ1.out 0).trans rfl;rw[hbx] at hql ⊢;clear hX0
  go_cut [6] (fun s6 wx=>s6=.pointer (some ⟨qb,0,none⟩)∧Que wx qb (h++[(x1,x2)])∧Kept qb w wx)
  case first =>
    go_region_law
      (refine zgq (by rfl) _ _ (by rfl) (qb+1) _ h (by rfl) (HR1.out.alloc _) (bx+1) (x1,x2) (by rfl) (zae _ _ _ hz1.symm) (by omega) (by simp;omega) ?_
       intro g c w2 hown2 hg2 hat2;have hq2:=(hg2.block qb (by simp;omega) (fun e=>by have:=zeH HR1.out e.symm;omega)).trans (zah _ HQ1.out)
       have kq2:=(zaa hq2 0).trans rfl;have fq2:=zac hq2 0;have Hq2:=Lib.hid hq2;have Hown2:=Lib.hid hown2;have Hg2:=Lib.hid hg2;clear hq2 hown2 hg2 hat2)
    all_goals
      go_wp2_with fail
      go_meet
      have hkb:Kept qb w W1:=Kept.below (by omega) HB1.out
      have hk2:Kept qb W1 w2:=(Kept.below (by omega) ((Below.refl _ W1).alloc (Nat.le_refl _) _).drew).trans (Kept.grown ((HR1.out.alloc _).below (Below.refl _ _).drew) (Nat.lt_succ_self _) (by simp;omega) Hg2.out)
      exact⟨rfl,zur Hq2.out (by have:=Hown2.out;exact this),(hkb.trans hk2).trans (Kept.setq 0 _)⟩
  case rest =>
    obtain⟨rfl,hQ,hK⟩:=hcut;have HQc:=Lib.hid hQ;have HKc:=Lib.hid hK;clear hQ hK HQ1 HR1 HB1 HX0 kx0 kx1 kq0 hz1;have hl1:(h++[(x1,x2)]).length=h.length+1:=by simp
    have hU:=UpP.start HH.out (x1,x2);have hP:(h++[(x1,x2)]).Perm ((x1,x2)::h):=List.perm_append_comm;obtain⟨N,hN⟩:∃ N,h.length=N:=⟨_,rfl⟩;rw[hN] at hl1 hU hl;have HU:=Lib.hid hU;have HP:=Lib.hid hP;generalize h++[(x1,x2)]=h1 at *
    obtain⟨g,cap,hq1,ho1⟩:=HQc.out.row (by omega)
    rw[hl1] at hq1;have kq0:=(zaa hq1 0).trans rfl;have hw1:IntKind.i64.wrap ((N:Int)+1-1)=(N:Int):=by rw[IntWalk.i64_in _ (by omega)];omega
    clear hU hP hq1 ho1 hN
    go_wp2_with fail
    go_loopw [4] (fun iv wr=>∃ (i:Nat) (h':List NP),iv=.int .i64 i∧i<N+1∧h'.length=N+1∧Hid (UpP h' i)∧Hid (h'.Perm ((x1,x2)::h))∧Hid (Que wr qb h')∧Hid (Kept qb w wr)) (fun iv _=>(intOf iv).toNat)
    case atStart=>exact⟨N,h1,by go_num,by omega,hl1,HU,HP,HQc,HKc⟩
    case round =>
      clear HU HP HQc HKc kq0 hl1 hw1;obtain⟨i,h',rfl,hi,hl',HU,HP,HQ,HK⟩:=hrel
      by_cases h0:0<i
      · obtain⟨k,hk⟩:∃ k,(i-1) / 2=k:=⟨_,rfl⟩
        have hki:k<i:=by omega
        have hi0:(0:Int)≤(i:Int):=by omega
        have hi1:(i:Int)<(N:Int)+1:=by omega
        have hk0:(0:Int)≤(k:Int):=by omega
        have hk1:(k:Int)<(N:Int)+1:=by omega
        have hdv:((i:Int)-1).tdiv 2=(k:Int):=by rw[Int.tdiv_eq_ediv_of_nonneg (by omega)];omega
        have hwi:IntKind.i64.wrap ((i:Int)-1)=(i:Int)-1:=IntWalk.i64_in _ (by omega)
        have hwk:IntKind.i64.wrap (k:Int)=(k:Int):=IntWalk.i64_in _ (by omega)
        obtain⟨g,cap,hq1,ho1⟩:=HQ.out.row (by omega)
        have hpl:=ho1.place (by omega)
        obtain⟨g',cap',he,hcap1,hcap2,hg1,hg2,hg3,hg4,hg5,hg6,_⟩:=hpl;rw[hl'] at he hq1 ho1;injection he with he1 he2 he3
        injection he1 with he1
        injection he1 with he1
        subst he1;subst he3;rw[hl'] at hcap1;unfold maxLen at hcap2;obtain⟨ci0,ci1⟩:=hg4 i (by omega)
        obtain⟨ck0,ck1⟩:=hg4 k (by omega)
        have fi0:=hg5 (i*2);have fi1:=hg5 (i*2+1);have fk0:=hg5 (k*2);have fk1:=hg5 (k*2+1);have kq0:=(zaa hq1 0).trans rfl;have kq1:=(zaa hq1 1).trans rfl;have hqr:=zab hq1;have CA:Hid (∀ W,Calls Tryz.prog 139 #[.agg #[.int .i64 ((gP h' i).1:Int),.int .i64 ((gP h' i).2:Int)],.agg #[.int .i64 ((gP h' k).1:Int),.int .i64 ((gP h' k).2:Int)]] W fun e w'=>e=.returned (.bool (ltP (gP h' i) (gP h' k)))∧Below W.heap.size W w'):=fun W=>zlk W _ _;have HQ1:=Lib.hid hq1;have HO1:=Lib.hid ho1;have HG3:=Lib.hid hg3;have HG6:=Lib.hid hg6
        have HST:Hid (∀ {W':World},Below wr.heap.size wr W'→W'.cell? ⟨qb,0,none⟩=some (.slice (some ⟨g,0,none⟩) (N+1) cap)∧W'.cell? ⟨qb,1,none⟩=some (.func (.func 139) #[] #[])∧W'.cell? ⟨g,i*2,none⟩=some (.int .i64 ((gP h' i).1:Int))∧W'.cell? ⟨g,i*2+1,none⟩=some (.int .i64 ((gP h' i).2:Int))∧W'.cell? ⟨g,k*2,none⟩=some (.int .i64 ((gP h' k).1:Int))∧W'.cell? ⟨g,k*2+1,none⟩=some (.int .i64 ((gP h' k).2:Int))):=fun h =>
          ⟨(h.cell (p:=⟨qb,0,none⟩) hqr).trans kq0,(h.cell (p:=⟨qb,1,none⟩) hqr).trans kq1,(h.cell (p:=⟨g,i*2,none⟩) hg2).trans ci0,(h.cell (p:=⟨g,i*2+1,none⟩) hg2).trans ci1,(h.cell (p:=⟨g,k*2,none⟩) hg2).trans ck0,(h.cell (p:=⟨g,k*2+1,none⟩) hg2).trans ck1⟩
        have hr0:Below wr.heap.size wr wr:=Below.refl _ _;obtain⟨a,ha⟩:∃ a,gP h' i=a:=⟨_,rfl⟩;obtain⟨b,hb⟩:∃ b,gP h' k=b:=⟨_,rfl⟩;rw[ha] at ci0 ci1 CA HST;rw[hb] at ck0 ck1 CA HST;have HA:=Lib.hid ha;have HB:=Lib.hid hb;have HKK:=Lib.hid hk;obtain⟨r,hr⟩:∃ r,ltP a b=r:=⟨_,rfl⟩;rw[hr] at CA;have HR:=Lib.hid hr;clear hq1 ho1 hg3 hg4 hg5 hg6 ha hb hk hr
        go_wp2_with fail
        go_region_held3 (fun W'=>W'.cell? ⟨qb,0,none⟩=some (.slice (some ⟨g,0,none⟩) (N+1) cap)∧W'.cell? ⟨qb,1,none⟩=some (.func (.func 139) #[] #[])∧W'.cell? ⟨g,i*2,none⟩=some (.int .i64 (a.1:Int))∧W'.cell? ⟨g,i*2+1,none⟩=some (.int .i64 (a.2:Int))∧W'.cell? ⟨g,k*2,none⟩=some (.int .i64 (b.1:Int))∧W'.cell? ⟨g,k*2+1,none⟩=some (.int .i64 (b.2:Int)))
          ((first | exact HST.out hr0.drew | exact HST.out HB8.out | fail))
          ((first
            | (go_at_call 139
               refine (CA.out _).mono ?_;rintro e w8 ⟨rfl,hB8⟩;have HB8:=Lib.hid (zlm hB8 hr0.drew);clear hB8)
            | fail))
        all_goals
          have HK8:=Lib.hid (HK.out.trans (Kept.below (Nat.le_of_lt hqr) HB8.out));cases r with
          | false =>
            have Hh:Hid (HeapP h'):=HU.out.done (.inr (by rw[HKK.out,HA.out,HB.out];exact HR.out))
            have HQ8:=Lib.hid (HQ.out.up HB8.out);clear ci0 ci1 ck0 ck1 kq0 kq1 fi0 fi1 fk0 fk1
            go_wp2_with fail
            refine bodyPost_ret (v:=.tuple #[]) (results_none rfl _ _ _) rfl ?_;exact⟨rfl,h',Hh.out,HP.out,HQ8.out,HK8.out⟩
          | true =>
            have HU2:Hid (UpP (zdM h' i k) k):=by
              have:=HU.out.step h0 (by rw[HKK.out,HA.out,HB.out];exact HR.out)
              rw[HKK.out] at this;exact this
            have HP2:Hid ((zdM h' i k).Perm ((x1,x2)::h)):=(zi1 h' i k (by omega) (by omega) (by omega)).trans HP.out
            have hls:(zdM h' i k).length=N+1:=by rw[zbe,hl']
            have ho8:=HO1.out.below HB8.out;have hq8:=(HB8.out.block qb hqr).trans HQ1.out;obtain⟨g',cap',he,_,_,_,hg28,hg38,hg48,hg58,hg68,_⟩:=ho8.place (by omega)
            rw[hl'] at he;injection he with he1 he2 he3
            injection he1 with he1
            injection he1 with he1
            subst he1;subst he3;have di0:=hg58 (i*2);have di1:=hg58 (i*2+1);have dk0:=hg58 (k*2);have dk1:=hg58 (k*2+1);obtain⟨ei0,ei1⟩:=hg48 i (by omega)
            obtain⟨ek0,ek1⟩:=hg48 k (by omega)
            rw[HA.out] at ei0 ei1;rw[HB.out] at ek0 ek1;have eq0:=(zaa hq8 0).trans rfl;have n1:¬ i*2=k*2:=by omega
            have n2:¬ i*2+1=k*2:=by omega
            have n3:¬ i*2=k*2+1:=by omega
            have n4:¬ i*2+1=k*2+1:=by omega
            have n5:¬ k*2=i*2:=by omega
            have n6:¬ k*2+1=i*2:=by omega
            have n7:¬ k*2=i*2+1:=by omega
            have n8:¬ k*2+1=i*2+1:=by omega
            have n9:¬ g=qb:=by omega
            have n10:¬ qb=g:=by omega
            have HQ8:=Lib.hid hq8;have HO8:=Lib.hid ho8;have HG38:=Lib.hid hg38;clear ci0 ci1 ck0 ck1 kq0 kq1 fi0 fi1 fk0 fk1 hg48 hg58 hg68 hq8 ho8 hg38 CA HST
            go_wp2_with fail
            go_region
            go_wp2_with fail
            obtain⟨hQs,hKs⟩:=zsr HQ8.out HO8.out (show i<h'.length by omega) (show k<h'.length by omega) HA.out HB.out (by omega) HG38.out
            go_roundw
            case rel=>exact⟨k,zdM h' i k,by go_num,by omega,hls,HU2,HP2,hQs,HK8.out.trans hKs⟩
            case measure=>simp[intOf];omega
      · obtain rfl:i=0:=by omega
        have hh:=HU.out.done (.inl rfl);have Hh:=Lib.hid hh;clear hh
        go_wp2_with fail
        go_end0
        exact⟨rfl,h',Hh.out,HP.out,HQ.out,HK.out⟩
theorem TreeOwn.same {w w':World} {base g n cap:Nat} {h:List NP} (ho:TreeOwn w base (.slice (some ⟨g,0,none⟩) n cap) h) (hh:w'.heap[g]?=w.heap[g]?):TreeOwn w' base (.slice (some ⟨g,0,none⟩) n cap) h:=by
  refine⟨ho.1,?_⟩;rcases ho.2 with ⟨e,_⟩ | ⟨g',cap',cur,e,hb,hg,rest⟩
  · cases e
  · injection e with e1 e2 e3
    injection e1 with e1
    injection e1 with e1
    subst e1;exact .inr ⟨g,cap',cur,by rw[e2,e3],hb,hh.trans hg,rest⟩
theorem zlD (k:Nat) (w:World) (a b:Value) (h:w.heap[k]?=some (.cells #[a,b] 245 (0,0))):(loadVar 245 ⟨k,0,none⟩).run Tryz.prog w=.ok (.agg #[a,b]) w:=by
  have c0:=(zaa h 0).trans rfl;have c1:=(zaa h 1).trans rfl
  go_simp
theorem zrC {W:World} {k:Nat} {a b:Value} {t:TypeId} (h:W.heap[k]?=some (.cells #[a,b] t (0,0))) (a' b':Value):((W.setCell ⟨k,0,none⟩ a').setCell ⟨k,1,none⟩ b').heap[k]?=some (.cells #[a',b'] t (0,0)):=by
  have h1:=zaf (zaf h 0 a') 1 b';simpa using h1
theorem zrx {w:World} {qb g n cap i k:Nat} {h:List NP} {a b:NP}
    (ho:TreeOwn w (qb+1) (.slice (some ⟨g,0,none⟩) n cap) h) (hi:i<h.length) (hk:k<h.length) (ha:gP h i=a) (hb:gP h k=b) (hg:qb<g) (hh:∃ cur,w.heap[g]?=some (.cells cur 245 (0,0))) (W:World)
    (hW:W=(((((w.setCell ⟨g,i*2,none⟩ (.int .i64 (b.1:Int))).setCell ⟨g,i*2+1,none⟩ (.int .i64 (b.2:Int))).setCell ⟨g,k*2,none⟩ (.int .i64 (a.1:Int))).setCell ⟨g,k*2+1,none⟩ (.int .i64 (a.2:Int))).drew)) :
    TreeOwn W (qb+1) (.slice (some ⟨g,0,none⟩) n cap) (zdM h i k)∧Kept qb w W∧∀ j,j≠g→W.heap[j]?=w.heap[j]?:=by
  subst hW ha hb;have h1:=ho.put i (gP h k) hi;have h2:=h1.put k (gP h i) (by rw[List.length_set];exact hk)
  refine⟨h2,?_,fun j hj=>?_⟩
  · have t1:=zbz hh (i*2) (.int .i64 ((gP h k).1:Int))
    have t2:=zbz t1 (i*2+1) (.int .i64 ((gP h k).2:Int));have t3:=zbz t2 (k*2) (.int .i64 ((gP h i).1:Int));have k4:=(((Kept.set hg hh (i*2) (.int .i64 ((gP h k).1:Int))).trans (Kept.set hg t1 (i*2+1) (.int .i64 ((gP h k).2:Int)))).trans (Kept.set hg t2 (k*2) (.int .i64 ((gP h i).1:Int)))).trans (Kept.set hg t3 (k*2+1) (.int .i64 ((gP h i).2:Int)));exact⟨k4.bel.drew,k4.size,k4.other⟩
  · show (((((w.setCell _ _).setCell _ _).setCell _ _).setCell _ _)).heap[j]?=_
    rw[Below.heap_setCell _ _ _ _ hj,Below.heap_setCell _ _ _ _ hj,Below.heap_setCell _ _ _ _ hj,Below.heap_setCell _ _ _ _ hj]
set_option maxHeartbeats 12800000 in
theorem zq2 (w:World) (qb:Nat) (h:List NP) (hq:Que w qb h) (hh:HeapP h) (hl:h.length≤1000) (hn:0<h.length) :
    Calls Tryz.prog 141 #[.pointer (some ⟨qb,0,none⟩)] w fun e w'=>e=.returned (.agg #[.int .i64 ((gP h 0).1:Int),.int .i64 ((gP h 0).2:Int)])∧∃ h',HeapP h'∧(gP h 0::h').Perm h∧Que w' qb h'∧Kept qb w w':=by
  obtain⟨W1,hW1⟩:∃ W1,w.alloc (.cells #[.int .i64 0,.int .i64 0] 245)=W1:=⟨_,rfl⟩;obtain⟨rb,hrb⟩:∃ rb,w.heap.size=rb:=⟨_,rfl⟩;have hB1:Below w.heap.size w W1:=by rw[←hW1];exact (Below.refl _ _).alloc (Nat.le_refl _) _
  have hRB:W1.heap[rb]?=some (.cells #[.int .i64 0,.int .i64 0] 245 (0,0)):=by rw[←hW1];exact zae _ _ _ hrb.symm
  have hz1:W1.heap.size=rb+1:=by rw[←hW1,←hrb];simp
  have hqs:qb<rb:=by
    obtain⟨v,hv,_⟩:=hq.ex;have:=zab hv;omega
  have HK1:Hid (Kept qb w W1):=Kept.below (by omega) hB1
  obtain⟨g,cap,hqw,hroww⟩:=hq.row hn
  have hgr:g<rb:=by
    have:=hroww.place hn;obtain⟨g',cap',he,-,-,-,hlt,-⟩:=this;injection he with he1 he2 he3
    injection he1 with he1
    injection he1 with he1
    omega
  have hqb:=(hB1.block qb (by omega)).trans hqw
  have hrow:=hroww.below hB1;obtain⟨N,hN⟩:∃ N,h.length=N+1:=⟨h.length-1,by omega⟩
  rw[hN] at hqb hrow hl;have hpl:=hrow.place (by omega)
  obtain⟨g',cap',he,hcap1,hcap2,hg1,hg2,hg3,hg4,hg5,-,-⟩:=hpl;rw[hN] at he hcap1;injection he with he1 he2 he3
  injection he1 with he1
  injection he1 with he1
  subst he1;subst he3;unfold maxLen at hcap2;have HP0:=Lib.hid (zoG h hn);have HD0:=Lib.hid (DownP.start hh hn);have hll:(zdx h).length=N:=by rw[zgm];omega
  obtain⟨a,ha⟩:∃ a,gP h 0=a:=⟨_,rfl⟩;obtain⟨z,hz⟩:∃ z,gP h N=z:=⟨_,rfl⟩;obtain⟨ca0,ca1⟩:=hg4 0 (by omega)
  obtain⟨cz0,cz1⟩:=hg4 N (by omega)
  rw[ha] at ca0 ca1 HP0 ⊢;rw[hz] at cz0 cz1;have hlast:zdx h=(h.set 0 z).take N:=by unfold zdx;rw[hN,Nat.add_sub_cancel,hz]
  have HLS:=Lib.hid hlast;have fa0:=hg5 (0*2);have fa1:=hg5 (0*2+1);have kq0:=(zaa hqb 0).trans rfl;have kq1:=(zaa hqb 1).trans rfl;have fq0:=zac hqb 0;have HQB:=Lib.hid hqb;have HRW:=Lib.hid hrow;have HG3:=Lib.hid hg3;have HRB:=Lib.hid hRB;have hgq:qb<g:=by omega
  have hw1:IntKind.i64.wrap ((N:Int)+1-1)=(N:Int):=by rw[IntWalk.i64_in _ (by omega)];omega
  have hw2:IntKind.i64.wrap (N:Int)=(N:Int):=IntWalk.i64_in _ (by omega)
  have hn0:(0:Int)≤(N:Int):=by omega
  have hn1:(N:Int)<(N:Int)+1:=by omega
  have hn2:(0:Int)<(N:Int)+1:=by omega
  rw[Nat.zero_mul] at ca0 fa0;rw[Nat.zero_mul,Nat.zero_add] at ca1 fa1;have HNlen:=Lib.hid hN;have HZ:=Lib.hid hz;clear hqb hrow hq hg4 hg5 hh hlast hn hg3 ha hz hN hqw hroww hB1 hRB
  go_enter Tryz.func141,Tryz.ntmps141
  go_wp2_with fail
  have HWW:=Lib.hid hrb;clear hW1 hrb
  go_cut [3,4] (fun s3 s4 wx=>s3=.pointer (some ⟨rb+1,0,none⟩)∧s4=.int .i64 (N:Int)∧wx.heap[rb+1]?=some (.cells #[.int .i64 (a.1:Int),.int .i64 (a.2:Int)] 245 (0,0))∧Below W1.heap.size W1 wx)
  case first =>
    go_region
    all_goals
      go_wp2_with fail
      go_meet
      exact⟨rfl,rfl,zae _ _ _ hz1.symm,((Below.refl _ W1).alloc (Nat.le_refl _) _).drew⟩
  case rest =>
    obtain⟨rfl,rfl,hX,hB⟩:=hcut;have hqc:=(hB.block qb (by omega)).trans HQB.out
    have hoc:=HRW.out.below hB;have hrc:=(hB.block rb (by omega)).trans HRB.out
    obtain⟨g',cap',he,-,-,-,hg2c,hg3c,hg4c,hg5c,-,-⟩:=hoc.place (by have:=HNlen.out;omega)
    rw[HNlen.out] at he;injection he with he1 he2 he3
    injection he1 with he1
    injection he1 with he1
    subst he1;subst he3;obtain⟨da0,da1⟩:=hg4c 0 (by have:=HNlen.out;omega)
    obtain⟨dz0,dz1⟩:=hg4c N (by have:=HNlen.out;omega)
    have ga0:=hg5c (0*2);have ga1:=hg5c (0*2+1);have lq0:=(zaa hqc 0).trans rfl;have lq1:=(zaa hqc 1).trans rfl;rw[HZ.out] at dz0 dz1;rw[Nat.zero_mul] at da0 ga0;rw[Nat.zero_mul,Nat.zero_add] at da1 ga1;have n9:¬ g=qb:=by omega
    have n10:¬ qb=g:=by omega
    have HX:=Lib.hid hX;have HBc:=Lib.hid hB;have HQC:=Lib.hid hqc;have HOC:=Lib.hid hoc;have HRC:=Lib.hid hrc;have HG3C:=Lib.hid hg3c;clear hX hB hqc hoc hrc hg3c hg4c hg5c ca0 ca1 cz0 cz1 fa0 fa1 kq0 kq1 fq0 hg2
    go_wp2_with fail
    go_region
    have hO2:TreeOwn (((wc.setCell ⟨g,0,none⟩ (.int .i64 (z.1:Int))).setCell ⟨g,1,none⟩ (.int .i64 (z.2:Int))).drew) (qb+1) (.slice (some ⟨g,0,none⟩) (N+1) cap) (h.set 0 z):=by
      have:=HOC.out.put 0 z (by have:=HNlen.out;omega)
      rw[Nat.zero_mul,Nat.zero_add] at this;exact this
    have hK2:Kept qb wc (((wc.setCell ⟨g,0,none⟩ (.int .i64 (z.1:Int))).setCell ⟨g,1,none⟩ (.int .i64 (z.2:Int))).drew):=by
      have t1:=zbz HG3C.out 0 (.int .i64 (z.1:Int));have k4:=(Kept.set hgq HG3C.out 0 (.int .i64 (z.1:Int))).trans (Kept.set hgq t1 1 (.int .i64 (z.2:Int)));exact⟨k4.bel.drew,k4.size,k4.other⟩
    have hS2:∀ k,k≠g→(((wc.setCell ⟨g,0,none⟩ (.int .i64 (z.1:Int))).setCell ⟨g,1,none⟩ (.int .i64 (z.2:Int))).drew).heap[k]?=wc.heap[k]?:=fun k hk=>by
      show ((wc.setCell _ _).setCell _ _).heap[k]?=_
      rw[Below.heap_setCell _ _ _ _ hk,Below.heap_setCell _ _ _ _ hk]
    generalize (((wc.setCell ⟨g,0,none⟩ (.int .i64 (z.1:Int))).setCell ⟨g,1,none⟩ (.int .i64 (z.2:Int))).drew)=W2 at *
    have hq2:=(hS2 qb n10).trans HQC.out;have hr2:=(hS2 rb (by omega)).trans HRC.out
    have hx2:=(hS2 (rb+1) (by omega)).trans HX.out
    have mq0:=(zaa hq2 0).trans rfl;have mf0:=zac hq2 0;obtain⟨g',cap',he,-,-,-,-,-,-,-,-,h7⟩:=hO2.place (by rw[List.length_set];have:=HNlen.out;omega)
    rw[List.length_set,HNlen.out] at he;injection he with he1 he2 he3
    injection he1 with he1
    injection he1 with he1
    subst he1;subst he3;have hO3:=h7 N (by rw[List.length_set];have:=HNlen.out;omega)
    rw[←HLS.out] at hO3
    have hQ3:Hid ((W2.setCell ⟨qb,0,none⟩ (.slice (some ⟨g,0,none⟩) N cap)).heap[qb]?=some (.cells #[.slice (some ⟨g,0,none⟩) N cap,.func (.func 139) #[] #[]] 249 (0,0))):=by
      show _=_
      have:=zaf hq2 0 (.slice (some ⟨g,0,none⟩) N cap);simpa using this
    have hO4:Hid (TreeOwn (W2.setCell ⟨qb,0,none⟩ (.slice (some ⟨g,0,none⟩) N cap)) (qb+1) (.slice (some ⟨g,0,none⟩) N cap) (zdx h)) :=
      World.ownsRow.kept hO3 (grownBy_setCell' W2 qb (.slice (some ⟨g,0,none⟩) N cap)) (.inr (by simp[Value.ownBlock];omega))
    have hR4:Hid ((W2.setCell ⟨qb,0,none⟩ (.slice (some ⟨g,0,none⟩) N cap)).heap[rb]?=some (.cells #[.int .i64 0,.int .i64 0] 245 (0,0))):=(Below.heap_setCell _ _ _ _ (show rb≠qb by omega)).trans hr2
    have hX4:Hid ((W2.setCell ⟨qb,0,none⟩ (.slice (some ⟨g,0,none⟩) N cap)).heap[rb+1]?=some (.cells #[.int .i64 (a.1:Int),.int .i64 (a.2:Int)] 245 (0,0))):=(Below.heap_setCell _ _ _ _ (show rb+1≠qb by omega)).trans hx2
    have hK4:Hid (Kept qb w (W2.setCell ⟨qb,0,none⟩ (.slice (some ⟨g,0,none⟩) N cap))):=((HK1.out.trans (Kept.below (by omega) HBc.out)).trans hK2).trans (Kept.setq 0 _)
    clear hS2 hO2 hK2 hq2 hr2 hx2 h7 hO3 da0 da1 dz0 dz1 ga0 ga1 lq0 lq1 HQC HOC HRC HX HG3C HBc HK1 HRB HG3 HRW HQB HLS
    go_wp2_with fail
    generalize W2.setCell ⟨qb,0,none⟩ (.slice (some ⟨g,0,none⟩) N cap)=W3 at *
    have h1:=zdx h;have hlp:=hll;obtain⟨h0,hh0⟩:∃ h0,zdx h=h0:=⟨_,rfl⟩;rw[hh0] at hO4 HP0 HD0 hlp;clear hh0 hll mq0 mf0 h1
    go_loopw [5] (fun iv wr=>∃ (i:Nat) (h':List NP),iv=.int .i64 i∧i≤N∧h'.length=N∧Hid (DownP h' i)∧Hid ((a::h').Perm h)∧Hid (wr.heap[qb]?=some (.cells #[.slice (some ⟨g,0,none⟩) N cap,.func (.func 139) #[] #[]] 249 (0,0)))∧Hid (TreeOwn wr (qb+1) (.slice (some ⟨g,0,none⟩) N cap) h')∧Hid (wr.heap[rb]?=some (.cells #[.int .i64 0,.int .i64 0] 245 (0,0)))∧Hid (wr.heap[rb+1]?=some (.cells #[.int .i64 (a.1:Int),.int .i64 (a.2:Int)] 245 (0,0)))∧Hid (Kept qb w wr)) (fun iv _=>N+1-(intOf iv).toNat)
    case atStart=>exact⟨0,h0,rfl,Nat.zero_le _,hlp,HD0,HP0,hQ3,hO4,hR4,hX4,hK4⟩
    case round =>
      clear hQ3 hO4 hR4 hX4 hK4 HD0 HP0 hlp;obtain⟨i,h',rfl,hi,hl',HD,HP,HQ,HO,HR,HX,HK⟩:=hrel;have hw5:IntKind.i64.wrap (2*(i:Int))=2*(i:Int):=IntWalk.i64_in _ (by omega)
      have hw6:IntKind.i64.wrap (2*(i:Int)+1)=2*(i:Int)+1:=IntWalk.i64_in _ (by omega)
      have hw7:IntKind.i64.wrap (2*(i:Int)+2)=2*(i:Int)+2:=IntWalk.i64_in _ (by omega)
      go_wp2_with fail
      go_loopw [6,7] (fun fv kv wr=>∃ (f k:Nat),fv=.int .i64 f∧kv=.int .i64 k∧2*i+1≤k∧k≤2*i+3∧(f=i∨2*i+1≤f∧f<k∧f<N∧ltP (gP h' f) (gP h' i)=true)∧Hid (∀ j,2*i+1≤j→j<k→j<N→ltP (gP h' j) (gP h' f)=false)∧Hid (wr.heap[qb]?=some (.cells #[.slice (some ⟨g,0,none⟩) N cap,.func (.func 139) #[] #[]] 249 (0,0)))∧Hid (TreeOwn wr (qb+1) (.slice (some ⟨g,0,none⟩) N cap) h')∧Hid (wr.heap[rb]?=some (.cells #[.int .i64 0,.int .i64 0] 245 (0,0)))∧Hid (wr.heap[rb+1]?=some (.cells #[.int .i64 (a.1:Int),.int .i64 (a.2:Int)] 245 (0,0)))∧Hid (Kept qb w wr)) (fun _ kv _=>2*i+4-(intOf kv).toNat)
      case atStart=>exact⟨i,2*i+1,rfl,by go_num,by omega,by omega,.inl rfl,fun j h1 h2=>by omega,HQ,HO,HR,HX,HK⟩
      case round =>
        clear HQ HO HR HX HK;obtain⟨f,k,rfl,rfl,hk1,hk3,hf,HM,HQ,HO,HR,HX,HK⟩:=hrel
        by_cases hin:k≤2*i+2∧k<N
        · as_aux_lemma =>
          obtain⟨hin1,hin2⟩:=hin;have hfN:f<N:=by omega
          have hN0:0<N:=by omega
          obtain⟨g',cap',he,-,-,-,hg2,hg3,hg4,hg5,-,-⟩:=HO.out.place (by omega)
          rw[hl'] at he;injection he with he1 he2 he3
          injection he1 with he1
          injection he1 with he1
          subst he1;subst he3;obtain⟨ck0,ck1⟩:=hg4 k (by omega)
          obtain⟨cf0,cf1⟩:=hg4 f (by omega)
          have kq0:=(zaa HQ.out 0).trans rfl;have kq1:=(zaa HQ.out 1).trans rfl;have hqr:=zab HQ.out;have hk0i:(0:Int)≤(k:Int):=by omega
          have hk1i:(k:Int)<(N:Int):=by omega
          have hf0i:(0:Int)≤(f:Int):=by omega
          have hf1i:(f:Int)<(N:Int):=by omega
          have hki:(k:Int)≤2*(i:Int)+2:=by omega
          have hwk:IntKind.i64.wrap ((k:Int)+1)=(k:Int)+1:=IntWalk.i64_in _ (by omega)
          have CA:Hid (∀ W,Calls Tryz.prog 139 #[.agg #[.int .i64 ((gP h' k).1:Int),.int .i64 ((gP h' k).2:Int)],.agg #[.int .i64 ((gP h' f).1:Int),.int .i64 ((gP h' f).2:Int)]] W fun e w'=>e=.returned (.bool (ltP (gP h' k) (gP h' f)))∧Below W.heap.size W w'):=fun W=>zlk W _ _
          have HST:Hid (∀ {W':World},Below wr.heap.size wr W'→W'.cell? ⟨qb,0,none⟩=some (.slice (some ⟨g,0,none⟩) N cap)∧W'.cell? ⟨qb,1,none⟩=some (.func (.func 139) #[] #[])∧W'.cell? ⟨g,k*2,none⟩=some (.int .i64 ((gP h' k).1:Int))∧W'.cell? ⟨g,k*2+1,none⟩=some (.int .i64 ((gP h' k).2:Int))∧W'.cell? ⟨g,f*2,none⟩=some (.int .i64 ((gP h' f).1:Int))∧W'.cell? ⟨g,f*2+1,none⟩=some (.int .i64 ((gP h' f).2:Int))):=fun h =>
            ⟨(h.cell (p:=⟨qb,0,none⟩) hqr).trans kq0,(h.cell (p:=⟨qb,1,none⟩) hqr).trans kq1,(h.cell (p:=⟨g,k*2,none⟩) hg2).trans ck0,(h.cell (p:=⟨g,k*2+1,none⟩) hg2).trans ck1,(h.cell (p:=⟨g,f*2,none⟩) hg2).trans cf0,(h.cell (p:=⟨g,f*2+1,none⟩) hg2).trans cf1⟩
          have hr0:Below wr.heap.size wr wr:=Below.refl _ _;obtain⟨u,hu⟩:∃ u,gP h' k=u:=⟨_,rfl⟩;obtain⟨v,hv⟩:∃ v,gP h' f=v:=⟨_,rfl⟩;rw[hu] at ck0 ck1 CA HST;rw[hv] at cf0 cf1 CA HST HM hf;obtain⟨r,hr⟩:∃ r,ltP u v=r:=⟨_,rfl⟩;rw[hr] at CA;have HU:=Lib.hid hu;have HV:=Lib.hid hv;have HRr:=Lib.hid hr;have HF:=Lib.hid hf;clear hg3 hg4 hg5 hu hv hr hf
          go_wp2_with fail
          go_region_held3 (fun W'=>W'.cell? ⟨qb,0,none⟩=some (.slice (some ⟨g,0,none⟩) N cap)∧W'.cell? ⟨qb,1,none⟩=some (.func (.func 139) #[] #[])∧W'.cell? ⟨g,k*2,none⟩=some (.int .i64 (u.1:Int))∧W'.cell? ⟨g,k*2+1,none⟩=some (.int .i64 (u.2:Int))∧W'.cell? ⟨g,f*2,none⟩=some (.int .i64 (v.1:Int))∧W'.cell? ⟨g,f*2+1,none⟩=some (.int .i64 (v.2:Int)))
            ((first | exact HST.out hr0.drew | exact HST.out HB8.out | fail))
            ((first
              | (go_at_call 139
                 refine (CA.out _).mono ?_;rintro e w8 ⟨rfl,hB8⟩;have HB8:=Lib.hid (zlm hB8 hr0.drew);clear hB8)
              | fail))
          all_goals
            have HK8:=Lib.hid (HK.out.trans (Kept.below (Nat.le_of_lt hqr) HB8.out));have HQ8:=Lib.hid ((HB8.out.block qb hqr).trans HQ.out);have HO8:=Lib.hid (HO.out.below HB8.out);have HR8:=Lib.hid ((HB8.out.block rb (zab HR.out)).trans HR.out);have HX8:=Lib.hid ((HB8.out.block (rb+1) (zab HX.out)).trans HX.out);cases r with
            | true =>
              have hnf:k=i∨2*i+1≤k∧k<k+1∧k<N∧ltP (gP h' k) (gP h' i)=true:=by
                refine .inr ⟨hk1,by omega,hin2,?_⟩
                rw[HU.out];rcases HF.out with e | ⟨_,_,_,e⟩
                · rw[←e,HV.out];exact HRr.out
                · exact ze1 HRr.out e
              have HNM:Hid (∀ j,2*i+1≤j→j<k+1→j<N→ltP (gP h' j) (gP h' k)=false):=fun j h1 h2 h3=>by
                by_cases e:j=k
                · subst e;rw[zg2];omega
                · rw[HU.out]
                  exact zfF (zd3 HRr.out) (HM.out j h1 (by omega) h3)
              clear ck0 ck1 cf0 cf1 kq0 kq1
              go_wp2_with fail
              go_roundw
              case rel=>exact⟨k,k+1,rfl,by go_num,by omega,by omega,hnf,HNM,HQ8,HO8,HR8,HX8,HK8⟩
              case measure=>simp[intOf];omega
            | false =>
              have hnf:f=i∨2*i+1≤f∧f<k+1∧f<N∧ltP (gP h' f) (gP h' i)=true:=by
                rcases HF.out with e | ⟨h1,h2,h3,h4⟩
                · exact .inl e
                · exact .inr ⟨h1,by omega,h3,by rw[HV.out];exact h4⟩
              have HNM:Hid (∀ j,2*i+1≤j→j<k+1→j<N→ltP (gP h' j) (gP h' f)=false):=fun j h1 h2 h3=>by
                by_cases e:j=k
                · subst e;rw[HU.out,HV.out];exact HRr.out
                · rw[HV.out];exact HM.out j h1 (by omega) h3
              clear ck0 ck1 cf0 cf1 kq0 kq1
              go_wp2_with fail
              go_roundw
              case rel=>exact⟨f,k+1,rfl,by go_num,by omega,by omega,hnf,HNM,HQ8,HO8,HR8,HX8,HK8⟩
              case measure=>simp[intOf];omega
        · as_aux_lemma =>
          have HM2:Hid (∀ j,0<j→j<h'.length→(j-1) / 2=i→ltP (gP h' j) (gP h' f)=false):=fun j h0 h1 h2=>HM.out j (by omega) (by omega) (by omega)
          have HIN:Hid (2*(i:Int)+2<(k:Int)∨(k:Int)≤2*(i:Int)+2∧(N:Int)≤(k:Int)):=by
            show _∨_
            omega
          clear hin HM
          by_cases hfi:f=i
          · subst hfi
            have Hh:Hid (HeapP h'):=HD.out.done HM2.out;have x0:=(zaa HX.out 0).trans rfl;have x1:=(zaa HX.out 1).trans rfl;have r0:=(zaa HR.out 0).trans rfl;have r1:=(zaa HR.out 1).trans rfl;have rf0:=zac HR.out 0;have rf1:=zac HR.out 1;have hrl:=zab HR.out;have hrs:=zrC HR.out (.int .i64 (a.1:Int)) (.int .i64 (a.2:Int));have HRS:=Lib.hid hrs
            have HQF:Hid (Que ((wr.setCell ⟨rb,0,none⟩ (.int .i64 (a.1:Int))).setCell ⟨rb,1,none⟩ (.int .i64 (a.2:Int))) qb h') :=
              ⟨.slice (some ⟨g,0,none⟩) N cap,by rw[Below.heap_setCell _ _ _ _ (show qb≠rb by omega),Below.heap_setCell _ _ _ _ (show qb≠rb by omega)];exact HQ.out,HO.out.same (by rw[Below.heap_setCell _ _ _ _ (show g≠rb by omega),Below.heap_setCell _ _ _ _ (show g≠rb by omega)])⟩
            have HKF:Hid (Kept qb w ((wr.setCell ⟨rb,0,none⟩ (.int .i64 (a.1:Int))).setCell ⟨rb,1,none⟩ (.int .i64 (a.2:Int)))) :=
              (HK.out.trans (Kept.set hqs ⟨_,HR.out⟩ 0 _)).trans (Kept.set hqs (zbz ⟨_,HR.out⟩ 0 _) 1 _)
            rcases HIN.out with c1 | ⟨c1,c2⟩
            all_goals
              go_wp2_with fail
              refine bodyPost_ret (zbH rfl _ _ _ ⟨rb,0,none⟩ _ rfl (zlD _ _ _ _ HRS.out)) rfl ?_;exact⟨rfl,h',Hh.out,HP.out,HQF.out,HKF.out⟩
          · obtain⟨hf1,hf2,hf3,hf4⟩:2*i+1≤f∧f<k∧f<N∧ltP (gP h' f) (gP h' i)=true:=by
              rcases hf with e | e
              · exact absurd e hfi
              · exact e
            have hff:((f:Int) == (i:Int))=false:=by rw[beq_eq_false_iff_ne];omega
            have HD2:Hid (DownP (zdM h' i f) f):=HD.out.step (by omega) (by omega) (by omega) hf4 HM2.out
            have HP2:Hid ((a::zdM h' i f).Perm h):=((zi1 h' i f (by omega) (by omega) (by omega)).cons a).trans HP.out
            have hls:(zdM h' i f).length=N:=by rw[zbe,hl']
            obtain⟨g',cap',he,-,-,-,hg2,hg3,hg4,hg5,-,-⟩:=HO.out.place (by omega)
            rw[hl'] at he;injection he with he1 he2 he3
            injection he1 with he1
            injection he1 with he1
            subst he1;subst he3;obtain⟨u,hu⟩:∃ u,gP h' i=u:=⟨_,rfl⟩;obtain⟨v,hv⟩:∃ v,gP h' f=v:=⟨_,rfl⟩;obtain⟨ei0,ei1⟩:=hg4 i (by omega)
            obtain⟨ef0,ef1⟩:=hg4 f (by omega)
            rw[hu] at ei0 ei1;rw[hv] at ef0 ef1;have HU:=Lib.hid hu;have HV:=Lib.hid hv;have di0:=hg5 (i*2);have di1:=hg5 (i*2+1);have df0:=hg5 (f*2);have df1:=hg5 (f*2+1);have eq0:=(zaa HQ.out 0).trans rfl;have hi0i:(0:Int)≤(i:Int):=by omega
            have hi1i:(i:Int)<(N:Int):=by omega
            have hf0i:(0:Int)≤(f:Int):=by omega
            have hf1i:(f:Int)<(N:Int):=by omega
            have m1:¬ i*2=f*2:=by omega
            have m2:¬ i*2+1=f*2:=by omega
            have m3:¬ i*2=f*2+1:=by omega
            have m4:¬ i*2+1=f*2+1:=by omega
            have m5:¬ f*2=i*2:=by omega
            have m6:¬ f*2+1=i*2:=by omega
            have m7:¬ f*2=i*2+1:=by omega
            have m8:¬ f*2+1=i*2+1:=by omega
            have HG3:=Lib.hid hg3;clear hg3 hg4 hg5 hf hf4 hu hv HD HM2;rcases HIN.out with c1 | ⟨c1,c2⟩
            all_goals
              go_wp2_with fail
              go_region
              go_wp2_with fail
              obtain⟨WS,hWS⟩:∃ WS,(((((wr.setCell ⟨g,i*2,none⟩ (.int .i64 (v.1:Int))).setCell ⟨g,i*2+1,none⟩ (.int .i64 (v.2:Int))).setCell ⟨g,f*2,none⟩ (.int .i64 (u.1:Int))).setCell ⟨g,f*2+1,none⟩ (.int .i64 (u.2:Int))).drew)=WS:=⟨_,rfl⟩;obtain⟨hOs,hKs,hBs⟩:=zrx HO.out (show i<h'.length by omega) (show f<h'.length by omega) HU.out HV.out hgq HG3.out WS hWS.symm
              rw[hWS]
              go_roundw
              case rel=>exact⟨f,zdM h' i f,rfl,by omega,hls,HD2,HP2,(hBs qb n10).trans HQ.out,hOs,(hBs rb (by omega)).trans HR.out,(hBs (rb+1) (by omega)).trans HX.out,HK.out.trans hKs⟩
              case measure=>simp[intOf];omega
end Go.Proofs.YtoejfkeofbdalaaGreatDoor
