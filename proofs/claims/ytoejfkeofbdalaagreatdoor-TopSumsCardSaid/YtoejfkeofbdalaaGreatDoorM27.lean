import Derived.Test.YtoejfkeofbdalaaGreatDoorM05
import Derived.ScopeJumps
import Derived.WalkMore
set_option linter.unusedVariables false
set_option maxRecDepth 100000
set_option maxHeartbeats 8000000
namespace Go.Proofs.YtoejfkeofbdalaaGreatDoor
open Go.RowKit Go.Shelf
attribute [local go_sem] Oper.semAt_some
def zem {β:Type} (ys:List β):List (Nat × β):=(ys.zipIdx.map fun q=>(q.2,q.1)).reverse
theorem zf9 {β:Type} (ys:List β):(zem ys).length=ys.length:=by simp[zem]
theorem ztg {β:Type} (ys:List β) (j:Nat) (hj:j<ys.length):∃ y,ys[ys.length-1-j]?=some y∧(zem ys).take (j+1)=(zem ys).take j++[(ys.length-1-j,y)]:=by
  have hi:ys.length-1-j<ys.length:=by omega
  refine⟨ys[ys.length-1-j],List.getElem?_eq_getElem hi,?_⟩;have hl:j<(zem ys).length:=by rw[zf9];exact hj
  rw[List.take_succ_eq_append_getElem hl];congr 2
  simp[zem,List.getElem_reverse]
theorem zp9 {β:Type} (ys:List β):(zem ys).map Prod.snd=ys.reverse:=by
  unfold zem;rw[List.map_reverse,List.map_map];congr 1
  have:(Prod.snd ∘ fun q:β × Nat=>(q.2,q.1))=Prod.fst:=rfl;rw[this,List.zipIdx_map_fst]
theorem zuj {β:Type} (en:β→Int) (n:Nat) (hn:3≤n) (l bs B:Nat) (p:Nat→Prop) (v:Value) (ys:List β) (xs:List Int) (hxs:ys.map en=xs) (hlen:xs.length≤281474976710656)
    (J Jx:List (Nat × β)→World→Prop) (hbs:p bs) (hp:∀ b,b<B→p b)
    (hY:∀ pre x W,J pre W→pre.length<xs.length→YieldAt Fence.wide (n-1) Tryz.prog l #[.int .i64 (x.1:Nat),.int .i64 (en x.2)] W fun e W' =>
      (e=.returned (.bool true)∧J (pre++[x]) W'∧KeepP p W W')∨(e=.returned (.bool false)∧Jx (pre++[x]) W'))
    (W:World) (c1:W.cell? ⟨bs,0,none⟩=some v) (hv:IsInts W B v xs) (h0:J [] W) :
    CallsIn Fence.wide n Tryz.prog 363 #[.func (.yield l) #[] #[],.pointer (some ⟨bs,0,none⟩)] W (ztZ J Jx (zem ys)):=by
  obtain⟨A,ca,rfl,hc1,hc2⟩:=hv.shape;have hyl:ys.length=xs.length:=by rw[←hxs,List.length_map]
  have Hyl:=Lib.hid hyl;have Hxs:=Lib.hid hxs;have HY:=Lib.hid hY;have Hv:=Lib.hid hv;clear hY hv hyl hxs;refine callsIn_of_wp Tryz.func363 rfl trivial ?_ rfl;simp only[Tryz.ntmps363,List.size_toArray,List.length_cons,List.length_nil,Nat.reduceAdd,Nat.reduceSub,Array.replicate_succ,Array.replicate_zero,List.push_toArray,List.append_toArray,List.nil_append,List.cons_append];have h1n:1≤n:=by omega
  gi_wp2
  gi_loopw [3] (fun a wr=>∃ j:Nat,j≤xs.length∧a=.int .i64 ((xs.length:Int)-1-j)∧J ((zem ys).take j) wr∧KeepP p W wr) (fun a _=>(intOf a+1).toNat)
  case atStart=>exact⟨0,by omega,by simp,h0,KeepP.refl _ _⟩
  case round =>
    obtain⟨j,hj,rfl,hJ,hB⟩:=hrel;have r1:wr.cell? ⟨bs,0,none⟩=some (.slice A xs.length ca):=(hB.cell bs 0 hbs).trans c1
    by_cases hlast:j=xs.length
    · have Hlast:=Lib.hid hlast
      have hneg:(xs.length:Int)-1-j<0:=by omega
      clear hlast
      gi_wp2
      refine bodyPost_ret (results_none rfl _ _ _) rfl ?_;exact⟨⟨_,rfl⟩,.inl ⟨_,rfl,by rw[List.take_of_length_le (by rw[zf9,Hyl.out,Hlast.out];exact Nat.le_refl _)] at hJ;exact hJ⟩⟩
    · obtain⟨i,hi⟩:∃ i:Nat,xs.length-1-j=i:=⟨_,rfl⟩
      have hii:(xs.length:Int)-1-j=(i:Int):=by omega
      rw[hii];have hilt:i<xs.length:=by omega
      obtain⟨y,hy0,hsucc⟩:=ztg ys j (by rw[Hyl.out];omega)
      rw[Hyl.out,hi] at hy0 hsucc;obtain⟨g,o,rfl,hg,hc⟩:=Hv.out.at i hilt;obtain⟨x,hx⟩:∃ x,en y=x:=⟨_,rfl⟩
      have hcl:wr.cell? ⟨g,o+i,none⟩=some (.int .i64 x):=by
        rw[←hx,(hB.cell g (o+i) (hp g hg)).trans hc,←Hxs.out,List.getElem?_map,hy0];rfl
      obtain⟨fn,tmps,assign,body,hy,hR⟩:=HY.out ((zem ys).take j) (i,y) wr hJ (by rw[List.length_take];omega)
      simp only[hx] at hy;have Hy:=Lib.hid hy;have hpre:(zem ys).take j++[(i,y)] <+: zem ys:=by rw[←hsucc];exact List.take_prefix _ _
      have Hpre:=Lib.hid hpre;have Hsucc:=Lib.hid hsucc;have Hii:=Lib.hid hii;have hj1:j+1≤xs.length:=by omega
      clear hpre hsucc hx hc hi hii hlast hy0
      gi_wp2
      refine hR.mono ?_;rintro e W' (⟨rfl,hJ',hk'⟩ | ⟨rfl,hJx'⟩)
      · gi_wp2
        go_roundw
        case rel=>exact⟨j+1,hj1,by have:=Hii.out;rw[show (xs.length:Int)-1-(j+1:Nat)=(i:Int)-1 by omega],by rw[Hsucc.out];exact hJ',hB.trans hk'⟩
        case measure=>simp[intOf] <;> omega
      · gi_wp2
        refine bodyPost_ret (results_none rfl _ _ _) rfl ?_;exact⟨⟨_,rfl⟩,.inr ⟨_,Hpre.out,hJx'⟩⟩
theorem zoO {β:Type} (en:β→Int) (n:Nat) (hn:3≤n) (bs B:Nat) (p:Nat→Prop) (v:Value) (ys:List β) (xs:List Int) (hxs:ys.map en=xs) (hlen:xs.length≤281474976710656) (hbs:p bs) (hp:∀ b,b<B→p b)
    (w:World) (hb:bs<w.heap.size) (hBw:B≤w.heap.size) (c1:w.cell? ⟨bs,0,none⟩=some v) (hv:IsInts w B v xs) :
    SeqStopsK Fence.wide n Tryz.prog 363 #[.pointer (some ⟨bs,0,none⟩)] (fun x:Nat × β=>#[.int .i64 (x.1:Nat),.int .i64 (en x.2)]) (KeepP p)
      (fun zs=>zs=zem ys) (fun pre=>pre <+: zem ys) xs.length w :=
  fun l J Jx W hW _ _ hY h0 =>
    zuj en n hn l bs B p v ys xs hxs hlen J Jx hbs hp hY W ((hW.cell (p:=⟨bs,0,none⟩) hb).trans c1) (hv.below hW hBw) h0
theorem zmM:Enters Tryz.prog 363:=enters_of Tryz.func363 (by kernel_rfl) rfl
theorem zlr (v:Value) (w:World) (hs:∃ q l c,v=.slice q l c) :
    Calls Tryz.prog 359 #[v] w fun e w'=>e=.returned (.func (.func 363) #[] #[.pointer (some ⟨w.heap.size,0,none⟩)])∧w.alloc (.cells #[v] 67)=w':=by
  have hmf:=hmf;obtain⟨q,l,c,rfl⟩:=hs
  go_enter Tryz.func359,Tryz.ntmps359
  go_wp2
  go_ret
  exact⟨rfl,rfl⟩
def znY (pre:List (Nat × Bool)):Nat:=(pre.map Prod.snd).foldl (fun n x=>2*n+x.toNat+1) 0
theorem zkR (pre:List (Nat × Bool)) (x:Nat × Bool):znY (pre++[x])=2*znY pre+x.2.toNat+1:=by simp[znY]
theorem zqp {a b:List (Nat × Bool)} (h:a <+: b):znY a≤znY b:=by
  obtain⟨c,rfl⟩:=h
  induction c generalizing a with
  | nil=>simp
  | cons x c ih =>
    have:=ih (a:=a++[x]);rw[zkR,List.append_assoc] at this;simp only[List.singleton_append] at this;omega
def enB (b:Bool):Int:=if b then 1 else 0
theorem znu (ys:List Bool):znY (zem ys)=zhP (ys.map enB):=by
  unfold znY zhP;rw[zp9,List.foldl_reverse,List.foldr_map];congr 1
  funext x n
  cases x <;> rfl
theorem zuc {d:List Int} (h:Dig d):∃ ys:List Bool,ys.map enB=d:=by
  refine⟨d.map fun x=>decide (x=1),?_⟩;rw[List.map_map]
  conv=>rhs;rw[←List.map_id d]
  apply List.map_congr_left
  intro x hx;rcases h x hx with rfl | rfl <;> rfl
def zj7 (d:List Int):Bool:=d.any fun x=>!decide (x=0) && !decide (x=1)
theorem zrZ {d:List Int} (h:zj7 d=false):Dig d:=by
  unfold zj7 at h;rw[List.any_eq_false] at h;intro x hx;have:=h x hx;simp at this;omega
theorem zhJ {d:List Int} (h:Dig d):zj7 d=false:=by
  unfold zj7;rw[List.any_eq_false];intro x hx;rcases h x hx with rfl | rfl <;> simp
def zu3 (d:List Int):Int:=if zj7 d then 1 else if 1099511627776<zhP d then 4 else 0
def zu2 (d:List Int):Int:=if zj7 d then 0 else if 1099511627776<zhP d then 0 else (zhP d:Nat)
theorem zmk (v:Value) (xs:List Int) (w:World) (hv:IsInts w w.heap.size v xs) (hlen:xs.length≤281474976710656) :
    Calls Tryz.prog 347 #[v] w fun e W'=>e=.returned (.tuple #[.int .i64 (zu2 xs),.int .i64 (zu3 xs)])∧Below w.heap.size w W':=by
  obtain⟨N,hN8⟩:∃ N:Nat,N=8:=⟨_,rfl⟩;obtain⟨A,ca,rfl,hc1,hc2⟩:=hv.shape;have C:=Lib.hid (zaO ((w.alloc (.cells #[.int .i64 0] 3)).alloc (.cells #[.int .i64 0] 25)) _ xs (fun x=>!decide (x=0) && !decide (x=1)) 358 #[] zmU ((hv.below (((Below.refl w.heap.size w).alloc (Nat.le_refl _) _).alloc (by simp) _) (Nat.le_refl _)).mono (by simp;omega)) hlen (fun x _ W _=>ztn x W))
  have hpar:zj7 xs=xs.any fun x=>!decide (x=0) && !decide (x=1):=rfl;rw[←hpar] at C;obtain⟨od,hod⟩:∃ b,zj7 xs=b:=⟨_,rfl⟩;rw[hod] at C;have Hod:=Lib.hid hod;have Hv:=Lib.hid hv;clear hod hpar hv;refine (callsIn_wide (n:=N)).1 ?_;refine callsIn_of_wp_marks Tryz.func347 rfl trivial ?_ rfl;simp only[Tryz.ntmps347,List.size_toArray,List.length_cons,List.length_nil,Nat.reduceAdd,Nat.reduceSub,Array.replicate_succ,Array.replicate_zero,List.push_toArray,List.append_toArray,List.nil_append,List.cons_append]
  gi_wp2_with (first
    | (refine⟨trivial,?_⟩;gi_at_call 82;refine (callsIn_wide.2 C.out).mono ?_;rintro e w1 ⟨rfl,hB1⟩
       have b2:w1.heap[w.heap.size]?=some (.cells #[.int .i64 0] 3 (0,0)):=(hB1.block _ (by simp;omega)).trans (zah _ (zae w _ _ rfl))
       have b3:w1.heap[w.heap.size+1]?=some (.cells #[.int .i64 0] 25 (0,0)):=(hB1.block _ (by simp)).trans (zae _ _ _ (by simp))
       have c2:=zaa b2 0;have c3:=zaa b3 0;have f2:=zac b2 0;have f3:=zac b3 0;have hBw:Below w.heap.size w w1:=(((Below.refl w.heap.size w).alloc (Nat.le_refl _) _).alloc (by simp) _).trans (hB1.mono (by simp;omega))
       have hz1:w.heap.size+2≤w1.heap.size:=by have:=hB1.size;simp at this;omega
       have B2:=Lib.hid b2;have B3:=Lib.hid b3;clear b2 b3 hB1)
    | (refine⟨trivial,?_⟩;gi_at_call 359;refine (callsIn_wide.2 (zlr _ _ ⟨_,_,_,rfl⟩)).mono ?_;rintro e w2 ⟨rfl,rfl⟩))
  · have hod:od=true:=by assumption
    subst hod;have b2:=Boxed.other (Boxed.set (.int .i64 0) (show Boxed w1 w.heap.size 3 (.int .i64 0) from B2.out)) (B':=w.heap.size+1) (by omega) (.int .i64 1)
    have b3:=Boxed.set (.int .i64 1) (Boxed.other (show Boxed w1 (w.heap.size+1) 25 (.int .i64 0) from B3.out) (B':=w.heap.size) (by omega) (.int .i64 0))
    refine⟨_,zbP rfl _ _ _ _ _ _ _ rfl rfl (zaV _ _ _ b2.cell) (zaZ _ _ _ b3.cell),?_,?_⟩
    · rw[zu2,zu3,Hod.out,if_pos rfl,if_pos rfl]
    · exact (hBw.setCell (p:=⟨w.heap.size,0,none⟩) (Nat.le_refl _) _).setCell (p:=⟨w.heap.size+1,0,none⟩) (by simp) _
  · have hod:od=false:=by assumption
    subst hod;obtain⟨ys,hys⟩:=zuc (zrZ Hod.out);have hyl:ys.length=xs.length:=by rw[←hys,List.length_map]
    obtain⟨W0,hW0⟩:∃ W0,w1.alloc (.cells #[.slice A xs.length ca] 67)=W0:=⟨_,rfl⟩;have bN:Boxed W0 w.heap.size 3 (.int .i64 0):=by rw[←hW0];exact Boxed.alloc (show Boxed w1 w.heap.size 3 (.int .i64 0) from B2.out) _
    have bE:Boxed W0 (w.heap.size+1) 25 (.int .i64 0):=by rw[←hW0];exact Boxed.alloc (show Boxed w1 (w.heap.size+1) 25 (.int .i64 0) from B3.out) _
    have bS:Boxed W0 w1.heap.size 67 (.slice A xs.length ca):=by rw[←hW0];exact zco _ _ _ _ rfl
    have hz0:W0.heap.size=w1.heap.size+1:=by rw[←hW0];simp
    have hB0:Below w.heap.size w W0:=by rw[←hW0];exact hBw.alloc (by omega) _
    have hv0:IsInts W0 w.heap.size (.slice A xs.length ca) xs:=Hv.out.below hB0 (Nat.le_refl _);rw[hW0];clear hW0 c2 c3 f2 f3 C
    refine wpIn_rangeFunc_ownF (w0:=W0) rfl (by omega) (gf:=363) (lb:=#[.pointer (some ⟨w1.heap.size,0,none⟩)]) rfl trivial zmM
      (zoO enB (N-1) (by omega) w1.heap.size w.heap.size (fun b=>b<w.heap.size∨b=w1.heap.size) _ ys xs hys hlen (.inr rfl) (fun b hb=>.inl hb) W0 (by omega) (by omega) bS.cell hv0)
      (fun h k=>KeepP.trans h k) (zue (n₀:=w1.heap.size+1) (fun b hb=>by omega) (by omega)) (Below.refl _ _) (fun _=>rfl)
      (fun pre W=>((Boxed W w.heap.size 3 (.int .i64 (znY pre:Nat))∧Boxed W (w.heap.size+1) 25 (.int .i64 0))∧Below w.heap.size w W)∧znY pre≤1099511627776)
      (fun c pre W=>((Boxed W w.heap.size 3 (.int .i64 0)∧Boxed W (w.heap.size+1) 25 (.int .i64 4))∧Below w.heap.size w W)∧(c=Code.ret∧1099511627776<znY pre))
      (OwnFrom.and (OwnFrom.and (OwnFrom.and (Own.from (boxed_own _ _ (fun pre=>.int .i64 (znY pre:Nat))) _) (Own.from (boxed_own _ _ (fun _=>.int .i64 0)) _)) (ownFrom_below (Nat.le_refl _) (by omega))) (fun _ _ _ _ h _ _=>h))
      (fun c=>OwnFrom.and (OwnFrom.and (OwnFrom.and (Own.from (boxed_own _ _ (fun _=>.int .i64 0)) _) (Own.from (boxed_own _ _ (fun _=>.int .i64 4)) _)) (ownFrom_below (Nat.le_refl _) (by omega))) (fun _ _ _ _ h _ _=>h))
      ⟨⟨⟨bN,bE⟩,hB0⟩,by decide⟩
      (fun x=>{ tmps:=#[.slice A xs.length ca,undef,.pointer (some ⟨w.heap.size,0,none⟩),.pointer (some ⟨w.heap.size+1,0,none⟩),undef,.int .i64 (enB x.2),.slice A xs.length ca,.bool false,.slice A xs.length ca,.func (.func 363) #[] #[.pointer (some ⟨w1.heap.size,0,none⟩)],.int .i64 (x.1:Nat),.int .i64 (enB x.2),undef,undef,undef,undef,undef,undef,undef,undef],defers:=[] }) ?assign ?body ?done ?stop
    case assign =>
      intro l x W K hK
      gi_wp2
      exact hK
    case body =>
      rintro l pre x W ⟨⟨⟨hn,he⟩,hB⟩,hle⟩ hlt;have hd:1≤N-1-1:=by omega
      clear hN8;have hc1:=hn.cell;have hf1:=hn.frozen;have hc2:=he.cell;have hf2:=he.frozen;have hsn:=zkR pre x;obtain⟨b,hb⟩:∃ b,enB x.2=b:=⟨_,rfl⟩;have hbn:b=(x.2.toNat:Nat):=by rw[←hb];cases x.2 <;> rfl
      have hb1:0≤b∧b≤1:=by rw[←hb];cases x.2 <;> decide
      rw[hb];have Hsn:=Lib.hid hsn;have Hbn:=Lib.hid hbn;clear hsn hb hbn bN bE bS
      gi_wp2
      · refine⟨((KeepsOthers.setCell W _ _).trans (KeepsOthers.setCell _ _ _)).trans (KeepsOthers.setCell _ _ _),⟨⟨Boxed.other (Boxed.set _ (Boxed.set _ hn)) (by omega) _,Boxed.set _ (Boxed.other (Boxed.other he (by omega) _) (by omega) _)⟩,((hB.setCell (p:=⟨w.heap.size,0,none⟩) (Nat.le_refl _) _).setCell (p:=⟨w.heap.size,0,none⟩) (Nat.le_refl _) _).setCell (p:=⟨w.heap.size+1,0,none⟩) (by simp) _⟩,rfl,?_⟩
        have:=Hsn.out;have:=Hbn.out;omega
      · have hnx:(2*(znY pre:Int)+b+1)=(znY (pre++[x]):Nat):=by rw[Hsn.out,Hbn.out];omega
        rw[hnx];refine⟨KeepsOthers.setCell W _ _,(KeepP.refl _ W).setCell (fun b hb=>by simp;omega) _,⟨⟨Boxed.set _ hn,Boxed.other he (by omega) _⟩,hB.setCell (p:=⟨w.heap.size,0,none⟩) (Nat.le_refl _) _⟩,by omega⟩
    case done =>
      rintro D zs W hD rfl ⟨⟨⟨hn,he⟩,hB⟩,hle⟩ hK;have hc1:=hn.cell;have hf1:=hn.frozen;have hc2:=he.cell;have hf2:=he.frozen;have hall:=znu ys;rw[hys] at hall;rw[hall] at hc1 hn hle;have Hall:=Lib.hid hall;clear hall
      gi_wp2
      have hK2:((W.setCell ⟨w.heap.size,0,none⟩ (.int .i64 (zhP xs:Nat))).setCell ⟨w.heap.size+1,0,none⟩ (.int .i64 0)).heap[D]?=some (.deferred (some [])):=by
        rw[Below.heap_setCell _ _ _ _ (by simp;omega),Below.heap_setCell _ _ _ _ (by simp;omega)];exact hK
      refine⟨by simp,.inl ⟨_,_,rfl,run_takeDeferred hK2,?_⟩⟩
      have b2:Boxed (((W.setCell ⟨w.heap.size,0,none⟩ (.int .i64 (zhP xs:Nat))).setCell ⟨w.heap.size+1,0,none⟩ (.int .i64 0)).putObj D (.deferred none)) w.heap.size 3 (.int .i64 (zhP xs:Nat)):=((hn.set _).other (by omega) _).kept (grownBy_putObj' _ D _) (by simp;omega)
      have b3:Boxed (((W.setCell ⟨w.heap.size,0,none⟩ (.int .i64 (zhP xs:Nat))).setCell ⟨w.heap.size+1,0,none⟩ (.int .i64 0)).putObj D (.deferred none)) (w.heap.size+1) 25 (.int .i64 0):=((he.other (by omega) _).set _).kept (grownBy_putObj' _ D _) (by simp;omega)
      refine⟨_,zbP rfl _ _ _ _ _ _ _ rfl rfl (zaV _ _ _ b2.cell) (zaZ _ _ _ b3.cell),?_,?_⟩
      · have hq:¬ 1099511627776<zhP xs:=by omega
        simp[zu2,zu3,Hod.out,hq]
      · exact hB.trans ((((Below.refl _ W).setCell (p:=⟨w.heap.size,0,none⟩) (Nat.le_refl _) _).setCell (p:=⟨w.heap.size+1,0,none⟩) (by simp) _).trans (belowK_b (w:=w) (Nat.le_refl _) _ D _ _ (by omega) hK2 rfl rfl))
    case stop =>
      rintro D c pre W hD hpre ⟨⟨⟨hn,he⟩,hB⟩,rfl,hgt⟩ hK;have hm:=zqp hpre;have hall:=znu ys;rw[hys] at hall
      gi_wp2
      refine⟨by simp,.inl ⟨_,_,rfl,run_takeDeferred hK,?_⟩⟩
      have b2:Boxed (W.putObj D (.deferred none)) w.heap.size 3 (.int .i64 0):=hn.kept (grownBy_putObj' _ D _) (by simp;omega)
      have b3:Boxed (W.putObj D (.deferred none)) (w.heap.size+1) 25 (.int .i64 4):=he.kept (grownBy_putObj' _ D _) (by simp;omega)
      refine⟨_,zbP rfl _ _ _ _ _ _ _ rfl rfl (zaV _ _ _ b2.cell) (zaZ _ _ _ b3.cell),?_,?_⟩
      · have hq:1099511627776<zhP xs:=by omega
        simp[zu2,zu3,Hod.out,hq]
      · exact hB.trans (belowK_b (w:=w) (Nat.le_refl _) W D _ _ (by omega) hK rfl rfl)
end Go.Proofs.YtoejfkeofbdalaaGreatDoor
namespace Go.Proofs.YtoejfkeofbdalaaGreatDoor
open Go.RowKit
def zum (l:List Int):Bool:=l.any fun x=>decide (1099511627776<x)
def zuO (l:List Int):Int:=if zpk l || zum l then 1 else 0
def zuY (l:List Int):List Int:=if zpk l || zum l then [] else enc l
def zug:Value→Nat
  | .slice _ n _=>n
  | _=>0
theorem zoi (w:World) (v:Value) (xs:List Int) (hv:IsInts w w.heap.size v xs) (hlen:xs.length≤1099511627776) :
    Calls Tryz.prog 116 #[v] w fun e w'=>∃ u,e=.returned (.tuple #[u,.int .i64 (zuO xs)])∧OwnInts w' w.heap.size u (zuY xs)∧Below w.heap.size w w':=by
  have hmf:=hmf;have C1:=Lib.hid (zkw w v xs hv (by omega))
  have C2:Hid (∀ W,Below w.heap.size w W→Calls Tryz.prog 82 #[v,.func (.func 168) #[] #[]] W fun e w'=>e=.returned (.bool (zum xs))∧Below W.heap.size W w'):=fun W hB =>
    zaO W v xs _ 168 #[] zmd ((hv.below hB (Nat.le_refl _)).mono hB.size) (by omega) (fun x _ W _=>zsI x W)
  obtain⟨A,ca,rfl,hc1,hc2⟩:=hv.shape;obtain⟨b1,hb1⟩:∃ b,zpk xs=b:=⟨_,rfl⟩;obtain⟨b2,hb2⟩:∃ b,zum xs=b:=⟨_,rfl⟩;rw[hb1] at C1;rw[hb2] at C2;have Hb1:=Lib.hid hb1;have Hb2:=Lib.hid hb2;obtain⟨N,hN⟩:∃ N,xs.length=N:=⟨_,rfl⟩;have hXl:xs.length≤1099511627776:=hlen;rw[hN] at hv hc1 hlen C1 C2 ⊢;have HN:=Lib.hid hN;have Hv:=Lib.hid hv;clear hb1 hb2 hv hN;cases b1 with
  | true =>
    go_enter Tryz.func116,Tryz.ntmps116
    go_wp2
    refine wp_scope_straight ?_
    go_wp2_with fail
    refine C1.out.mono ?_;rintro e w1 ⟨rfl,hB1⟩
    go_wp2_with fail
    simp only[Exit.noGoto_ret]
    go_ret2
    exact⟨_,by rw[zuO,Hb1.out];rfl,by rw[zuY,Hb1.out];exact OwnInts.nil _ _,hB1⟩
  | false =>
    cases b2 with
    | true =>
      go_enter Tryz.func116,Tryz.ntmps116
      go_wp2
      refine wp_scope_straight ?_
      go_wp2_with fail
      refine C1.out.mono ?_;rintro e w1 ⟨rfl,hB1⟩
      go_wp2_with fail
      refine (C2.out _ hB1).mono ?_;rintro e w2 ⟨rfl,hB2⟩
      go_wp2_with fail
      simp only[Exit.noGoto_ret]
      go_ret2
      exact⟨_,by rw[zuO,Hb1.out,Hb2.out];rfl,by rw[zuY,Hb1.out,Hb2.out];exact OwnInts.nil _ _,hB1.trans (hB2.mono hB1.size)⟩
    | false =>
      have HE:Hid (zuO xs=0):=by show _=_;rw[zuO,Hb1.out,Hb2.out];rfl
      have HV:Hid (zuY xs=enc xs):=by show _=_;rw[zuY,Hb1.out,Hb2.out];rfl
      have hels:∀ x∈xs,x≤1099511627776∧0≤x:=by
        intro x hx;have h1:=Hb1.out;have h2:=Hb2.out;unfold zpk at h1;unfold zum at h2;rw[List.any_eq_false] at h1 h2;have h1:=h1 x hx;have h2:=h2 x hx;simp at h1 h2;omega
      go_enter Tryz.func116,Tryz.ntmps116
      go_wp2
      refine wp_scope_jumps 0 (fun a' W=>∃ (b:Nat) (v:Value) (rest done:List Int) (u6 u7 u8 u9 u10 u11 u12 u13 u14 u15 u16 u17 u18 u19 u20 u21 u22 u23 u24 u25 u26 u27 u28 u29 u30 u31 u32 u33 u34 u35 u36:Value),a' = { tmps:=#[v,undef,.slice none 0 0,.int .i64 0,.pointer (some ⟨b,0,none⟩),.func (.func 169) #[.pointer (some ⟨b,0,none⟩)] #[],u6,u7,u8,u9,u10,u11,u12,u13,u14,u15,u16,u17,u18,u19,u20,u21,u22,u23,u24,u25,u26,u27,u28,u29,u30,u31,u32,u33,u34,u35,u36],defers:=[] }∧w.heap.size≤b∧IsInts w w.heap.size v rest∧LB W b done∧done++enc rest=enc xs∧Below w.heap.size w W∧(∀ x∈rest,x≤1099511627776∧0≤x)∧rest.length≤1099511627776)
        (fun a' _=>zug (a'.tmps.getD 0 undef)) rfl ?_ ?_
      · go_wp2_with fail
        refine C1.out.mono ?_;rintro e w1 ⟨rfl,hB1⟩
        go_wp2_with fail
        refine (C2.out _ hB1).mono ?_;rintro e w2 ⟨rfl,hB2⟩;have hBw:Below w.heap.size w w2:=hB1.trans (hB2.mono hB1.size);have hzw:=hBw.size;clear hB1 hB2 C1 C2;obtain⟨b,hb⟩:∃ b,w2.heap.size=b:=⟨_,rfl⟩;obtain⟨wr,hwr⟩:∃ wr,w2.alloc (.cells #[.slice none 0 0] 282)=wr:=⟨_,rfl⟩;have hL:LB wr b []:=⟨_,by rw[←hwr];exact zae _ _ _ hb.symm,OwnInts.nil _ _⟩
        have hB:Below w.heap.size w wr:=by rw[←hwr];exact hBw.alloc hzw _
        have hbw:w.heap.size≤b:=by omega
        have hv:=Hv.out;have heq:[]++enc xs=enc xs:=rfl;obtain⟨rest,hrest⟩:∃ rest,xs=rest:=⟨_,rfl⟩;obtain⟨done,hdone0⟩:∃ done:List Int,[]=done:=⟨_,rfl⟩;have HNr:Hid (rest.length=N):=by rw[←hrest];exact HN.out
        have heq:done++enc rest=enc xs:=by rw[←hdone0,←hrest];rfl
        rw[hdone0] at hL;rw[hrest] at hv hels;have HW:=Lib.hid hwr;have HBB:=Lib.hid hb;clear hwr hb hrest hdone0 hBw Hv HN
        rename Hid (rest.length=N)=>HN
        go_wp2
        rw[HBB.out,HW.out]
        go_step3
        obtain⟨k,hk⟩:∃ k,zaQ 0 rest=k:=⟨_,rfl⟩;have hkN:=zfd 0 rest;have herow:=zqX rest;rw[hk] at hkN herow;rw[HN.out] at hkN
        have hdl:done.length≤1099511627776:=by
          have h1:=zl9 xs;have h2:=congrArg List.length heq;simp only[List.length_append] at h2;omega
        have CR:=Lib.hid (znb wr _ rest 0 ((hv.below hB (Nat.le_refl _)).mono hB.size) (by have:=HN.out;omega))
        rw[hk] at CR;obtain⟨v2,hv2,⟨q2,c2,rfl⟩,_,hsl,_⟩:=hv.cut k N hkN (Nat.le_refl _);have hsl:=hsl rfl;rw[show ((rest.take N).drop k)=rest.drop k by rw[←HN.out,List.take_length]] at hv2
        have Hv2:=Lib.hid hv2;have Herow:=Lib.hid herow;have HL:=Lib.hid hL;have Heq:=Lib.hid heq;have hbz:=hL.lt;have hBz:=hB.size;clear hk herow hv2 hL heq
        go_wp2_with fail
        refine CR.out.mono ?_;rintro e w3 ⟨rfl,hB3⟩;have HL3:Hid (LB w3 b done):=HL.out.below hB3;have hBw3:Below w.heap.size w w3:=hB.trans (hB3.mono hBz);have hz3:=hB3.size;clear hB hB3 HL CR
        go_wp2_with fail
        refine (zf5 (k:Int) w3 (by omega) (by omega)).mono ?_
        rintro e w4 ⟨vd,rfl,hd,hB4⟩;rw[Int.toNat_natCast] at hd;have hdk:=zcT k (by omega)
        have HL4:Hid (LB w4 b done):=HL3.out.below hB4;have hBw4:Below w.heap.size w w4:=hBw3.trans (hB4.mono hBw3.size);have hz4:=hB4.size;have Hd:=Lib.hid hd;clear hBw3 hB4 HL3 hd
        go_wp2_with fail
        refine (zcJ w4 b done (zdz k) vd HL4.out Hd.out.is (by omega)).mono ?_
        rintro e w5 ⟨rfl,hL5,hB5⟩;have HL5:=Lib.hid hL5;have hBw5:Below w.heap.size w w5:=hBw4.trans (hB5.mono hbw);have hz5:=hL5.lt;have hz5':=hB5.size;clear hBw4 hB5 HL4 hL5 Hd
        by_cases hkn:k<N
        · have hx0:(0:Int)<((N-k:Nat):Int):=by omega
          have hN0:0<N-k:=by omega
          obtain⟨g,o,rfl,hg,hc⟩:=Hv2.out.at 0 (by rw[List.length_drop];have:=HN.out;omega)
          obtain⟨x,hx⟩:∃ x,(rest.drop k)[0]?.getD 0=x:=⟨_,rfl⟩;rw[hx] at hc
          obtain⟨r',hr'⟩:∃ r',rest.drop k=x::r':=by
            have hl:k<rest.length:=by have:=HN.out;omega
            refine⟨rest.drop (k+1),?_⟩;rw[List.drop_eq_getElem_cons hl];rw[List.getElem?_drop,Nat.add_zero,List.getElem?_eq_getElem hl] at hx;simp only[Option.getD_some] at hx;rw[hx]
          have hxb:x≤1099511627776∧0≤x:=hels x (List.mem_of_mem_drop (i:=k) (by rw[hr'];exact List.mem_cons_self))
          have hcell:w5.cell? ⟨g,o,none⟩=some (.int .i64 x):=(hBw5.cell (p:=⟨g,o,none⟩) hg).trans (by simpa using hc)
          obtain⟨v3,hv3,⟨q3,c3,rfl⟩,_,hsl3,_⟩:=Hv2.out.cut 1 (N-k) (by omega) (Nat.le_refl _)
          have hsl3:=hsl3 rfl;simp only[Int.natCast_one] at hsl3
          have hv3':IsInts w w.heap.size (.slice q3 (N-k-1) c3) r':=by
            rw[hr'] at hv3
            have e:((x::r').take (N-k)).drop 1=r':=by
              have hl:(x::r').length=N-k:=by rw[←hr',List.length_drop,HN.out]
              rw[←hl,List.take_length];rfl
            rw[e] at hv3;exact hv3
          have Hv3:=Lib.hid hv3'
          have hlr:r'.length=N-k-1:=by
            have hl:(x::r').length=N-k:=by rw[←hr',List.length_drop,HN.out]
            simp at hl;omega
          have Hlr:=Lib.hid hlr;have hels':Hid (∀ y∈r',y≤1099511627776∧0≤y):=fun y hy=>hels y (List.mem_of_mem_drop (i:=k) (by rw[hr'];exact List.mem_cons_of_mem _ hy))
          have heq':Hid ((done++zdz k)++[x+1]++enc r'=enc xs):=by
            show _=_
            rw[←Heq.out,Herow.out,hr'];simp[zeK]
          have hdone:(done++zdz k).length≤2199023255552:=by simp only[List.length_append];omega
          clear Herow hx hc hr' hv3 hv3' hlr Heq hels
          go_wp2_with fail
          refine (zcJ _ b (done++zdz k) [x+1] _ (HL5.out.below ((Below.refl _ _).alloc (Nat.le_refl _) _)) ((IsInts.new w5 [x+1] _ _ _ rfl rfl rfl (by simp[maxLen])).mono (by simp)) (by simp only[List.length_cons,List.length_nil];omega)).mono ?_
          rintro e w6 ⟨rfl,hL6,hB6⟩;have HL6:=Lib.hid hL6;have hBw6:Below w.heap.size w w6:=(hBw5.alloc (by omega) _).trans (hB6.mono hbw)
          clear hL6 hB6 hBw5 HL5
          go_wp2
          go_step3
          refine⟨rfl,b,_,r',_,_,_,_,_,_,_,_,_,_,_,_,_,_,_,_,_,_,_,_,_,_,_,_,_,_,_,_,_,_,_,_,rfl,hbw,Hv3.out,HL6.out,heq'.out,hBw6,hels'.out,by have:=Hlr.out;omega⟩
        · have hkn':N-k=0:=by omega
          have hr0:rest.drop k=[]:=List.drop_eq_nil_of_le (by have:=HN.out;omega)
          rw[hkn'] at hsl
          have hfin:Hid (done++zdz k=enc xs):=by
            show _=_
            rw[←Heq.out,Herow.out,hr0];simp[zeK]
          obtain⟨vl,hvl,hol⟩:=HL5.out;obtain⟨q,c,rfl⟩:=hol.shape;have hcl:w5.cell? ⟨b,0,none⟩=some (.slice q (done++zdz k).length c):=zaa hvl 0;have Hol:=Lib.hid hol;clear Heq Herow hr0 hvl hol HL5
          go_wp2
          simp only[Exit.jump]
          go_ret2
          have Hol2:=OwnInts.mono Hol.out (b2:=w.heap.size) (by omega)
          rw[List.length_append] at Hol2;exact⟨.slice q (done.length+(zdz k).length) c,by rw[HE.out];rfl,by rw[HV.out,←hfin.out];exact Hol2,hBw5⟩
      · rintro a' wr ⟨b,v,rest,done,u6,u7,u8,u9,u10,u11,u12,u13,u14,u15,u16,u17,u18,u19,u20,u21,u22,u23,u24,u25,u26,u27,u28,u29,u30,u31,u32,u33,u34,u35,u36,rfl,hbw,hv,hL,heq,hB,hels,hN1⟩
        obtain⟨A,ca,rfl,hc1,hc2⟩:=hv.shape;obtain⟨N,hN⟩:∃ N,rest.length=N:=⟨_,rfl⟩;rw[hN] at hv hc1 hN1 ⊢;have HN:=Lib.hid hN;clear hN C1 C2 Hv;obtain⟨k,hk⟩:∃ k,zaQ 0 rest=k:=⟨_,rfl⟩;have hkN:=zfd 0 rest;have herow:=zqX rest;rw[hk] at hkN herow;rw[HN.out] at hkN
        have hdl:done.length≤1099511627776:=by
          have h1:=zl9 xs;have h2:=congrArg List.length heq;simp only[List.length_append] at h2;omega
        have CR:=Lib.hid (znb wr _ rest 0 ((hv.below hB (Nat.le_refl _)).mono hB.size) (by have:=HN.out;omega))
        rw[hk] at CR;obtain⟨v2,hv2,⟨q2,c2,rfl⟩,_,hsl,_⟩:=hv.cut k N hkN (Nat.le_refl _);have hsl:=hsl rfl;rw[show ((rest.take N).drop k)=rest.drop k by rw[←HN.out,List.take_length]] at hv2
        have Hv2:=Lib.hid hv2;have Herow:=Lib.hid herow;have HL:=Lib.hid hL;have Heq:=Lib.hid heq;have hbz:=hL.lt;have hBz:=hB.size;clear hk herow hv2 hL heq
        go_wp2_with fail
        refine CR.out.mono ?_;rintro e w3 ⟨rfl,hB3⟩;have HL3:Hid (LB w3 b done):=HL.out.below hB3;have hBw3:Below w.heap.size w w3:=hB.trans (hB3.mono hBz);have hz3:=hB3.size;clear hB hB3 HL CR
        go_wp2_with fail
        refine (zf5 (k:Int) w3 (by omega) (by omega)).mono ?_
        rintro e w4 ⟨vd,rfl,hd,hB4⟩;rw[Int.toNat_natCast] at hd;have hdk:=zcT k (by omega)
        have HL4:Hid (LB w4 b done):=HL3.out.below hB4;have hBw4:Below w.heap.size w w4:=hBw3.trans (hB4.mono hBw3.size);have hz4:=hB4.size;have Hd:=Lib.hid hd;clear hBw3 hB4 HL3 hd
        go_wp2_with fail
        refine (zcJ w4 b done (zdz k) vd HL4.out Hd.out.is (by omega)).mono ?_
        rintro e w5 ⟨rfl,hL5,hB5⟩;have HL5:=Lib.hid hL5;have hBw5:Below w.heap.size w w5:=hBw4.trans (hB5.mono hbw);have hz5:=hL5.lt;have hz5':=hB5.size;clear hBw4 hB5 HL4 hL5 Hd
        by_cases hkn:k<N
        · have hx0:(0:Int)<((N-k:Nat):Int):=by omega
          have hN0:0<N-k:=by omega
          obtain⟨g,o,rfl,hg,hc⟩:=Hv2.out.at 0 (by rw[List.length_drop];have:=HN.out;omega)
          obtain⟨x,hx⟩:∃ x,(rest.drop k)[0]?.getD 0=x:=⟨_,rfl⟩;rw[hx] at hc
          obtain⟨r',hr'⟩:∃ r',rest.drop k=x::r':=by
            have hl:k<rest.length:=by have:=HN.out;omega
            refine⟨rest.drop (k+1),?_⟩;rw[List.drop_eq_getElem_cons hl];rw[List.getElem?_drop,Nat.add_zero,List.getElem?_eq_getElem hl] at hx;simp only[Option.getD_some] at hx;rw[hx]
          have hxb:x≤1099511627776∧0≤x:=hels x (List.mem_of_mem_drop (i:=k) (by rw[hr'];exact List.mem_cons_self))
          have hcell:w5.cell? ⟨g,o,none⟩=some (.int .i64 x):=(hBw5.cell (p:=⟨g,o,none⟩) hg).trans (by simpa using hc)
          obtain⟨v3,hv3,⟨q3,c3,rfl⟩,_,hsl3,_⟩:=Hv2.out.cut 1 (N-k) (by omega) (Nat.le_refl _)
          have hsl3:=hsl3 rfl;simp only[Int.natCast_one] at hsl3
          have hv3':IsInts w w.heap.size (.slice q3 (N-k-1) c3) r':=by
            rw[hr'] at hv3
            have e:((x::r').take (N-k)).drop 1=r':=by
              have hl:(x::r').length=N-k:=by rw[←hr',List.length_drop,HN.out]
              rw[←hl,List.take_length];rfl
            rw[e] at hv3;exact hv3
          have Hv3:=Lib.hid hv3'
          have hlr:r'.length=N-k-1:=by
            have hl:(x::r').length=N-k:=by rw[←hr',List.length_drop,HN.out]
            simp at hl;omega
          have Hlr:=Lib.hid hlr;have hels':Hid (∀ y∈r',y≤1099511627776∧0≤y):=fun y hy=>hels y (List.mem_of_mem_drop (i:=k) (by rw[hr'];exact List.mem_cons_of_mem _ hy))
          have heq':Hid ((done++zdz k)++[x+1]++enc r'=enc xs):=by
            show _=_
            rw[←Heq.out,Herow.out,hr'];simp[zeK]
          have hdone:(done++zdz k).length≤2199023255552:=by simp only[List.length_append];omega
          clear Herow hx hc hr' hv3 hv3' hlr Heq hels
          go_wp2_with fail
          refine (zcJ _ b (done++zdz k) [x+1] _ (HL5.out.below ((Below.refl _ _).alloc (Nat.le_refl _) _)) ((IsInts.new w5 [x+1] _ _ _ rfl rfl rfl (by simp[maxLen])).mono (by simp)) (by simp only[List.length_cons,List.length_nil];omega)).mono ?_
          rintro e w6 ⟨rfl,hL6,hB6⟩;have HL6:=Lib.hid hL6;have hBw6:Below w.heap.size w w6:=(hBw5.alloc (by omega) _).trans (hB6.mono hbw)
          clear hL6 hB6 hBw5 HL5
          go_wp2
          go_step3
          refine⟨rfl,⟨b,_,r',_,_,_,_,_,_,_,_,_,_,_,_,_,_,_,_,_,_,_,_,_,_,_,_,_,_,_,_,_,_,_,_,rfl,hbw,Hv3.out,HL6.out,heq'.out,hBw6,hels'.out,by have:=Hlr.out;omega⟩,by simp[zug];omega⟩
        · have hkn':N-k=0:=by omega
          have hr0:rest.drop k=[]:=List.drop_eq_nil_of_le (by have:=HN.out;omega)
          rw[hkn'] at hsl
          have hfin:Hid (done++zdz k=enc xs):=by
            show _=_
            rw[←Heq.out,Herow.out,hr0];simp[zeK]
          obtain⟨vl,hvl,hol⟩:=HL5.out;obtain⟨q,c,rfl⟩:=hol.shape;have hcl:w5.cell? ⟨b,0,none⟩=some (.slice q (done++zdz k).length c):=zaa hvl 0;have Hol:=Lib.hid hol;clear Heq Herow hr0 hvl hol HL5
          go_wp2
          simp only[Exit.jump]
          go_ret2
          have Hol2:=OwnInts.mono Hol.out (b2:=w.heap.size) (by omega)
          rw[List.length_append] at Hol2;exact⟨.slice q (done.length+(zdz k).length) c,by rw[HE.out];rfl,by rw[HV.out,←hfin.out];exact Hol2,hBw5⟩
end Go.Proofs.YtoejfkeofbdalaaGreatDoor
