import Derived.Test.YtoejfkeofbdalaaGreatDoorM23
import Derived.Test.YtoejfkeofbdalaaGreatDoorM24
import Derived.Test.YtoejfkeofbdalaaGreatDoorM20
set_option linter.unusedVariables false
set_option maxRecDepth 100000
set_option maxHeartbeats 8000000
namespace Go.Proofs.YtoejfkeofbdalaaGreatDoor
open Go.RowKit
theorem zsb {w:World} {base:Nat} {v:Value} {L:List Nat} (h:OwnInts w base v (ints L)) (h0:0<L.length):∃ g cap E,v=.slice (some ⟨g,0,none⟩) L.length cap∧base≤g∧L.length≤cap∧cap≤maxLen∧SRow w g L E:=by
  have hl:(ints L).length=L.length:=zad L;rcases h.2 with ⟨rfl,h1⟩ | ⟨g,cap,cur,rfl,hb,hh,h1,h2,h3,h4⟩
  · omega
  · rw[hl] at *
    refine⟨g,cap,cur.toList.drop L.length,rfl,hb,h1,h2,cur,hh,?_⟩;rw[Nat.mul_one] at h4;rw[←h4,List.take_append_drop]
def zbJ (s:ByteArray) (k:Nat):List Nat:=(zaJ s).take k++List.replicate (s.size-k) 0
theorem zim (s:ByteArray) (k:Nat) (h:k≤s.size):(zbJ s k).length=s.size:=by simp[zbJ,zaJ];omega
theorem zlK (s:ByteArray):zbJ s s.size=zaJ s:=by
  unfold zbJ;rw[List.take_of_length_le (by rw[zaL];exact Nat.le_refl _),Nat.sub_self];simp
theorem zmi (s:ByteArray) (k:Nat) (h:k<s.size):(zbJ s k).set k (s[k]).toNat=zbJ s (k+1):=by
  unfold zbJ
  have h1:(zaJ s).take (k+1)=(zaJ s).take k++[(s[k]).toNat]:=by
    rw[List.take_add_one,zfL s k h];rfl
  have h2:List.replicate (s.size-k) 0=0::List.replicate (s.size-(k+1)) 0:=by
    rw[←List.replicate_succ];congr 1;omega
  rw[h1,h2];have:=zdo (L:=(zaJ s).take k) (M:=List.replicate (s.size-(k+1)) 0) (x:=0) (s[k]).toNat (k:=k) (by rw[List.length_take,zaL];omega)
  rw[this];simp
structure OrdSt (w wr:World) (s:ByteArray) (n rb m:Nat) (P:List Nat) (v:Value) (L:List Nat):Prop where
  bel:Below w.heap.size w wr
  size:w.heap.size+1+1≤wr.heap.size
  box:wr.heap[w.heap.size+1]?=some (.cells #[.string s,.slice (some ⟨rb,0,none⟩) n n,.int .i64 (m:Nat)] 171 (0,0))
  row:SRow wr rb P []
  rlt:rb<w.heap.size+1
  own:OwnInts wr (w.heap.size+1+1) v (ints L)
theorem OrdSt.appended {w wr w2:World} {s:ByteArray} {n rb m:Nat} {P L:List Nat} {v v':Value} {k:Nat} {o:Obj} (h:OrdSt w wr s n rb m P v L) (hg:(wr.alloc o).grownBy w2 v.ownBlock) (ho:OwnInts w2 (w.heap.size+1+1) v' (ints L++[(k:Int)])):OrdSt w w2 s n rb m P v' (L++[k]):=by
  have hb:∀ j,v.ownBlock=some j→w.heap.size+1+1≤j:=fun j e=>zaF h.own e;have hz:=h.size;have hsz:(wr.alloc o).heap.size=wr.heap.size+1:=by simp
  refine⟨(zk5 h.bel o).grown hg (by rw[hsz];omega) fun j e=>by have:=hb j e;omega,by have:=hg.size;omega,?_,?_,h.rlt,?_⟩
  · exact (hg.block _ (by rw[hsz];omega) (fun e=>by have:=hb _ e.symm;omega)).trans (zah _ h.box)
  · exact (h.row.below ((Below.refl _ _).alloc (Nat.le_refl _) o)).same (hg.block _ (by have:=h.rlt;rw[hsz];omega) (fun e=>by have:=hb _ e.symm;have:=h.rlt;omega))
  · have:ints (L++[k])=ints L++[(k:Int)]:=by simp[ints]
    rw[this];exact ho
theorem OrdSt.stored {w wr:World} {s:ByteArray} {n rb m:Nat} {P L:List Nat} {v:Value} (h:OrdSt w wr s n rb m P v L) (hrb:w.heap.size≤rb) (x p:Nat) (hx:x<P.length):OrdSt w (wr.setCell ⟨rb,x,none⟩ (.int .i64 (p:Int))).drew s n rb m (P.set x p) v L:=by
  have hr:=h.rlt;refine⟨(h.bel.setCell (p:=⟨rb,x,none⟩) hrb _).drew,by have:=h.size;simpa [World.setCell] using this,?_,(h.row.set x p hx).same rfl,hr,?_⟩
  · exact (Below.heap_setCell _ _ _ _ (by show w.heap.size+1≠rb;omega)).trans h.box
  · have h1:OwnInts (wr.setCell ⟨rb,x,none⟩ (.int .i64 (p:Int))) (w.heap.size+1+1) v (ints L):=by
      refine⟨h.own.1,?_⟩;rcases h.own.2 with h0 | ⟨g,cap,cur,e1,e2,e3,e4⟩
      · exact .inl h0
      · exact .inr ⟨g,cap,cur,e1,e2,(Below.heap_setCell _ _ _ _ (by show g≠rb;omega)).trans e3,e4⟩
    exact h1
structure RndSt (w wq:World) (s:ByteArray) (n m g rb nb:Nat) (L P NX:List Nat) (E:List Value):Prop where
  out:SRow wq g L E
  rk:SRow wq rb P []
  nx:SRow wq nb NX []
  box:wq.heap[w.heap.size+1]?=some (.cells #[.string s,.slice (some ⟨rb,0,none⟩) n n,.int .i64 (m:Nat)] 171 (0,0))
  bel:Below w.heap.size w wq
theorem RndSt.step {w wq w':World} {s:ByteArray} {n m g rb nb:Nat} {L P NX:List Nat} {E:List Value} (h:RndSt w wq s n m g rb nb L P NX E) (hB:Below wq.heap.size wq w'):RndSt w w' s n m g rb nb L P NX E :=
  ⟨h.out.below hB,h.rk.below hB,h.nx.below hB,(hB.block _ (zab h.box)).trans h.box,h.bel.trans (hB.mono h.bel.size)⟩
theorem RndSt.set {w wq:World} {s:ByteArray} {n m g rb nb:Nat} {L P NX:List Nat} {E:List Value} (h:RndSt w wq s n m g rb nb L P NX E) (h1:nb≠g) (h2:nb≠rb) (h3:nb≠w.heap.size+1) (h4:w.heap.size≤nb) (x p:Nat) (hx:x<NX.length) :
    RndSt w (wq.setCell ⟨nb,x,none⟩ (.int .i64 (p:Int))) s n m g rb nb L P (NX.set x p) E :=
  ⟨h.out.same (Below.heap_setCell _ _ _ _ h1.symm),h.rk.same (Below.heap_setCell _ _ _ _ h2.symm),h.nx.set x p hx,(Below.heap_setCell _ _ _ _ h3.symm).trans h.box,h.bel.setCell (p:=⟨nb,x,none⟩) h4 _⟩
theorem RndSt.drew {w wq:World} {s:ByteArray} {n m g rb nb:Nat} {L P NX:List Nat} {E:List Value} (h:RndSt w wq s n m g rb nb L P NX E):RndSt w wq.drew s n m g rb nb L P NX E:=h.step (Below.refl _ _).drew
theorem zkX (s:ByteArray) (w:World) (h0:0<s.size) (hs:s.size≤100000) :
    Calls Tryz.prog 34 #[.string s] w fun e w'=>∃ q c,e=.returned (.slice q s.size c)∧IsInts w' w'.heap.size (.slice q s.size c) (ints (zbI (zaJ s)))∧Below w.heap.size w w':=by
  obtain⟨n,hn⟩:∃ n,s.size=n:=⟨_,rfl⟩;obtain⟨cz,hcz,hmk⟩:=za2 n (by omega)
  have HMK:=Lib.hid hmk;have HCZ:=Lib.hid hcz;rw[hn] at h0 hs ⊢;have HN:=Lib.hid hn
  have S0:Hid (OrdSt w ((w.alloc (.cells cz 3)).alloc (.cells #[.string s,.slice (some ⟨w.heap.size,0,none⟩) n n,.int .i64 0] 171)) s n w.heap.size 0 (zbJ s 0) (.slice none 0 0) []):=by
    refine⟨zk5 ((Below.refl _ _).alloc (Nat.le_refl _) _) _,by simp,zae _ _ _ (by simp),⟨cz,zah _ (zae _ _ _ rfl),?_⟩,by omega,OwnInts.nil _ _⟩
    rw[hcz,List.append_nil];unfold zbJ;rw[hn];simp[ints]
  clear hcz hmk;have hmk:=HMK.out
  go_enter Tryz.func34,Tryz.ntmps34
  go_wp2_with fail
  generalize (w.alloc (.cells cz 3)).alloc (.cells #[.string s,.slice (some ⟨w.heap.size,0,none⟩) n n,.int .i64 0] 171)=W0 at *
  have hbk:w.heap.size+1=w.heap.size+1:=rfl
  go_loopw [2,15] (fun ov iv wr=>∃ k:Nat,k≤n∧iv=.int .i64 (k:Nat)∧Hid (OrdSt w wr s n w.heap.size 0 (zbJ s k) ov (List.range k))) (fun ov iv _=>n+1-(intOf iv).toNat)
  case atStart=>exact⟨0,Nat.zero_le _,rfl,S0⟩
  case round =>
    clear S0;obtain⟨k,hk,rfl,HS⟩:=hrel
    by_cases hlt:k<n
    · obtain⟨q,c,rfl⟩:=HS.out.own.shape
      have hll:(ints (List.range k)).length=k:=by rw[zad,List.length_range]
      have hks:k<s.size:=by rw[HN.out];exact hlt
      rw[hll] at HS ⊢;have hz:=HS.out.size;have hget:(s[k]'hks).toNat<256:=(s[k]'hks).toNat_lt;have HSET:=Lib.hid (zmi s k hks)
      go_wp2_with
        (at_builtin
         refine zar rfl _ _ rfl (w.heap.size+1+1) _ (ints (List.range k)) rfl (HS.out.own.alloc _) (wr.heap.size+1) _ [(k:Int)] rfl (IsInts.new wr [(k:Int)] _ _ _ rfl rfl rfl (by simp[maxLen])) (by rw[hll];simp;omega) (by simp;omega) ?_
         intro q2 c2 w2 hown hg hat1;have HS2:=Lib.hid (HS.out.appended hg hown);have e1:(ints (List.range k)).length + [(k:Int)].length=k+1:=by rw[hll];rfl
         rw[e1] at HS2 ⊢;rw[←List.range_succ] at HS2;clear hown hg hat1 HS hz e1)
      have hcb1:=(zaa HS2.out.box 1).trans rfl;have hPl:(zbJ s k).length=n:=by rw[zim s k (by omega),HN.out]
      have hz0:(zbJ s k)[k]?=some 0:=by
        unfold zbJ;rw[List.getElem?_append_right (by rw[List.length_take,zaL];omega),List.getElem?_replicate,if_pos (by rw[List.length_take,zaL];omega)]
      have hck:=HS2.out.row.cell k 0 hz0;have hfk:=HS2.out.row.frozen k;obtain⟨x,hxx⟩:∃ x,(s[k]'hks).toNat=x:=⟨_,rfl⟩;rw[hxx] at HSET hget;have HS3:=HS2.out.stored (Nat.le_refl _) k x (by rw[hPl];exact hlt)
      rw[HSET.out] at HS3;have HS3:=Lib.hid HS3;have m1:¬ w.heap.size+1=w.heap.size:=by omega
      have m2:¬ w.heap.size=w.heap.size+1:=by omega
      clear HS2 hPl hz0 HSET
      go_region
      go_wp2_with fail
      go_roundw
      case rel=>exact⟨k+1,by omega,by go_num,HS3⟩
      case measure=>simp[intOf];omega
    · obtain rfl:n=k:=by omega
      have hRT:zbJ s n=zaJ s:=by have:=zlK s;rwa [HN.out] at this
      rw[hRT] at HS;obtain⟨g,cap,E,rfl,hg,hcap1,hcap2,hrow⟩:=zsb HS.out.own (by rw[List.length_range];exact h0)
      rw[List.length_range] at hcap1 ⊢;have HP0:=Lib.hid HS.out.row;have HG0:=Lib.hid hrow;have HX0:=Lib.hid HS.out.box;have HB0:=Lib.hid HS.out.bel;have hsz:=HS.out.size;have HK0:Hid (RankOk (zaJ s) (zce (zaJ s)) 1):=zoQ (zaJ s);clear HS hrow hRT hk;have hSl:(zaJ s).length=n:=by rw[zaL,HN.out]
      have HSL:=Lib.hid hSl;clear hSl
      go_wp2_with fail
      go_loopw [2] (fun ov wr=>∃ (rb m:Nat) (P L:List Nat),ov=.slice (some ⟨g,0,none⟩) n cap∧m≤200000∧(m=0∨m<n)∧rb≠g∧rb≠w.heap.size+1∧w.heap.size≤rb∧Hid (L.Perm (List.range n))∧Hid (P.length=n)∧Hid (SRow wr g L E)∧Hid (SRow wr rb P [])∧Hid (wr.heap[w.heap.size+1]?=some (.cells #[.string s,.slice (some ⟨rb,0,none⟩) n n,.int .i64 (m:Nat)] 171 (0,0)))∧Hid (RankOk (zaJ s) (zce P) (max m 1))∧Hid (Below w.heap.size w wr))
        (fun _ wr=>n+1-(intOf ((wr.cell? ⟨w.heap.size+1,2,none⟩).getD (.int .i64 0))).toNat)
      case atStart=>exact⟨w.heap.size,0,zaJ s,List.range n,rfl,by omega,.inl rfl,by omega,by omega,Nat.le_refl _,List.Perm.refl _,HSL.out,HG0.out,HP0.out,HX0.out,HK0.out,HB0.out⟩
      case round =>
        clear HG0 HP0 HX0 HK0 HB0 hsz;obtain⟨rb,m,P,L0,rfl,hm,hmn,hne1,hne2,hrbB,HL,HPL,HG,HP,HX,HK,HB⟩:=hrel;have hcx2:=(zaa HX.out 2).trans rfl;have CS:=Lib.hid (zkF wr g n cap L0 E HG.out (by omega) HL.out)
        have HM2:Hid ((intOf ((wr.cell? ⟨w.heap.size+1,2,none⟩).getD (.int .i64 0))).toNat=m):=by
          show _=_
          rw[hcx2];rfl
        clear hcx2
        go_wp2_with fail
        refine CS.out.mono ?_;rintro e w1 ⟨rfl,hr1,ho1⟩;have hx1:=ho1.other HX.out (show w.heap.size+1≠g by omega)
        have hp1:SRow w1 rb P []:=HP.out.same (ho1.block rb HP.out.lt hne1);have hb1:Below w.heap.size w w1:=ho1.bel HB.out (by omega) (Nat.le_refl _)
        have CT:=Lib.hid (zjn s w1 g n cap rb n m P (List.range n) E hr1 hp1 hne1 HN.out (by rw[List.length_range]) HPL.out (by omega) (by omega) List.pairwise_lt_range (fun x hx=>List.mem_range.1 hx))
        have HX1:=Lib.hid hx1;have HP1:=Lib.hid hp1;have HB1:=Lib.hid hb1;have k0:=(zaa hx1 0).trans rfl;have k1:=(zaa hx1 1).trans rfl;have k2:=(zaa hx1 2).trans rfl;unfold zcw at CT;clear CS hr1 ho1 hx1 hp1 hb1 HG HP HX HB HL
        go_wp2_with fail
        refine CT.out.mono ?_;rintro e w2 ⟨rfl,⟨L,hr2,hL2,hS2⟩,ho2⟩;have hx2:=ho2.other HX1.out (show w.heap.size+1≠g by omega)
        have hp2:SRow w2 rb P []:=HP1.out.same (ho2.block rb HP1.out.lt hne1);have hb2:Below w.heap.size w w2:=ho2.bel HB1.out (by omega) (Nat.le_refl _)
        have HX2:=Lib.hid hx2;have HP2:=Lib.hid hp2;have HB2:=Lib.hid hb2;have HG2:=Lib.hid hr2;have HL2:=Lib.hid hL2;have HS2:=Lib.hid hS2;have hLl:L.length=n:=by rw[hL2.length_eq,List.length_range]
        have hgl:=hr2.lt;have hrl:=hp2.lt;have hxl:=zab hx2;obtain⟨nb,hnb⟩:∃ nb,w2.heap.size=nb:=⟨_,rfl⟩
        have hR0:RndSt w (w2.alloc (.cells cz 3)) s n m g rb nb L P (List.replicate n 0) E:=by
          have hB:Below w2.heap.size w2 (w2.alloc (.cells cz 3)):=(Below.refl _ _).alloc (Nat.le_refl _) _;exact⟨hr2.below hB,hp2.below hB,⟨cz,zae _ _ _ hnb.symm,by rw[HCZ.out,List.append_nil];congr 1;simp[ints]⟩,(hB.block _ hxl).trans hx2,hb2.trans (hB.mono hb2.size)⟩
        have q1:nb≠g:=by omega
        have q2:nb≠rb:=by omega
        have q3:nb≠w.heap.size+1:=by omega
        have q4:w.heap.size≤nb:=by omega
        have HR0:=Lib.hid hR0;have HLL:=Lib.hid hLl;clear CT hr2 hL2 hS2 ho2 hx2 hp2 hb2 HX1 HP1 HB1 k0 k1 k2 hR0 HX2 HP2 HB2 HG2 hLl hgl hrl hxl
        go_wp2_with fail
        have HNB:=Lib.hid hnb;clear hnb;generalize w2.alloc (.cells cz 3)=W3 at *
        go_loopw [6] (fun iv wq=>∃ (i:Nat) (NX:List Nat),iv=.int .i64 (i:Nat)∧1≤i∧i≤max n 1∧Hid (NX.length=n)∧Hid (∀ t,t<i→t<n→NX[L[t]?.getD 0]?.getD 0=zkz n (zce P) m L t)∧Hid (RndSt w wq s n m g rb nb L P NX E)) (fun iv _=>n+1-(intOf iv).toNat)
        case atStart =>
          refine⟨1,List.replicate n 0,rfl,Nat.le_refl _,by omega,by show _=_;rw[List.length_replicate],?_,HR0⟩
          intro t ht _;obtain rfl:t=0:=by omega
          show _=0
          rw[List.getElem?_replicate];split <;> rfl
        case round =>
          clear HR0;obtain⟨i,NX,rfl,hi1,hin,HNL,HU,HR⟩:=hrel
          by_cases hlt:i<n
          · have hLl:=HLL.out
            have hNl:=HNL.out;obtain⟨a,ha⟩:∃ a,L[i]?=some a:=⟨_,List.getElem?_eq_getElem (by omega)⟩
            obtain⟨b,hb⟩:∃ b,L[i-1]?=some b:=⟨_,List.getElem?_eq_getElem (by omega)⟩
            have han:a<n:=List.mem_range.1 (HL2.out.mem_iff.1 (List.mem_of_getElem? ha));have hbn:b<n:=List.mem_range.1 (HL2.out.mem_iff.1 (List.mem_of_getElem? hb));have hnd:L.Nodup:=HL2.out.nodup_iff.2 List.nodup_range
            have hab:b≠a:=fun e=>by
              subst e;have:=(List.getElem?_inj (by omega) hnd).1 (hb.trans ha.symm)
              omega
            obtain⟨y,hy⟩:∃ y,NX[b]?=some y:=⟨_,List.getElem?_eq_getElem (by omega)⟩
            obtain⟨z0,hz0⟩:∃ z0,NX[a]?=some z0:=⟨_,List.getElem?_eq_getElem (by omega)⟩
            have ca:=HR.out.out.cell _ _ ha;have cb:=HR.out.out.cell _ _ hb;have cy:=HR.out.nx.cell _ _ hy;have cz0:=HR.out.nx.cell _ _ hz0;have fz:=HR.out.nx.frozen a;have hR1:=(HR.out.set q1 q2 q3 q4 a y (by omega)).drew
            have HR1:=Lib.hid hR1;have w1:IntKind.i64.wrap ((i:Int)-1)=((i-1:Nat):Int):=by rw[IntWalk.i64_in _ (by omega)];omega
            have l1:i-1<n:=by omega
            have HA:=Lib.hid ha;have HBB:=Lib.hid hb;have HY:=Lib.hid hy;have HAB:=Lib.hid hab
            have HNA:Hid (∀ t,t<i→L[t]?.getD 0≠a):=fun t ht e=>by
              have h5:L[t]?=some a:=by rw[List.getElem?_eq_getElem (by omega)] at e ⊢;exact congrArg some e
              have:=(List.getElem?_inj (by omega) hnd).1 (h5.trans ha.symm)
              omega
            have p1:¬ nb=g:=q1;have p2:¬ g=nb:=q1.symm;clear hR1 ha hb hy hz0 hnd hab hLl hNl HR;obtain⟨j,hj⟩:∃ j,i-1=j:=⟨_,rfl⟩;rw[hj] at cb w1 l1 HBB;have HJ:=Lib.hid hj;clear hj
            go_wp2_with fail
            go_region
            generalize (wr.setCell ⟨nb,a,none⟩ (.int .i64 (y:Int))).drew=W4 at *
            have hbW:Below W4.heap.size W4 W4:=Below.refl _ _;have hlx:=zab HR1.out.box;have hlg:=HR1.out.out.lt;have cb1:=HR1.out.out.cell _ _ HBB.out;have ca1:=HR1.out.out.cell _ _ HA.out
            have HkW:Hid (∀ w':World,Below W4.heap.size W4 w'→Below W4.heap.size W4 w'∧w'.cell? ⟨w.heap.size+1,0,none⟩=some (.string s)∧w'.cell? ⟨w.heap.size+1,1,none⟩=some (.slice (some ⟨rb,0,none⟩) n n)∧w'.cell? ⟨w.heap.size+1,2,none⟩=some (.int .i64 (m:Nat))∧w'.cell? ⟨g,j,none⟩=some (.int .i64 (b:Nat))∧w'.cell? ⟨g,i,none⟩=some (.int .i64 (a:Nat))):=fun w' h =>
              ⟨h,(h.cell (p:=⟨w.heap.size+1,0,none⟩) hlx).trans (zaa HR1.out.box 0),(h.cell (p:=⟨w.heap.size+1,1,none⟩) hlx).trans (zaa HR1.out.box 1),(h.cell (p:=⟨w.heap.size+1,2,none⟩) hlx).trans (zaa HR1.out.box 2),(h.cell (p:=⟨g,j,none⟩) hlg).trans cb1,(h.cell (p:=⟨g,i,none⟩) hlg).trans ca1⟩
            have CC:Hid (∀ W,Below W4.heap.size W4 W→Calls Tryz.prog 98 #[.agg #[.string s,.slice (some ⟨rb,0,none⟩) n n,.int .i64 (m:Nat)],.int .i64 (b:Nat),.int .i64 (a:Nat)] W fun e w'=>e=.returned (.int .i64 (zhb P n m b a))∧Below W.heap.size W w'):=fun W h =>
              zhR s rb n n m b a P W (HR1.out.step h).rk HPL.out HN.out hbn han (by omega) (by omega)
            have hz:=znW P n m b a
            have hup:zb3 n (zce P) m a b=false:=by
              have hLl:=HLL.out;have hj:=HJ.out;have hpw:=List.pairwise_iff_getElem.1 HS2.out j i (by omega) (by omega) (by omega)
              have e1:L[j]'(by omega)=b:=by have:=HBB.out;rw[List.getElem?_eq_getElem (by omega)] at this;exact Option.some.inj this
              have e2:L[i]'(by omega)=a:=by have:=HA.out;rw[List.getElem?_eq_getElem (by omega)] at this;exact Option.some.inj this
              rw[e1,e2] at hpw;simp only[KeyR,zaX,zcM] at hpw ⊢;omega
            have hz2:(zhb P n m b a != 0)=zb3 n (zce P) m b a:=by
              rw[hz]
              show (zb3 n (zce P) m b a || zb3 n (zce P) m a b)=_
              rw[hup,Bool.or_false]
            have hus:zkz n (zce P) m L i=zkz n (zce P) m L j+if zb3 n (zce P) m b a then 1 else 0:=by
              obtain rfl:i=j+1:=by have:=HJ.out;omega
              show zkz n (zce P) m L j+_=_
              rw[HA.out,HBB.out];rfl
            have hyu:y=zkz n (zce P) m L j:=by
              have:=HU.out j (by have:=HJ.out;omega) l1
              rw[HBB.out,Option.getD_some,HY.out] at this;exact this
            rw[←hyu] at hus;obtain⟨r,hr⟩:∃ r,zb3 n (zce P) m b a=r:=⟨_,rfl⟩;rw[hr] at hz2 hus;obtain⟨z,hzz⟩:∃ z,zhb P n m b a=z:=⟨_,rfl⟩;rw[hzz] at hz2 CC;have HZ:=Lib.hid hz2;have HUS:=Lib.hid hus;have HYU:=Lib.hid hyu;clear hz hup hz2 hus hr hzz ca cb cy cz0 fz cb1 ca1 hlx hlg hyu
            go_wp2_with fail
            go_region_held3 (fun w'=>Below W4.heap.size W4 w'∧w'.cell? ⟨w.heap.size+1,0,none⟩=some (.string s)∧w'.cell? ⟨w.heap.size+1,1,none⟩=some (.slice (some ⟨rb,0,none⟩) n n)∧w'.cell? ⟨w.heap.size+1,2,none⟩=some (.int .i64 (m:Nat))∧w'.cell? ⟨g,j,none⟩=some (.int .i64 (b:Nat))∧w'.cell? ⟨g,i,none⟩=some (.int .i64 (a:Nat)))
              ((refine HkW.out _ ?_;first | assumption | exact zwd (by assumption) | exact And.left (by assumption) | exact zvS (by assumption) (And.left (by assumption)) | fail))
              ((first
                | (go_at_call 98
                   refine (CC.out _ (And.left (by assumption))).mono ?_
                   rintro e w8 ⟨rfl,hB8⟩;have hW8:Below W4.heap.size W4 w8:=zvS hB8 (And.left (by assumption)))
                | fail))
            rename_i hheld
            clear hheld;have HR8:=Lib.hid (HR1.out.step hW8);rw[HZ.out];clear HR1 HkW CC hW8 hB8 hbW;have hNl:=HNL.out;have hya:(NX.set a y)[a]?=some y:=by rw[List.getElem?_set_self (by omega)]
            have key:∀ (v:Nat) (NY:List Nat),NY.length=n→(∀ c,c≠a→NY[c]?=NX[c]?)→NY[a]?=some v→v=zkz n (zce P) m L i→∀ t,t<i+1→t<n→NY[L[t]?.getD 0]?.getD 0=zkz n (zce P) m L t:=by
              intro v NY h1 h2 h3 h4 t ht htn
              by_cases hti:t<i
              · rw[h2 _ (HNA.out t hti)]
                exact HU.out t hti htn
              · obtain rfl:t=i:=by omega
                rw[HA.out,Option.getD_some,h3,Option.getD_some,h4]
            have cy:=HR8.out.nx.cell _ _ hya;have ci:=HR8.out.out.cell _ _ HA.out;have fy:=HR8.out.nx.frozen a;cases r with
            | true =>
              have hN2:=key (y+1) ((NX.set a y).set a (y+1)) (by simp[hNl]) (fun c hc=>by rw[List.getElem?_set_ne (Ne.symm hc),List.getElem?_set_ne (Ne.symm hc)]) (by rw[List.getElem?_set_self (by simp;omega)]) (by rw[HUS.out];rfl)
              have HU2:=Lib.hid hN2;have HR9:=Lib.hid (HR8.out.set q1 q2 q3 q4 a (y+1) (by simp;omega))
              have hl9:((NX.set a y).set a (y+1)).length=n:=by simp[hNl]
              have HL9:=Lib.hid hl9;have hyb:y≤200000:=by have:=zui n (zce P) m L j;have:=HYU.out;omega
              have w2:IntKind.i64.wrap ((y:Int)+1)=((y+1:Nat):Int):=by rw[IntWalk.i64_in _ (by omega)];omega
              have w3:IntKind.i64.wrap ((i:Int)+1)=((i+1:Nat):Int):=by rw[IntWalk.i64_in _ (by omega)];omega
              clear hN2 hl9 key hya hNl HR8 HU HNL
              go_wp2_with fail
              go_roundw
              case rel=>exact⟨i+1,_,rfl,by omega,by omega,HL9,HU2,HR9⟩
              case measure=>simp[intOf];omega
            | false =>
              have hN2:=key y (NX.set a y) (by simp[hNl]) (fun c hc=>by rw[List.getElem?_set_ne (Ne.symm hc)]) hya (by rw[HUS.out];rfl)
              have HU2:=Lib.hid hN2;have hl9:(NX.set a y).length=n:=by simp[hNl]
              have HL9:=Lib.hid hl9;have w3:IntKind.i64.wrap ((i:Int)+1)=((i+1:Nat):Int):=by rw[IntWalk.i64_in _ (by omega)];omega
              clear hN2 hl9 key hya hNl HU HNL
              go_wp2_with fail
              go_roundw
              case rel=>exact⟨i+1,_,rfl,by omega,by omega,HL9,HU2,HR8⟩
              case measure=>simp[intOf];omega
          · have hin2:n≤i:=by omega
            have hNext:RankOk (zaJ s) (zce NX) (zfY m):=by
              refine zq7 (ρ:=zce P) (out:=L) HK.out (by rw[HSL.out];exact HL2.out) (by rw[HSL.out];exact HS2.out) ?_
              intro t ht;rw[HLL.out] at ht;rw[HSL.out];exact HU.out t (by omega) ht
            have HNX:=Lib.hid hNext;have hO:n≤zfY m→L=zbI (zaJ s):=fun h=>zty (by rw[HSL.out];exact HL2.out) (zpO HK.out (by rw[HSL.out];exact HL2.out) (by rw[HSL.out];exact HS2.out) (by rw[HSL.out];exact h))
            have HOR:=Lib.hid hO;have hx0:=HR.out.box;have fx1:=zac hx0 1;have fx2:=zac hx0 2;have k2:=(zaa hx0 2).trans rfl;have k1:=(zaa hx0 1).trans rfl;have dd:decide (i<n)=false:=decide_eq_false hlt;have w2:IntKind.i64.wrap (2*(m:Int))=((2*m:Nat):Int):=by rw[IntWalk.i64_in _ (by omega)];omega
            obtain⟨m2,hm2⟩:∃ m2,2*m=m2:=⟨_,rfl⟩;rw[hm2] at w2;have hmx:max (m2:Int) 1=((max m2 1:Nat):Int):=by omega
            obtain⟨m3,hm3⟩:∃ m3,max m2 1=m3:=⟨_,rfl⟩;rw[hm3] at hmx;have hgx:g≠w.heap.size+1:=by omega
            have hbx:nb≠w.heap.size+1:=q3
            have HX5:Hid (((wr.setCell ⟨w.heap.size+1,1,none⟩ (.slice (some ⟨nb,0,none⟩) n n)).setCell ⟨w.heap.size+1,2,none⟩ (.int .i64 (m3:Nat))).heap[w.heap.size+1]?=some (.cells #[.string s,.slice (some ⟨nb,0,none⟩) n n,.int .i64 (m3:Nat)] 171 (0,0))):=by
              show _=_
              have h1:=zaf (zaf hx0 1 (.slice (some ⟨nb,0,none⟩) n n)) 2 (.int .i64 (m3:Nat));simpa using h1
            have HG5:Hid (SRow ((wr.setCell ⟨w.heap.size+1,1,none⟩ (.slice (some ⟨nb,0,none⟩) n n)).setCell ⟨w.heap.size+1,2,none⟩ (.int .i64 (m3:Nat))) g L E) :=
              (HR.out.out.same (Below.heap_setCell _ ⟨w.heap.size+1,1,none⟩ _ _ hgx)).same (Below.heap_setCell _ ⟨w.heap.size+1,2,none⟩ _ _ hgx)
            have HP5:Hid (SRow ((wr.setCell ⟨w.heap.size+1,1,none⟩ (.slice (some ⟨nb,0,none⟩) n n)).setCell ⟨w.heap.size+1,2,none⟩ (.int .i64 (m3:Nat))) nb NX []) :=
              (HR.out.nx.same (Below.heap_setCell _ ⟨w.heap.size+1,1,none⟩ _ _ hbx)).same (Below.heap_setCell _ ⟨w.heap.size+1,2,none⟩ _ _ hbx)
            have HB5:Hid (Below w.heap.size w ((wr.setCell ⟨w.heap.size+1,1,none⟩ (.slice (some ⟨nb,0,none⟩) n n)).setCell ⟨w.heap.size+1,2,none⟩ (.int .i64 (m3:Nat)))) :=
              zwe (zwe HR.out.bel (by omega) 1 _) (by omega) 2 _
            have hmo:zfY m=m3:=by unfold zfY;omega
            rw[hmo] at HNX HOR;have hm2le:m2≤400000:=by omega
            by_cases hge:n≤m3
            · have dd2:decide (n≤m3)=true:=decide_eq_true hge
              have hLo:=HOR.out hge;have hLl:=HLL.out;have hfin:=HG5.out.ints cap (by rw[hLl];exact hcap1) hcap2
              rw[hLl,hLo] at hfin;have HF:=Lib.hid hfin;clear hNext hO hfin hLo hLl hm3 hm2 hmo
              go_wp2_with fail
              go_ret
              exact⟨_,_,rfl,HF.out,HB5.out⟩
            · have dd2:decide (n≤m3)=false:=decide_eq_false hge
              have hmm:max m3 1=m3:=by omega
              have HNX2:Hid (RankOk (zaJ s) (zce NX) (max m3 1)):=by show RankOk _ _ _;rw[hmm];exact HNX.out
              have hmlt:m<m3:=by omega
              have h31:m3≤200000:=by omega
              have HM3:Hid ((intOf ((((wr.setCell ⟨w.heap.size+1,1,none⟩ (.slice (some ⟨nb,0,none⟩) n n)).setCell ⟨w.heap.size+1,2,none⟩ (.int .i64 (m3:Nat))).cell? ⟨w.heap.size+1,2,none⟩).getD (.int .i64 0))).toNat=m3):=by
                show _=_
                rw[zaa HX5.out 2];rfl
              clear hNext hO hm3 hm2 hmo hmm
              go_wp2_with fail
              go_roundw
              case rel=>exact⟨nb,m3,NX,L,rfl,h31,.inr (by omega),q1,q3,q4,HL2,HNL,HG5,HP5,HX5,HNX2,HB5⟩
              case measure =>
                rw[HM3.out,HM2.out];omega
end Go.Proofs.YtoejfkeofbdalaaGreatDoor
