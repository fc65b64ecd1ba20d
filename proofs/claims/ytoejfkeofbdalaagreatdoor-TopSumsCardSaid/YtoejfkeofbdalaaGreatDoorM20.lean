import Derived.Test.YtoejfkeofbdalaaGreatDoorM19
import Derived.Test.YtoejfkeofbdalaaGreatDoorM16
set_option linter.unusedVariables false
set_option maxRecDepth 100000
set_option maxHeartbeats 8000000
namespace Go.Proofs.YtoejfkeofbdalaaGreatDoor
open Go.RowKit
def zaJ (s:ByteArray):List Nat:=s.data.toList.map (·.toNat)
theorem zaL (s:ByteArray):(zaJ s).length=s.size:=by simp[zaJ]
theorem zfL (s:ByteArray) (i:Nat) (h:i<s.size):(zaJ s)[i]?=some (s[i]).toNat:=by
  unfold zaJ;rw[List.getElem?_map,List.getElem?_eq_getElem (by simpa using h)]
  rfl
theorem zkH (s:ByteArray):∀ x∈zaJ s,x<256:=fun x hx=>by
  simp only[zaJ,List.mem_map] at hx;obtain⟨b,_,rfl⟩:=hx;exact UInt8.toNat_lt b
def nxC (f:Nat→Nat):Array Value:=((List.range 257).map fun c=>Value.int .i64 (f c:Nat)).toArray
theorem zgD (f:Nat→Nat):(nxC f).size=257:=by simp only[nxC,List.size_toArray,List.length_map,List.length_range]
theorem zdR (f:Nat→Nat) (c:Nat) (h:c<257):(nxC f)[c]?=some (.int .i64 (f c:Nat)):=by
  unfold nxC;rw[List.getElem?_toArray,List.getElem?_map,List.getElem?_range h];rfl
theorem zmc (f g:Nat→Nat) (c:Nat) (x:Nat) (h:∀ d,d<257→g d=if d=c then x else f d):(nxC f).setIfInBounds c (.int .i64 (x:Nat))=nxC g:=by
  apply Array.ext_getElem?
  intro i;rw[Array.getElem?_setIfInBounds,zgD]
  by_cases hi:i<257
  · rw[zdR _ _ hi,zdR _ _ hi,h i hi]
    by_cases e:c=i
    · subst e;simp[hi]
    · rw[if_neg e,if_neg (Ne.symm e)]
  · rw[Array.getElem?_eq_none (by rw[zgD];omega),Array.getElem?_eq_none (by rw[zgD];omega)]
    split
    · rw[if_neg (by omega)]
    · rfl
theorem zg0 (f g:Nat→Nat) (h:∀ d,d<257→f d=g d):nxC f=nxC g:=by
  unfold nxC;rw[List.map_congr_left fun c hc=>by rw[h c (List.mem_range.1 hc)]]
theorem zu0:nxC (fun _=>0)=(List.replicate 257 (Value.int .i64 0)).toArray:=by
  apply Array.ext_getElem?
  intro i
  by_cases hi:i<257
  · rw[zdR _ _ hi,List.getElem?_toArray,List.getElem?_replicate,if_pos hi];rfl
  · rw[Array.getElem?_eq_none (by rw[zgD];omega),Array.getElem?_eq_none (by rw[List.size_toArray,List.length_replicate];omega)]
theorem zuX:∀ W,(zeroValue 254).run Tryz.prog W=.ok (.agg (nxC fun _=>0)) W:=fun W=>by rw[zu0];kernel_rfl
def nx1 (L:List Nat) (d:Nat):Nat:=if d=0 then 0 else L.count (d-1)
def nx2 (L:List Nat) (c d:Nat):Nat:=if d≤c then zpq L d else L.count (d-1)
def nx3 (L:List Nat) (i d:Nat):Nat:=zpq L d+(L.take i).count d
theorem zoN (s:ByteArray) (w:World) (hs:s.size≤1000000) :
    Calls Tryz.prog 92 #[.string s] w fun e w'=>∃ q c,e=.returned (.slice q s.size c)∧IsInts w' w'.heap.size (.slice q s.size c) (ints (zeJ (zaJ s)))∧Below w.heap.size w w':=by
  have hz:=zuX;obtain⟨Z,hZ⟩:∃ Z,nxC (fun _=>0)=Z:=⟨_,rfl⟩;rw[hZ] at hz;have HZ:=Lib.hid hZ;have hLl:=zaL s;have HLG:=Lib.hid (zfL s);have HL2:=Lib.hid (zkH s);generalize zaJ s=L at *
  have HLL:=Lib.hid hLl;obtain⟨cz,hcz,hmk⟩:=za2 s.size (by omega)
  have HCZ:=Lib.hid hcz
  have hcl:∀ k x,(L.take k).count x≤s.size:=fun k x=>by
    have h1:(L.take k).count x≤(L.take k).length:=List.count_le_length;have h2:(L.take k).length≤L.length:=by rw[List.length_take];omega
    omega
  have HCL:=Lib.hid hcl;have hpl:∀ c,zpq L c≤s.size:=fun c=>by have:=zpP L c;omega
  have HPL:=Lib.hid hpl;clear hZ hcz hLl hcl hpl
  go_enter Tryz.func92,Tryz.ntmps92
  go_wp2_with fail
  have hZb:(w.alloc (.cells Z 254)).heap[w.heap.size]?=some (.cells Z 254 (0,0)):=zae _ _ _ rfl;have HZB:=Lib.hid hZb;clear hZb
  go_loopw [10] (fun i wr=>∃ k:Nat,k≤s.size∧i=.int .i64 k∧Hid (wr.heap[w.heap.size]?=some (.cells (nxC (nx1 (L.take k))) 254 (0,0)))∧Hid (Below w.heap.size w wr)) (fun i _=>s.size+1-(intOf i).toNat)
  case atStart=>exact⟨0,Nat.zero_le _,rfl,by
    show _=_
    rw[HZB.out,←HZ.out,zg0 (nx1 (L.take 0)) (fun _=>0) (fun d _=>by simp[nx1])],(Below.refl _ _).alloc (Nat.le_refl _) _⟩
  case round =>
    clear HZB;obtain⟨k,hk,rfl,Hh,HB⟩:=hrel
    by_cases hlt:k<s.size
    · have hx:=HLG.out k hlt
      have hxl:=(s[k]).toNat_lt;obtain⟨x,hxx⟩:∃ x,(s[k]).toNat=x:=⟨_,rfl⟩;rw[hxx] at hx hxl;have hc:=(zaa Hh.out (x+1)).trans (zdR _ _ (by omega))
      have hfz:=zac Hh.out (x+1);obtain⟨m,hm⟩:∃ m,nx1 (L.take k) (x+1)=m:=⟨_,rfl⟩;rw[hm] at hc;have hml:m≤s.size:=by rw[←hm];exact HCL.out k x
      have hset:=zaf Hh.out (x+1) (.int .i64 ((m+1:Nat):Int));have hts:L.take (k+1)=L.take k++[x]:=by rw[List.take_add_one,hx];rfl
      rw[zmc (nx1 (L.take k)) (nx1 (L.take (k+1))) (x+1) (m+1) (fun d hd=>by
        rw[hts];unfold nx1 at hm ⊢
        by_cases e:d=x+1
        · subst e
          rw[if_pos rfl,if_neg (by omega),←hm,if_neg (by omega),List.count_append]
          simp
        · rw[if_neg e]
          by_cases e0:d=0
          · rw[if_pos e0,if_pos e0]
          · have h0:List.count (d-1) [x]=0:=by rw[List.count_eq_zero,List.mem_singleton];omega
            rw[if_neg e0,if_neg e0,List.count_append,h0,Nat.add_zero])] at hset
      have HS:=Lib.hid hset;have hyw:Hid (((m+1:Nat):Int)=(m:Int)+1):=by show _=_;omega
      have HB2:Hid (Below w.heap.size w (wr.setCell ⟨w.heap.size,x+1,none⟩ (.int .i64 ((m+1:Nat):Int)))):=HB.out.setCell (p:=⟨w.heap.size,_,none⟩) (Nat.le_refl _) _;clear hset hx hts hm
      go_wp2_with fail
      go_roundw
      case rel=>exact⟨k+1,by omega,by go_num,by rw[←hyw.out];exact HS,by rw[←hyw.out];exact HB2⟩
      case measure=>simp[intOf];omega
    · obtain rfl:k=s.size:=by omega
      have Hh2:Hid (wr.heap[w.heap.size]?=some (.cells (nxC (nx2 L 0)) 254 (0,0))):=by
        show _=_
        rw[Hh.out,zg0 (nx1 (L.take s.size)) (nx2 L 0) (fun d _=>by
          rw[List.take_of_length_le (by rw[HLL.out];exact Nat.le_refl _)]
          unfold nx1 nx2
          by_cases e:d=0
          · subst e;simp[zkO]
          · rw[if_neg e,if_neg (by omega)])]
      clear Hh
      go_wp2_with fail
      go_loopw [23] (fun i wr=>∃ k:Nat,k≤256∧i=.int .i64 k∧Hid (wr.heap[w.heap.size]?=some (.cells (nxC (nx2 L k)) 254 (0,0)))∧Hid (Below w.heap.size w wr)) (fun i _=>257-(intOf i).toNat)
      case atStart=>exact⟨0,Nat.zero_le _,rfl,Hh2,HB⟩
      case round =>
        clear Hh2 HB;obtain⟨k,hk,rfl,Hh,HB⟩:=hrel
        by_cases hlt2:k<256
        · have hc1:=(zaa Hh.out (k+1)).trans (zdR _ _ (by omega))
          have hc2:=(zaa Hh.out k).trans (zdR _ _ (by omega))
          have hfz:=zac Hh.out (k+1);obtain⟨m,hm⟩:∃ m,nx2 L k (k+1)=m:=⟨_,rfl⟩;obtain⟨p,hp⟩:∃ p,nx2 L k k=p:=⟨_,rfl⟩;rw[hm] at hc1;rw[hp] at hc2
          have hmp:m+p=zpq L (k+1):=by
            rw[←hm,←hp,zhK];unfold nx2;rw[if_neg (by omega),if_pos (Nat.le_refl _),Nat.add_sub_cancel]
            omega
          have hmpl:m+p≤s.size:=by rw[hmp];exact HPL.out _
          have hset:=zaf Hh.out (k+1) (.int .i64 ((m+p:Nat):Int))
          rw[zmc (nx2 L k) (nx2 L (k+1)) (k+1) (m+p) (fun d hd=>by
            rw[hmp];unfold nx2
            by_cases e:d=k+1
            · subst e
              rw[if_pos (Nat.le_refl _),if_pos rfl]
            · rw[if_neg e]
              by_cases e0:d≤k
              · rw[if_pos (by omega),if_pos e0]
              · rw[if_neg (by omega),if_neg e0])] at hset
          have HS:=Lib.hid hset;have hyw:Hid (((m+p:Nat):Int)=(m:Int)+(p:Int)):=by show _=_;omega
          have HB2:Hid (Below w.heap.size w (wr.setCell ⟨w.heap.size,k+1,none⟩ (.int .i64 ((m+p:Nat):Int)))):=HB.out.setCell (p:=⟨w.heap.size,_,none⟩) (Nat.le_refl _) _;have hw1:IntKind.i64.wrap ((k:Int)+1)=(k:Int)+1:=IntWalk.i64_in _ (by omega)
          have hw2:IntKind.i64.wrap ((m:Int)+(p:Int))=(m:Int)+(p:Int):=IntWalk.i64_in _ (by omega)
          have hw3:0≤(k:Int)+1:=by omega
          have hw4:(k:Int)+1<257:=by omega
          have hw5:((k:Int)+1).toNat=k+1:=by omega
          have hw6:(k:Int)<257:=by omega
          clear hset hm hp hmp
          go_wp2_with fail
          go_still_tail 9,(by kernel_rfl)
          go_wp2_with fail
          go_roundw
          case rel=>exact⟨k+1,by omega,by go_num,by rw[←hyw.out];exact HS,by rw[←hyw.out];exact HB2.out.drew⟩
          case measure=>simp[intOf];omega
        · obtain rfl:k=256:=by omega
          have Hh3:Hid (wr.heap[w.heap.size]?=some (.cells (nxC (nx3 L 0)) 254 (0,0))):=by
            show _=_
            rw[Hh.out,zg0 (nx2 L 256) (nx3 L 0) (fun d hd=>by
              unfold nx2 nx3;rw[if_pos (by omega)]
              simp)]
          have hz2:=HB.out.size;obtain⟨W2,hW2⟩:∃ W2,wr=W2:=⟨_,rfl⟩;rw[hW2] at Hh3 HB hz2 ⊢;clear Hh hW2
          go_wp2_with fail
          go_loopw [41] (fun i wr=>∃ (k:Nat) (X:List Nat),k≤s.size∧i=.int .i64 k∧Hid (wr.heap[w.heap.size]?=some (.cells (nxC (nx3 L k)) 254 (0,0)))∧Hid (NumRow wr W2.heap.size X)∧Hid (X.length=s.size∧∀ i,i<k→X[zob L i]?=some i)∧Hid (Below w.heap.size w wr)) (fun i _=>s.size+1-(intOf i).toNat)
          case atStart =>
            exact⟨0,List.replicate s.size 0,Nat.zero_le _,rfl,zah _ Hh3.out,⟨cz,zae _ _ _ rfl,by rw[HCZ.out];simp[ints]⟩,⟨by simp,fun i h=>by omega⟩,HB.out.alloc hz2 _⟩
          case round =>
            have hWw:w.heap.size<W2.heap.size:=zab Hh3.out;clear Hh3 HB hmk;obtain⟨k,X,hk,rfl,Hh,HN,HX,HB⟩:=hrel
            by_cases hlt3:k<s.size
            · have hx:=HLG.out k hlt3
              have hxl:=(s[k]).toNat_lt;obtain⟨x,hxx⟩:∃ x,(s[k]).toNat=x:=⟨_,rfl⟩;rw[hxx] at hx hxl;obtain⟨p,hp⟩:∃ p,nx3 L k x=p:=⟨_,rfl⟩
              have hpp:zob L k=p:=by
                rw[←hp];unfold zob nx3;rw[hx];rfl
              have hpl:p<s.size:=by
                rw[←hpp];have:=zra L k (by rw[HLL.out];exact hlt3)
                rw[HLL.out] at this;exact this
              have hc1:=(zaa Hh.out x).trans (zdR _ _ (by omega))
              rw[hp] at hc1;have hc2:=HN.out.cell p (X[p]'(by rw[HX.out.1];exact hpl)) (List.getElem?_eq_getElem _)
              have hf1:=zac Hh.out x;have hf2:=HN.out.frozen p;have hN2:=HN.out.set p k;have hh2:(wr.setCell ⟨W2.heap.size,p,none⟩ (.int .i64 ((k:Nat):Int))).heap[w.heap.size]?=some (.cells (nxC (nx3 L k)) 254 (0,0)):=(Below.heap_setCell _ _ _ _ (by show w.heap.size≠W2.heap.size;omega)).trans Hh.out
              have hc3:=(zaa hh2 x).trans (zdR _ _ (by omega))
              rw[hp] at hc3;have hf3:=zac hh2 x;have hset:=zaf hh2 x (.int .i64 ((p+1:Nat):Int));have hts:L.take (k+1)=L.take k++[x]:=by rw[List.take_add_one,hx];rfl
              rw[zmc (nx3 L k) (nx3 L (k+1)) x (p+1) (fun d hd=>by
                unfold nx3 at hp ⊢;rw[hts,List.count_append]
                by_cases e:d=x
                · subst e
                  rw[if_pos rfl,←hp];simp;omega
                · have h0:List.count d [x]=0:=by rw[List.count_eq_zero,List.mem_singleton];exact e
                  rw[if_neg e,h0];omega)] at hset
              have HS:=Lib.hid hset;have hN3:NumRow ((wr.setCell ⟨W2.heap.size,p,none⟩ (.int .i64 ((k:Nat):Int))).setCell ⟨w.heap.size,x,none⟩ (.int .i64 ((p+1:Nat):Int))) W2.heap.size (X.set p k):=hN2.same (Below.heap_setCell _ _ _ _ (by show W2.heap.size≠w.heap.size;omega))
              have HN3:=Lib.hid hN3
              have HX3:Hid ((X.set p k).length=s.size∧∀ i,i<k+1→(X.set p k)[zob L i]?=some i):=by
                refine⟨by rw[List.length_set];exact HX.out.1,fun i hi=>?_⟩
                by_cases e:i=k
                · subst e
                  rw[hpp,List.getElem?_set_self (by rw[HX.out.1];exact hpl)]
                · have hne:p≠zob L i:=by
                    rw[←hpp];intro h;exact e (zsU L HL2.out i k (by rw[HLL.out];omega) (by rw[HLL.out];omega) h.symm)
                  rw[List.getElem?_set_ne hne];exact HX.out.2 i (by omega)
              have HB3:Hid (Below w.heap.size w ((wr.setCell ⟨W2.heap.size,p,none⟩ (.int .i64 ((k:Nat):Int))).setCell ⟨w.heap.size,x,none⟩ (.int .i64 ((p+1:Nat):Int)))):=(HB.out.setCell (p:=⟨W2.heap.size,_,none⟩) (by show w.heap.size≤W2.heap.size;omega) _).setCell (p:=⟨w.heap.size,_,none⟩) (Nat.le_refl _) _
              have hyw:Hid (((p+1:Nat):Int)=(p:Int)+1):=by show _=_;omega
              clear hset hx hts hp hpp hN2 hN3 hh2
              go_wp2_with fail
              go_roundw
              case rel=>exact⟨k+1,X.set p k,by omega,by go_num,by rw[←hyw.out];exact HS,by rw[←hyw.out];exact HN3,HX3,by rw[←hyw.out];exact HB3⟩
              case measure=>simp[intOf];omega
            · obtain rfl:k=s.size:=by omega
              have hXe:X=zeJ L:=zq0 L HL2.out X (by rw[HX.out.1,HLL.out]) (fun i hi=>HX.out.2 i (by rw[HLL.out] at hi;exact hi))
              have hXl:=HX.out.1;subst hXe;have hI:=HN.out.ints s.size s.size (Nat.le_refl _) (by simp[maxLen];omega) (by rw[hXl];exact Nat.le_refl _)
              rw[List.take_of_length_le (by rw[hXl];exact Nat.le_refl _)] at hI
              have HI:=Lib.hid hI;clear hI hXl
              go_wp2_with fail
              go_ret
              exact⟨_,_,rfl,HI.out,HB.out⟩
def zfD (L:List Nat) (g:Nat):List UInt8:=(List.range L.length).map fun k=>UInt8.ofNat (L[zd1 (zeJ L) (k+1) g]?.getD 0)
theorem znz (L:List Nat) (hL:∀ x∈L,x<256):∀ k g,g<L.length→zd1 (zeJ L) k g<L.length
  | 0,g,h=>h
  | k+1,g,h=>znz L hL k _ (zlP L hL g h)
theorem zkQ (s:ByteArray) (g:Nat) (w:World) (hs:s.size≤1000000) (hg:g<max s.size 1) :
    Calls Tryz.prog 30 #[.string s,.int .i64 (g:Nat)] w fun e w'=>e=.returned (.tuple #[.string ⟨(zfD (zaJ s) g).toArray⟩,.int .i64 0])∧Below w.heap.size w w':=by
  have CV:=Lib.hid (zoN s w hs);have hLl:=zaL s;have HLG:=Lib.hid (zfL s);have HL2:=Lib.hid (zkH s);generalize zaJ s=L at *
  have HLL:=Lib.hid hLl;obtain⟨cz,hcz,hmk⟩:=zeo s.size (by omega)
  have HCZ:=Lib.hid hcz;obtain⟨mx,hmx⟩:∃ mx,max s.size 1=mx:=⟨_,rfl⟩;have hmx2:(if (s.size:Int)<1 then 1 else (s.size:Int))=(mx:Int):=by rw[←hmx];split <;> omega
  have hgs:Hid (0<s.size→g<s.size):=fun h=>by omega
  rw[hmx] at hg;have d1:decide ((g:Int)<0)=false:=decide_eq_false (by omega)
  have d2:decide ((mx:Int)≤(g:Int))=false:=decide_eq_false (by omega)
  have d3:decide (mx≤g)=false:=decide_eq_false (by omega)
  clear hLl hcz hmx
  go_enter Tryz.func30,Tryz.ntmps30
  go_wp2_with fail
  refine CV.out.mono ?_;rintro e w1 ⟨q,c,rfl,hv,hB⟩;have HV:=Lib.hid hv;have HB1:=Lib.hid hB;have hz1:=hB.size;clear hv hB CV
  go_wp2_with fail
  go_loopw [8,27] (fun av iv wr=>∃ k a:Nat,k≤s.size∧iv=.int .i64 k∧av=.int .i64 (a:Nat)∧Hid (a=zd1 (zeJ L) k g)∧Hid (∃ U,ByteRow wr w1.heap.size U∧U.length=s.size∧U.take k=(zfD L g).take k)∧Hid (Below w1.heap.size w1 wr)) (fun _ iv _=>s.size+1-(intOf iv).toNat)
  case atStart=>exact⟨0,g,Nat.zero_le _,rfl,rfl,rfl,⟨List.replicate s.size 0,⟨cz,zae _ _ _ rfl,HCZ.out⟩,by simp,by simp⟩,(Below.refl _ _).alloc (Nat.le_refl _) _⟩
  case round =>
    clear hmk;obtain⟨k,a,hk,rfl,rfl,HA,HU,HB⟩:=hrel;obtain⟨U,hU,hUl,hUt⟩:=HU.out;have HU1:=Lib.hid hU;have HUL:=Lib.hid hUl;have HUT:=Lib.hid hUt;clear hU hUl hUt HU
    by_cases hlt:k<s.size
    · have hal:a<s.size:=by
        rw[HA.out,←HLL.out];exact znz L HL2.out k g (by rw[HLL.out];exact hgs.out (by omega))
      have hvl:=zdl L HL2.out;obtain⟨b,hb⟩:∃ b,(zeJ L)[a]?=some b:=⟨_,List.getElem?_eq_getElem (by rw[hvl,HLL.out];exact hal)⟩
      have hbl:b<s.size:=by
        have:=(zei L HL2.out b).1 (List.mem_of_getElem? hb);rw[HLL.out] at this;exact this
      obtain⟨g1,o1,hq,hg1,hx1⟩:=HV.out.at a (by rw[zad,hvl,HLL.out];exact hal)
      subst hq;rw[show (ints (zeJ L))[a]?.getD 0=(b:Int) by simp[ints,hb]] at hx1
      have hx2:=(HB.out.cell (p:=⟨g1,o1+a,none⟩) hg1).trans hx1;have hfz:=HU1.out.frozen k;have hcl:=HU1.out.cell k (U[k]'(by rw[HUL.out];exact hlt)) (List.getElem?_eq_getElem _)
      have hset:=HU1.out.set k (s[b]);have HS:=Lib.hid hset;have HB2:Hid (Below w1.heap.size w1 (wr.setCell ⟨w1.heap.size,k,none⟩ (.int .u8 ((s[b]).toNat:Int)))):=HB.out.setCell (p:=⟨w1.heap.size,_,none⟩) (Nat.le_refl _) _
      have HA2:Hid (b=zd1 (zeJ L) (k+1) g):=by
        show _=_
        rw[zhg,←HA.out,hb];rfl
      have HT2:Hid ((U.set k (s[b])).take (k+1)=(zfD L g).take (k+1)):=by
        show _=_
        have h1:(U.set k (s[b]))[k]?=some (s[b]):=List.getElem?_set_self (by rw[HUL.out];exact hlt)
        rw[List.take_add_one,List.take_add_one,h1,List.take_set_of_le (Nat.le_refl _),HUT.out];congr 1
        unfold zfD;rw[List.getElem?_map,List.getElem?_range (by rw[HLL.out];exact hlt)]
        simp only[Option.map_some];rw[←HA2.out];simp[HLG.out b hbl]
      have HL3:Hid ((U.set k (s[b])).length=s.size):=by show _=_;rw[List.length_set];exact HUL.out
      clear hset hx1 hb hvl
      go_wp2_with fail
      go_roundw
      case rel=>exact⟨k+1,b,by omega,by go_num,rfl,HA2,⟨_,HS.out,HL3.out,HT2.out⟩,HB2⟩
      case measure=>simp[intOf];omega
    · obtain rfl:k=s.size:=by omega
      have hbl:(zfD L g).length=s.size:=by simp[zfD,HLL.out]
      have hUe:U=zfD L g:=by
        have:=HUT.out;rw[List.take_of_length_le (by rw[HUL.out];exact Nat.le_refl _),List.take_of_length_le (by omega)] at this
        exact this
      subst hUe;have hcv:=zbb _ (HU1.out.own (base:=0) (Nat.zero_le _) hbl (by simp[maxLen];omega))
      go_wp2_with fail
      go_ret2
      exact⟨rfl,HB1.out.trans (HB.out.mono hz1)⟩
end Go.Proofs.YtoejfkeofbdalaaGreatDoor
