import Derived.Test.YtoejfkeofbdalaaGreatDoorM08
import Derived.Test.YtoejfkeofbdalaaGreatDoorM07
import Derived.BigRegion
set_option linter.unusedVariables false
set_option maxRecDepth 100000
set_option maxHeartbeats 8000000
namespace Go.Proofs.YtoejfkeofbdalaaGreatDoor
open Go.RowKit
def txt (l:List Bool):ByteArray:=⟨(B.pack l).toArray⟩
theorem ztk (l:List Bool):(txt l).data.toList=B.pack l:=rfl
theorem zgO (l:List Bool):(txt l).size=(l.length+7) / 8:=by
  rw[←B.length_pack];rfl
theorem zhA (l:List Bool):zbQ (B.pack l) (l.length:Nat)=true:=by
  have:=B.right_pack l;unfold zbQ;simp only[Bool.and_eq_true,decide_eq_true_eq];refine⟨⟨by omega,by rw[Int.toNat_natCast];exact this.1⟩,fun i hi hn=>this.2 i (by omega) hi⟩
theorem zpB (l:List Bool) (v:Nat) (n:Nat) (hn:n≤64):zrM (B.pack l) (l.length:Nat) v n=some (l++B.low v n):=by
  unfold zrM;rw[zhA,if_pos rfl,if_pos ⟨by omega,by omega⟩,Int.toNat_natCast,Int.toNat_natCast,B.slice_pack]
theorem zhw (s:List UInt8) (a n:Nat) (h:a+n≤8*s.length) (hn:n≤64):zeO s a n=0:=by
  unfold zeO;rw[if_neg (by omega),if_neg (by omega)]
theorem zgY (s:List UInt8) (a n:Nat) (h:a+n≤8*s.length) (hn:n≤64):zd9 s a n=(B.num (B.slice s a n):Nat):=by
  unfold zd9;rw[if_neg (by omega),if_neg (by omega),Int.toNat_natCast,Int.toNat_natCast]
def zaC (l:List Bool):zmY:=(txt l,(l.length:Nat))
theorem zjl (ls:List (List Bool)):∀ l:List Bool,zb5 l (ls.map zaC)=some (l++ls.flatten):=by
  induction ls with
  | nil=>intro l;simp[zb5]
  | cons m ls ih =>
    intro l;rw[List.map_cons];unfold zb5;rw[show (zaC m).1.data.toList=B.pack m from rfl,show (zaC m).2=((m.length:Nat):Int) from rfl,zhA,if_pos rfl,Int.toNat_natCast,B.slice_pack,ih]
    simp
theorem zij (ls:List (List Bool)):zbV (ls.map zaC)≤ls.flatten.length+8*ls.length:=by
  induction ls with
  | nil=>simp[zbV]
  | cons m ls ih =>
    rw[List.map_cons];unfold zbV;rw[show (zaC m).1.size=(m.length+7) / 8 from zgO m]
    simp only[List.flatten_cons,List.length_append,List.length_cons];omega
theorem zjm (ls:List (List Bool)) (h:ls.flatten.length<9223372036854775807):zl5 (ls.map zaC):=by
  intro p hp;simp only[List.mem_map] at hp;obtain⟨l,hl,rfl⟩:=hp
  have:l.length≤ls.flatten.length:=by
    clear h
    induction ls with
    | nil=>simp at hl
    | cons m ls ih =>
      simp only[List.flatten_cons,List.length_append];rcases List.mem_cons.1 hl with rfl | h
      · omega
      · have:=ih h;omega
  simp only[zaC];omega
theorem ztb (k:Nat):((2:Int) ^ k)=((2 ^ k:Nat):Int):=by push_cast;rfl
abbrev bv (l:List Bool):Value:=.agg #[.string (txt l),.int .i64 (l.length:Nat)]
theorem ztN (w:World) (l:List Bool) (v n:Nat) (hl:l.length<1099511627776) (hv:v<18446744073709551616) (hn:n≤64) :
    Calls Tryz.prog 19 #[.agg #[.string (txt l),.int .i64 (l.length:Nat)],.int .u64 v,.int .i64 n] w fun e w' =>
      e=.returned (.tuple #[.agg #[.string (txt (l++B.low v n)),.int .i64 ((l++B.low v n).length:Nat)],.int .i64 0])∧Below w.heap.size w w':=by
  have hs:=zgO l;refine (zun w (txt l) (l.length:Nat) v n (by omega) hv (by omega) (by omega)).mono fun e w' h=>?_
  rw[ztk,zpB _ _ _ hn] at h;exact h
theorem zvc (w:World) (v:Value) (ls:List (List Bool)) (hv:zeB w w.heap.size v (ls.map zaC)) (hl:ls.flatten.length+8*ls.length<1099511627776) :
    Calls Tryz.prog 20 #[v] w fun e w' =>
      e=.returned (.tuple #[.agg #[.string (txt ls.flatten),.int .i64 (ls.flatten.length:Nat)],.int .i64 0])∧Below w.heap.size w w':=by
  have hb:=zij ls;refine (zul w v _ hv (zjm ls (by omega)) (by omega)).mono fun e w' h=>?_
  rw[zjl,List.nil_append] at h;exact h
theorem zkE (w:World) (v:Value) (ls:List (List Bool)) (r:List Bool) (hr:ls.flatten=r) (hv:zeB w w.heap.size v (ls.map zaC)) (hl:r.length+8*ls.length<1099511627776) :
    Calls Tryz.prog 20 #[v] w fun e w' =>
      e=.returned (.tuple #[.agg #[.string (txt r),.int .i64 (r.length:Nat)],.int .i64 0])∧Below w.heap.size w w':=by
  subst hr;exact zvc w v ls hv hl
theorem ziT (w:World) (l:List Bool) (v n:Nat) (r:List Bool) (hr:l++B.low v n=r) (hl:l.length<1099511627776) (hv:v<18446744073709551616) (hn:n≤64) :
    Calls Tryz.prog 19 #[.agg #[.string (txt l),.int .i64 (l.length:Nat)],.int .u64 v,.int .i64 n] w fun e w' =>
      e=.returned (.tuple #[.agg #[.string (txt r),.int .i64 (r.length:Nat)],.int .i64 0])∧Below w.heap.size w w':=by
  subst hr;exact ztN w l v n hl hv hn
theorem zg5 (w:World) (v n:Nat) (r:List Bool) (hr:B.low v n=r) (hv:v<18446744073709551616) (hn:n≤64) :
    Calls Tryz.prog 19 #[.agg #[.string ⟨#[]⟩,.int .i64 0],.int .u64 v,.int .i64 n] w fun e w' =>
      e=.returned (.tuple #[.agg #[.string (txt r),.int .i64 (r.length:Nat)],.int .i64 0])∧Below w.heap.size w w':=by
  subst hr;exact ztN w [] v n (by simp) hv hn
variable {W c c':World}
def SRow (w:World) (g:Nat) (L:List Nat) (E:List Value):Prop:=∃ cs,w.heap[g]?=some (.cells cs 3 (0,0))∧cs.toList=zaj (ints L)++E
section
variable {w w':World} {g:Nat} {L:List Nat} {E:List Value}
theorem SRow.cell (h:SRow w g L E) (x p:Nat) (hx:L[x]?=some p):w.cell? ⟨g,x,none⟩=some (.int .i64 (p:Int)):=by
  obtain⟨cs,h1,h2⟩:=h;have hl:=(List.getElem?_eq_some_iff.1 hx).1;rw[zaa h1,←Array.getElem?_toList,h2,List.getElem?_append_left (by rw[zak,zad];exact hl),getElem?_intCells]
  simp[ints,hx]
theorem SRow.frozen (h:SRow w g L E) (x:Nat):w.frozen? ⟨g,x,none⟩=false:=by
  obtain⟨cs,h1,h2⟩:=h;exact zac h1 x
theorem SRow.lt (h:SRow w g L E):g<w.heap.size:=by
  obtain⟨cs,h1,h2⟩:=h;exact zab h1
theorem SRow.same (h:SRow w g L E) (hb:w'.heap[g]?=w.heap[g]?):SRow w' g L E:=by
  obtain⟨cs,h1,h2⟩:=h;exact⟨cs,hb.trans h1,h2⟩
theorem SRow.below (h:SRow w g L E) (hB:Below w.heap.size w w'):SRow w' g L E:=h.same (hB.block g h.lt)
theorem SRow.set (h:SRow w g L E) (x p:Nat) (hx:x<L.length):SRow (w.setCell ⟨g,x,none⟩ (.int .i64 (p:Int))) g (L.set x p) E:=by
  obtain⟨cs,h1,h2⟩:=h;refine⟨_,zaf h1 x _,?_⟩;have h3:zaj (ints (L.set x p))=(zaj (ints L)).set x (.int .i64 (p:Int)):=by simp[zaj,ints,List.map_set]
  rw[Array.toList_setIfInBounds,h2,h3,List.set_append,if_pos (by rw[zak,zad];exact hx)]
theorem SRow.ints (h:SRow w g L E) (c:Nat) (hn:L.length≤c) (hc:c≤maxLen):IsInts w w.heap.size (.slice (some ⟨g,0,none⟩) L.length c) (Go.Proofs.YtoejfkeofbdalaaGreatDoor.ints L):=by
  have hl:(Go.Proofs.YtoejfkeofbdalaaGreatDoor.ints L).length=L.length:=zad L;refine⟨by rw[zak,hl];omega,_,c,by rw[hl],by rw[hl];exact hn,hc,fun _=>⟨g,0,rfl,h.lt,fun i u hu=>?_⟩⟩
  rw[getElem?_intCells] at hu;simp only[Go.Proofs.YtoejfkeofbdalaaGreatDoor.ints,List.getElem?_map] at hu;cases hx:L[i]? with
  | none=>rw[hx] at hu;simp at hu
  | some p =>
    rw[hx] at hu;rw[Nat.zero_add,h.cell i p hx];simpa using hu
theorem SRow.swap (h:SRow w g L E) (x y p q:Nat) (hx:x<L.length) (hy:y<L.length) :
    SRow (((w.setCell ⟨g,x,none⟩ (.int .i64 (p:Int))).setCell ⟨g,y,none⟩ (.int .i64 (q:Int))).drew) g ((L.set x p).set y q) E :=
  (((h.set x p hx).set y q (by simpa using hy))).same rfl
theorem zhQ {w0:World} (h:Only g w0 w) (x y:Nat) (u v:Value):Only g w0 (((w.setCell ⟨g,x,none⟩ u).setCell ⟨g,y,none⟩ v).drew):=by
  have:=(h.set x u).set y v;exact⟨this.os,this.tape,this.output,this.size,this.block⟩
end
theorem zwh (w:World) (g n cap:Nat) (vf:Value) (P A Q B S:List Nat) (E:List Value) (a b k:Nat) (hr:SRow w g (P++(A++(Q++(B++S)))) E) (hA:A.length=k) (hB:B.length=k)
    (ha:P.length=a) (hb:a+k+Q.length=b) (hn:(P++(A++(Q++(B++S)))).length=n) (hn1:n≤1000000) :
    Calls Tryz.prog 307 #[.slice (some ⟨g,0,none⟩) n cap,.int .i64 a,.int .i64 b,.int .i64 k,vf] w fun e w'=>e=.returned (.tuple #[])∧SRow w' g (P++(B++(Q++(A++S)))) E∧Only g w w':=by
  have HR:=Lib.hid hr;have HA:=Lib.hid hA;have HB:=Lib.hid hB;have HP:=Lib.hid ha;have hN:a+k+Q.length+k+S.length=n:=by rw[←hn];simp;omega
  have hbn:b+k≤n:=by omega
  have hab:a+k≤b:=by omega
  have HQ:=Lib.hid hb;have HN:=Lib.hid hn;clear hr hA hB ha hb hn hN
  go_enter Tryz.func307,Tryz.ntmps307
  go_wp2_with fail
  go_loopw [10] (fun iv wr=>∃ (i:Nat) (L:List Nat),i≤k∧iv=.int .i64 i∧Hid (Swapped P A Q B S i L)∧Hid (SRow wr g L E)∧Hid (Only g w wr)) (fun iv _=>k+1-(intOf iv).toNat)
  case atStart=>exact⟨0,_,Nat.zero_le _,rfl,Swapped.start P A Q B S,HR.out,Only.refl _ _⟩
  case round =>
    obtain⟨i,L,hi,rfl,HS,HR1,HO⟩:=hrel
    by_cases hlt:i<k
    · have hLl:L.length=n:=by rw[HS.out.length,←HN.out];simp;omega
      obtain⟨x,y,hx,hy,hS2⟩:=HS.out.step (by rw[HA.out];exact hlt) (by rw[HB.out];exact hlt) (p:=a+i) (q:=b+i) (by rw[HP.out]) (by rw[HP.out,HA.out,HQ.out])
      have cx:=HR1.out.cell _ _ hx;have cy:=HR1.out.cell _ _ hy;have fx:=HR1.out.frozen (a+i);have fy:=HR1.out.frozen (b+i);have HR2:=Lib.hid (HR1.out.swap (a+i) (b+i) y x (by omega) (by omega))
      have HO2:=Lib.hid (zhQ HO.out (a+i) (b+i) (.int .i64 (y:Int)) (.int .i64 (x:Int)));have HS2:=Lib.hid hS2;have m1:¬ a+i=b+i:=by omega
      have m2:¬ b+i=a+i:=by omega
      have w1:IntKind.i64.wrap ((a:Int)+(i:Int))=((a+i:Nat):Int):=by rw[IntWalk.i64_in _ (by omega)];omega
      have w2:IntKind.i64.wrap ((b:Int)+(i:Int))=((b+i:Nat):Int):=by rw[IntWalk.i64_in _ (by omega)];omega
      have l1:a+i<n:=by omega
      have l2:b+i<n:=by omega
      clear HS HR1 HO HR hS2 hx hy;generalize a+i=p at *
      generalize b+i=q at *
      go_wp2_with fail
      go_region
      go_wp2_with fail
      go_roundw
      case rel=>exact⟨i+1,_,by omega,by go_num,HS2,HR2,HO2⟩
      case measure=>simp[intOf];omega
    · obtain rfl:i=k:=by omega
      have he:=HS.out.end_ HA.out HB.out;subst he
      go_wp2_with fail
      exact bodyPost_end (results_none rfl _ _ _) rfl ⟨rfl,HR1.out,HO.out⟩
theorem zoD (w:World) (g n cap:Nat) (vf:Value) (X U V Y:List Nat) (E:List Value) (a m b:Nat) (hr:SRow w g (X++(U++(V++Y))) E)
    (ha:X.length=a) (hm:a+U.length=m) (hb:m+V.length=b) (hU:0<U.length) (hV:0<V.length) (hn:(X++(U++(V++Y))).length=n) (hn1:n≤1000000) :
    Calls Tryz.prog 279 #[.slice (some ⟨g,0,none⟩) n cap,.int .i64 a,.int .i64 m,.int .i64 b,vf] w fun e w'=>e=.returned (.tuple #[])∧SRow w' g (X++(V++(U++Y))) E∧Only g w w':=by
  have HR:=Lib.hid hr;have HT:Hid (Turning (X++(V++(U++Y))) m (m-a) (b-m) (X++(U++(V++Y)))):=⟨X,U,V,Y,rfl,by omega,by omega,by omega,rfl⟩
  have hbn:b≤n:=by rw[←hn];simp;omega
  have ham:a<m:=by omega
  have hmb:m<b:=by omega
  have hFl:(X++(V++(U++Y))).length=n:=by rw[←hn];simp;omega
  have w1:IntKind.i64.wrap ((m:Int)-(a:Int))=((m-a:Nat):Int):=by rw[IntWalk.i64_in _ (by omega)];omega
  have w2:IntKind.i64.wrap ((b:Int)-(m:Int))=((b-m:Nat):Int):=by rw[IntWalk.i64_in _ (by omega)];omega
  obtain⟨i0,hi0⟩:∃ i0,m-a=i0:=⟨_,rfl⟩;obtain⟨j0,hj0⟩:∃ j0,b-m=j0:=⟨_,rfl⟩;have h1:0<i0:=by omega
  have h2:0<j0:=by omega
  rw[hi0,hj0] at HT;rw[hi0] at w1;rw[hj0] at w2;generalize X++(V++(U++Y))=F at *
  generalize X++(U++(V++Y))=L0 at *
  clear hr ha hm hb hU hV hi0 hj0
  go_enter Tryz.func279,Tryz.ntmps279
  go_wp2_with fail
  go_loopw [10,11] (fun iv jv wr=>∃ (i j:Nat) (L:List Nat),iv=.int .i64 i∧jv=.int .i64 j∧0<i∧0<j∧Hid (Turning F m i j L)∧Hid (SRow wr g L E)∧Hid (Only g w wr)) (fun iv jv _=>(intOf iv).toNat+(intOf jv).toNat)
  case atStart=>exact⟨i0,j0,L0,rfl,rfl,h1,h2,HT,HR.out,Only.refl _ _⟩
  case round =>
    clear HT HR w1 w2;obtain⟨i,j,L,rfl,rfl,hi,hj,HT,HR,HO⟩:=hrel;have hL:=HT.out.length;rw[hFl] at hL;have hLn:=hL.1;have him:=hL.2.1;have hmj:=hL.2.2;rw[hLn] at hmj;clear hL;have w3:IntKind.i64.wrap ((m:Int)-(i:Int))=((m-i:Nat):Int):=by rw[IntWalk.i64_in _ (by omega)];omega
    rcases Nat.lt_trichotomy i j with hij | hij | hij
    · obtain⟨P,A,Q,B,S,rfl,hP,hA,hQ,hB,_,hT2⟩:=HT.out.less hij
      have CS:Hid (Calls Tryz.prog 307 #[.slice (some ⟨g,0,none⟩) n cap,.int .i64 ((m-i:Nat):Int),.int .i64 ((m+j-i:Nat):Int),.int .i64 (i:Int),vf] wr fun e w'=>e=.returned (.tuple #[])∧SRow w' g (P++(B++(Q++(A++S)))) E∧Only g wr w') :=
        zwh wr g n cap vf P A Q B S E (m-i) (m+j-i) i HR.out hA hB hP (by omega) hLn hn1
      have HT2:=Lib.hid hT2;have w4:IntKind.i64.wrap ((m:Int)+(j:Int))=(m:Int)+(j:Int):=IntWalk.i64_in _ (by omega)
      have w5:IntKind.i64.wrap ((m:Int)+(j:Int)-(i:Int))=((m+j-i:Nat):Int):=by rw[IntWalk.i64_in _ (by omega)];omega
      have w6:IntKind.i64.wrap ((j:Int)-(i:Int))=((j-i:Nat):Int):=by rw[IntWalk.i64_in _ (by omega)];omega
      have d1:((i:Int) == (j:Int))=false:=by simp;omega
      have d2:decide ((j:Int)<(i:Int))=false:=decide_eq_false (by omega)
      have m1:(i+(j-i))<i+j:=by omega
      have m2:0<j-i:=by omega
      clear HR hT2 hA hB hP hQ hLn;generalize m-i=mi at *
      generalize m+j-i=mj at *
      generalize j-i=ji at *
      go_wp2_with fail
      refine CS.out.mono ?_;rintro e w' ⟨rfl,hr',ho'⟩;have HR2:=Lib.hid hr';have HO2:=Lib.hid (HO.out.trans ho');clear hr' ho' CS HO
      go_wp2_with fail
      go_roundw
      case rel=>exact⟨i,ji,_,rfl,rfl,hi,m2,HT2,HR2,HO2⟩
      case measure=>simp[intOf];omega
    · subst hij
      obtain⟨P,A,B,S,rfl,hP,hA,hB,_,hF⟩:=HT.out.last
      have CS:Hid (Calls Tryz.prog 307 #[.slice (some ⟨g,0,none⟩) n cap,.int .i64 ((m-i:Nat):Int),.int .i64 (m:Int),.int .i64 (i:Int),vf] wr fun e w'=>e=.returned (.tuple #[])∧SRow w' g (P++(B++([]++(A++S)))) E∧Only g wr w') :=
        zwh wr g n cap vf P A [] B S E (m-i) m i HR.out hA hB hP (by simp;omega) hLn hn1
      rw[←hF] at CS;have d1:((i:Int) == (i:Int))=true:=by simp
      clear HR hA hB hP hLn hF;generalize m-i=mi at *
      go_wp2_with fail
      refine CS.out.mono ?_;rintro e w' ⟨rfl,hr',ho'⟩;have HR2:=Lib.hid hr';have HO2:=Lib.hid (HO.out.trans ho');clear hr' ho' CS HO
      go_wp2_with fail
      exact bodyPost_end (results_none rfl _ _ _) rfl ⟨rfl,HR2.out,HO2.out⟩
    · obtain⟨P,A,Q,B,S,rfl,hP,hA,hQ,hB,_,hT2⟩:=HT.out.more hij
      have CS:Hid (Calls Tryz.prog 307 #[.slice (some ⟨g,0,none⟩) n cap,.int .i64 ((m-i:Nat):Int),.int .i64 (m:Int),.int .i64 (j:Int),vf] wr fun e w'=>e=.returned (.tuple #[])∧SRow w' g (P++(B++(Q++(A++S)))) E∧Only g wr w') :=
        zwh wr g n cap vf P A Q B S E (m-i) m j HR.out hA hB hP (by omega) hLn hn1
      have HT2:=Lib.hid hT2;have w6:IntKind.i64.wrap ((i:Int)-(j:Int))=((i-j:Nat):Int):=by rw[IntWalk.i64_in _ (by omega)];omega
      have d1:((i:Int) == (j:Int))=false:=by simp;omega
      have d2:decide ((j:Int)<(i:Int))=true:=decide_eq_true (by omega)
      have m1:((i-j)+j)<i+j:=by omega
      have m2:0<i-j:=by omega
      clear HR hT2 hA hB hP hQ hLn;generalize m-i=mi at *
      generalize i-j=ij at *
      go_wp2_with fail
      refine CS.out.mono ?_;rintro e w' ⟨rfl,hr',ho'⟩;have HR2:=Lib.hid hr';have HO2:=Lib.hid (HO.out.trans ho');clear hr' ho' CS HO
      go_wp2_with fail
      go_roundw
      case rel=>exact⟨ij,j,_,rfl,rfl,m2,hj,HT2,HR2,HO2⟩
      case measure=>simp[intOf];omega
end Go.Proofs.YtoejfkeofbdalaaGreatDoor
namespace Go.Proofs.YtoejfkeofbdalaaGreatDoor
def zbE:List UInt8→Nat
  | []=>0
  | c::l=>min 255 (1+(l.takeWhile (· == c)).length)
theorem zcr (c:UInt8) (l:List UInt8):zbE (c::l)=min 255 (1+(l.takeWhile (· == c)).length):=rfl
theorem zbW {l:List UInt8} (h:l≠[]):1≤zbE l:=by
  cases l with
  | nil=>exact absurd rfl h
  | cons c l=>rw[zcr];omega
theorem zlg (p:UInt8→Bool) (l:List UInt8):(l.takeWhile p).length≤l.length:=(List.takeWhile_prefix p).length_le
theorem zeF (l:List UInt8):zbE l≤l.length:=by
  cases l with
  | nil=>exact Nat.le_refl _
  | cons c l =>
    have:=zlg (· == c) l;rw[zcr,List.length_cons];omega
theorem zjL (l:List UInt8):zbE l≤255:=by
  cases l with
  | nil=>exact Nat.zero_le _
  | cons c l=>rw[zcr];omega
def zaz (l:List UInt8):List (List UInt8) :=
  match h:l with
  | []=>[]
  | c::t=>(c::t).take (zbE (c::t))::zaz ((c::t).drop (zbE (c::t)))
termination_by l.length
decreasing_by
  have:=zbW (l:=c::t) (by simp)
  simp only[List.length_drop,List.length_cons];omega
theorem zbu:zaz []=[]:=by rw[zaz]
theorem zbA {l:List UInt8} (h:l≠[]):zaz l=l.take (zbE l)::zaz (l.drop (zbE l)):=by
  cases l with
  | nil=>exact absurd rfl h
  | cons c t=>rw[zaz]
def zcU (p:List UInt8):List UInt8:=p.take 4++if 4≤p.length then [UInt8.ofNat (p.length-4)] else []
def za5 (l:List UInt8):List UInt8:=(zaz l).flatMap zcU
def zba (n:Nat):Nat:=if n<4 then n else 5
def zaU (l:List UInt8):Nat:=((zaz l).map fun p=>zba p.length).sum
theorem zgd (p:List UInt8):(zcU p).length=zba p.length:=by
  unfold zcU zba;rw[List.length_append,List.length_take];split <;> rename_i h
  · rw[if_neg (by omega),List.length_singleton];omega
  · rw[if_pos (by omega),List.length_nil];omega
theorem zcC (l:List UInt8):(za5 l).length=zaU l:=by
  unfold za5 zaU;rw[List.length_flatMap];congr 1
  exact List.map_congr_left fun p _=>zgd p
def exF:List UInt8→Nat→UInt8→List UInt8 × Nat
  | [],run,_=>([],run)
  | b::t,run,last =>
    if run=4 then (List.replicate b.toNat last++(exF t 0 last).1,(exF t 0 last).2)
    else if 0<run∧b=last then (last::(exF t (run+1) last).1,(exF t (run+1) last).2)
    else (b::(exF t 1 b).1,(exF t 1 b).2)
theorem zre (p:UInt8→Bool) (l:List UInt8):∀ x r,l.dropWhile p=x::r→p x=false:=by
  induction l with
  | nil=>intro x r h;simp at h
  | cons a l ih =>
    intro x r h;rw[List.dropWhile_cons] at h;split at h
    · exact ih x r h
    · rename_i hp
      injection h with h1 h2
      subst h1;simpa using hp
theorem zjU (l:List UInt8):∃ c,l.take (zbE l)=List.replicate (zbE l) c∧(zbE l<255→∀ d,(l.drop (zbE l))[0]?=some d→d≠c):=by
  cases l with
  | nil=>exact⟨0,rfl,fun _ d h=>by simp at h⟩
  | cons c t =>
    refine⟨c,?_,?_⟩
    · apply List.ext_getElem?
      intro i
      by_cases hi:i<zbE (c::t)
      · rw[List.getElem?_take_of_lt hi,List.getElem?_replicate,if_pos hi]
        cases i with
        | zero=>rfl
        | succ i =>
          rw[zcr] at hi;have h1:i<(t.takeWhile (· == c)).length:=by omega
          have h2:=List.getElem_mem h1;have h3:=List.all_eq_true.1 List.all_takeWhile _ h2;rw[List.getElem?_cons_succ];obtain⟨r,hr⟩:=List.takeWhile_prefix (p:=(· == c)) (l:=t);rw[←hr,List.getElem?_append_left h1,List.getElem?_eq_getElem h1];rw[beq_iff_eq] at h3;rw[h3]
      · rw[List.getElem?_eq_none (by rw[List.length_take];omega),List.getElem?_replicate,if_neg hi]
    · intro h255 d hd
      rw[List.getElem?_drop,Nat.add_zero] at hd;have hr:zbE (c::t)=1+(t.takeWhile (· == c)).length:=by rw[zcr] at h255 ⊢;omega
      rw[hr,Nat.add_comm,List.getElem?_cons_succ] at hd;intro e;subst e;have h4:t=t.takeWhile (· == d)++t.dropWhile (· == d):=(List.takeWhile_append_dropWhile).symm;have h6:=zre (· == d) t;obtain⟨tw,htw⟩:∃ x,t.takeWhile (· == d)=x:=⟨_,rfl⟩;obtain⟨dw,hdw⟩:∃ x,t.dropWhile (· == d)=x:=⟨_,rfl⟩;rw[htw] at hd h4;rw[hdw] at h4 h6;rw[h4,List.getElem?_append_right (Nat.le_refl _),Nat.sub_self] at hd;cases dw with
      | nil=>simp at hd
      | cons x r =>
        have h5:x=d:=by simpa using hd
        have:=h6 x r rfl;simp[h5] at this
theorem zju (c:UInt8):∀ k run (rest:List UInt8),0<run→run+k≤4→exF (List.replicate k c++rest) run c=(List.replicate k c++(exF rest (run+k) c).1,(exF rest (run+k) c).2)
  | 0,run,rest,_,_=>rfl
  | k+1,run,rest,h0,h=>by
    rw[List.replicate_succ,List.cons_append,exF,if_neg (by omega),if_pos ⟨h0,rfl⟩,zju c k (run+1) rest (by omega) (by omega)]
    rw[show run+1+k=run+(k+1) by omega]
    rfl
theorem zrs (c last:UInt8) (n run:Nat) (rest:List UInt8) (hn:1≤n) (hn2:n≤255) (hr:run=0∨run<4∧last≠c) :
    exF (zcU (List.replicate n c)++rest) run last=(List.replicate n c++(exF rest (if n<4 then n else 0) c).1,(exF rest (if n<4 then n else 0) c).2):=by
  have h1:∀ r:List UInt8,exF (c::r) run last=(c::(exF r 1 c).1,(exF r 1 c).2):=fun r=>by
    rw[exF,if_neg (by omega),if_neg (by rintro⟨h,e⟩;rcases hr with hr | ⟨_,hr⟩;omega;exact hr e.symm)]
  unfold zcU;rw[List.take_replicate,List.length_replicate]
  by_cases h:n<4
  · rw[if_neg (by omega),if_pos h,List.append_nil,Nat.min_eq_right (by omega)]
    obtain⟨k,rfl⟩:∃ k,n=k+1:=⟨n-1,by omega⟩
    rw[List.replicate_succ,List.cons_append,h1,zju c k 1 rest (by omega) (by omega),Nat.add_comm 1 k]
    rfl
  · rw[if_pos (by omega),if_neg h,Nat.min_eq_left (by omega)]
    rw[show List.replicate 4 c=c::List.replicate 3 c from rfl,List.append_assoc,List.cons_append,h1,zju c 3 1 _ (by omega) (by omega)]
    rw[show ([UInt8.ofNat (n-4)]++rest)=UInt8.ofNat (n-4)::rest from rfl,exF,if_pos rfl]
    have hv:(UInt8.ofNat (n-4)).toNat=n-4:=by rw[UInt8.toNat_ofNat'];omega
    rw[hv]
    have e:List.replicate n c=c::(List.replicate 3 c++List.replicate (n-4) c):=by
      rw[List.replicate_append_replicate,←List.replicate_succ];congr 1
      omega
    rw[e];simp
theorem zjS:∀ (m:Nat) (l:List UInt8) (run:Nat) (last:UInt8),l.length≤m→(run=0∨run<4∧∀ d,l[0]?=some d→last≠d)→(exF (za5 l) run last).1=l∧(exF (za5 l) run last).2≠4
  | 0,l,run,last,hm,hr=>by
    have:l=[]:=List.eq_nil_of_length_eq_zero (by omega)
    subst this;unfold za5;rw[zbu];exact⟨rfl,by show run≠4;omega⟩
  | m+1,l,run,last,hm,hr=>by
    by_cases hl:l=[]
    · subst hl
      unfold za5;rw[zbu];exact⟨rfl,by show run≠4;omega⟩
    · have h1:=zbW hl
      have h2:=zjL l;have h3:=zeF l;obtain⟨c,hc,hd⟩:=zjU l
      have hp:za5 l=zcU (List.replicate (zbE l) c)++za5 (l.drop (zbE l)):=by
        unfold za5;rw[zbA hl,List.flatMap_cons,hc]
      have h0:l[0]?=some c:=by
        have e:(l.take (zbE l))[0]?=some c:=by rw[hc,List.getElem?_replicate,if_pos (by omega)]
        rwa [List.getElem?_take_of_lt (by omega)] at e
      rw[hp,zrs c last (zbE l) run _ h1 h2 (by
        rcases hr with hr | ⟨hr,hn⟩
        · exact .inl hr
        · exact .inr ⟨hr,hn c h0⟩)]
      have ih:=zjS m (l.drop (zbE l)) (if zbE l<4 then zbE l else 0) c (by rw[List.length_drop];omega) (by
        by_cases h:zbE l<4
        · rw[if_pos h]
          exact .inr ⟨h,fun d he=>(hd (by omega) d he).symm⟩
        · rw[if_neg h];exact .inl rfl)
      refine⟨?_,ih.2⟩
      show _++_=_
      rw[ih.1,←hc,List.take_append_drop]
def zqc (l:List UInt8) (most:Int):List UInt8 × Int :=
  if (exF l 0 0).2=4 then ([],3) else if most<((exF l 0 0).1.length:Int) then ([],4) else ((exF l 0 0).1,0)
theorem zhI (l:List UInt8) (most:Int) (h:(l.length:Int)≤most):zqc (za5 l) most=(l,0):=by
  obtain⟨h1,h2⟩:=zjS l.length l 0 0 (Nat.le_refl _) (.inl rfl);unfold zqc;rw[if_neg h2,h1,if_neg (by omega)]
theorem zt1 (l:List UInt8) (k:Nat) (hk:k<zbE l):l[k]?=l[0]?:=by
  obtain⟨c,hc,_⟩:=zjU l
  have h:∀ i,i<zbE l→l[i]?=some c:=fun i hi=>by
    have e:(l.take (zbE l))[i]?=some c:=by rw[hc,List.getElem?_replicate,if_pos hi]
    rwa [List.getElem?_take_of_lt hi] at e
  rw[h k hk,h 0 (by omega)]
theorem zuo (l:List UInt8) (h:zbE l<l.length) (h2:zbE l<255):l[zbE l]?≠l[0]?:=by
  obtain⟨c,hc,hd⟩:=zjU l;cases l with
  | nil=>simp at h
  | cons a t =>
    have h1:=zbW (l:=a::t) (by simp)
    have e:((a::t).take (zbE (a::t)))[0]?=some c:=by rw[hc,List.getElem?_replicate,if_pos (by omega)]
    rw[List.getElem?_take_of_lt (by omega)] at e
    rw[e];intro h3;refine hd h2 c ?_ rfl;rw[List.getElem?_drop,Nat.add_zero];exact h3
end Go.Proofs.YtoejfkeofbdalaaGreatDoor
