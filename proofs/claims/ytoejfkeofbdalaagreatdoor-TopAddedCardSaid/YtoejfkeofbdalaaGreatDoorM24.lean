import Derived.Test.YtoejfkeofbdalaaGreatDoorM17
import Derived.Test.YtoejfkeofbdalaaGreatDoorM23
import Derived.Test.YtoejfkeofbdalaaGreatDoorM22
set_option linter.all false
set_option maxRecDepth 100000
set_option maxHeartbeats 8000000
namespace Go.Proofs.YtoejfkeofbdalaaGreatDoor
open Go.RowKit
variable {O f:List Nat} {i j k m n:Nat} {s:List Value} {t:ByteArray} {u v w wr:World} {x:Value}
theorem zxd(h:Ad w n x (ints f))(l:0<f.length):∃g a E,x=Qs g 0 f.length a/\n<=g/\f.length<=a/\a<=maxLen/\Aq w g f E:=by
 have k:(ints f).length=f.length:=Bj f;rcases h.2 with⟨rfl,b⟩|⟨g,a,d,rfl,i,j,b,e,m,c⟩
 ·omega
 ·rw[k] at*
  refine⟨g,a,d.toList.drop f.length,rfl,i,b,e,d,j,?_⟩;rw[PJ] at c;rw[<-c,Er]
def JE(s:ByteArray)(k:Nat):List Nat:=(DE s).take k++List.replicate (s.size-k) 0
theorem zjT(s:ByteArray)(k:Nat)(h:k<=s.size):(JE s k).length=s.size:=by simp[JE,DE];omega
theorem zo8(s:ByteArray):JE s s.size=DE s:=by
 unfold JE;rw[BR (by rw[LA];exact Af _),Ow];simp
theorem zpI(s:ByteArray)(k:Nat)(h:k<s.size):(JE s k).set k (s[k]).toNat=JE s (k+1):=by
 unfold JE
 have a:(DE s).take (k+1)=(DE s).take k++[(s[k]).toNat]:=by
  rw[G7,Wq s k h];rfl
 have b:List.replicate (s.size-k) 0=0::List.replicate (s.size-(k+1)) 0:=by
  rw[<-Oi];congr 1;omega
 rw[a,b];have:=MJ (L:=(DE s).take k) (M:=List.replicate (s.size-(k+1)) 0) (x:=0) (s[k]).toNat (k:=k) (by rw[BO,LA];omega)
 rw[this];simp
structure Ff(w wr:World)(s:ByteArray)(n rb m:Nat)(P:List Nat)(v:Value)(L:List Nat):Prop where
 bel:Qb w wr
 size:w.heap.size+1+1<=wr.heap.size
 box:Qg wr (w.heap.size+1) #[.string s,Qs rb 0 n n,Qi (m:Nat)] 171
 row:Aq wr rb P []
 rlt:rb<w.heap.size+1
 own:Ad wr (w.heap.size+1+1) v (ints L)
theorem Ff.appended{B:List Nat}{y:Value}{o:Obj}(h:Ff w wr t n m k f x B)(a:(wr.alloc o).grownBy u x.ownBlock)(d:Ad u (w.heap.size+1+1) y (ints B++[(i:Int)])):Ff w u t n m k f y (B++[i]):=by
 have b:∀j,x.ownBlock=some j->w.heap.size+1+1<=j:=λj e=>Dm h.own e;have g:=h.size;have c:(wr.alloc o).heap.size=wr.heap.size+1:=by simp
 refine⟨(Ay h.bel o).grown a (by rw[c];omega) λj e=>by have:=b j e;omega,by have:=a.size;omega,?_,?_,h.rlt,?_⟩
 ·exact(a.block _ (by rw[c];omega) (λe=>by have:=b _ e.symm;omega)).trans (Bb _ h.box)
 ·exact(h.row.below ((Ag _ _).alloc (Af _) o)).same (a.block _ (by have:=h.rlt;rw[c];omega) (λe=>by have:=b _ e.symm;have:=h.rlt;omega))
 ·have:ints (B++[i])=ints B++[(i:Int)]:=by simp[ints]
  rw[this];exact d
theorem Ff.stored{B:List Nat}(h:Ff w wr t n m k f x B)(s:w.heap.size<=m)(a p:Nat)(o:a<f.length):Ff w (wr.setCell ⟨m,a,none⟩ (Qi (p:Int))).drew t n m k (f.set a p) x B:=by
 have l:=h.rlt;refine⟨(h.bel.setCell (p:=⟨m,a,none⟩) s _).drew,by have:=h.size;simpa [World.setCell] using this,?_,(h.row.set a p o).same rfl,l,?_⟩
 ·exact(Bg _ _ _ _ (by show w.heap.size+1≠m;omega)).trans h.box
 ·have j:Ad (wr.setCell ⟨m,a,none⟩ (Qi (p:Int))) (w.heap.size+1+1) x (ints B):=by
   refine⟨h.own.1,?_⟩;rcases h.own.2 with i|⟨g,q,r,b,c,d,e⟩
   ·exact .inl i
   ·exact .inr ⟨g,q,r,b,c,(Bg _ _ _ _ (by show g≠m;omega)).trans d,e⟩
  exact j
structure DQ(w wq:World)(s:ByteArray)(n m g rb nb:Nat)(L P NX:List Nat)(E:List Value):Prop where
 out:Aq wq g L E
 rk:Aq wq rb P []
 nx:Aq wq nb NX []
 box:Qg wq (w.heap.size+1) #[.string s,Qs rb 0 n n,Qi (m:Nat)] 171
 bel:Qb w wq
theorem DQ.step{B:List Nat}(h:DQ w v t n m k i j f B O s)(a:Qb v u):DQ w u t n m k i j f B O s :=
 ⟨h.out.below a,h.rk.below a,h.nx.below a,(a.block _ (Aj h.box)).trans h.box,h.bel.trans (a.mono h.bel.size)⟩
theorem DQ.set{B:List Nat}(h:DQ w v t n m k i j f B O s)(a:j≠k)(b:j≠i)(c:j≠w.heap.size+1)(d:w.heap.size<=j)(x p:Nat)(e:x<O.length) :
 DQ w (v.setCell ⟨j,x,none⟩ (Qi (p:Int))) t n m k i j f B (O.set x p) s :=
 ⟨h.out.same (Bg _ _ _ _ a.symm),h.rk.same (Bg _ _ _ _ b.symm),h.nx.set x p e,(Bg _ _ _ _ c.symm).trans h.box,h.bel.setCell (p:=⟨j,x,none⟩) d _⟩
theorem DQ.drew{B:List Nat}(h:DQ w v t n m k i j f B O s):DQ w v.drew t n m k i j f B O s:=h.step (Ag _ _).drew
theorem znv(s:ByteArray)(w:World)(h0:0<s.size)(hs:s.size<=100000) :
 Qk 34 #[.string s] w λe w'=>∃q c,e=.returned (.slice q s.size c)/\Ac w' w'.heap.size (.slice q s.size c) (ints (GZ (DE s)))/\Qb w w':=by
 obtain⟨n,hn⟩:=Qe s.size;obtain⟨cz,hcz,hmk⟩:=O7 n Q0
 have HMK:=Aa hmk;have HCZ:=Aa hcz;rw[hn] at h0 hs |-;have HN:=Aa hn
 have S0:Hid (Ff w ((w.alloc (.cells cz 3)).alloc (.cells #[.string s,Qs w.heap.size 0 n n,Qi 0] 171)) s n w.heap.size 0 (JE s 0) (.slice none 0 0) []):=by
  refine⟨Ay ((Ag _ _).alloc (Af _) _) _,Q6,Am _ _ _ Q6,⟨cz,Bb _ (Am _ _ _ rfl),?_⟩,Q0,Ad.nil _ _⟩
  rw[hcz,Eu];unfold JE;rw[hn];simp[ints]
 clear hcz hmk;have hmk:=HMK.out
 go_enter Tryz.func34,Tryz.ntmps34
 go_wp2_with fail
 generalize(w.alloc (.cells cz 3)).alloc (.cells #[.string s,Qs w.heap.size 0 n n,Qi 0] 171)=W0 at*
 have hbk:w.heap.size+1=w.heap.size+1:=rfl
 go_loopw [2,15] (λov iv wr=>∃k:Nat,k<=n/\iv=Qi (k:Nat)/\Hid (Ff w wr s n w.heap.size 0 (JE s k) ov (List.range k))) (λov iv _=>n+1-(intOf iv).toNat)
 case atStart=>exact⟨0,BI _,rfl,S0⟩
 case round =>
  clear S0;obtain⟨k,hk,rfl,HS⟩:=hrel
  by_cases hlt:k<n
  ·obtain⟨q,c,rfl⟩:=HS.out.own.shape
   have hll:(ints (List.range k)).length=k:=by rw[Bj,Gn]
   have hks:k<s.size:=by rw[HN.out];exact hlt
   rw[hll] at HS |-;have hz:=HS.out.size;have hget:(s[k]'hks).toNat<256:=(s[k]'hks).toNat_lt;have HSET:=Aa (zpI s k hks)
   go_wp2_with
    (at_builtin
     refine KN rfl _ _ rfl (w.heap.size+1+1) _ (ints (List.range k)) rfl (HS.out.own.alloc _) (wr.heap.size+1) _ [(k:Int)] rfl (Ac.new wr [(k:Int)] _ _ _ rfl rfl rfl (by simp[maxLen])) (by rw[hll];simp;omega) Q4 ?_
     intro q2 c2 w2 hown hg hat1;have HS2:=Aa (HS.out.appended hg hown);have e1:(ints (List.range k)).length+[(k:Int)].length=k+1:=by rw[hll];rfl
     rw[e1] at HS2 |-;rw[<-Fh] at HS2;clear hown hg hat1 HS hz e1)
   have hcb1:=(Ae HS2.out.box 1).trans rfl;have hPl:(JE s k).length=n:=by rw[zjT s k Q0,HN.out]
   have hz0:(JE s k)[k]?=some 0:=by
    unfold JE;rw[F7 (by rw[BO,LA];omega),Ll,if_pos (by rw[BO,LA];omega)]
   have hck:=HS2.out.row.cell k 0 hz0;have hfk:=HS2.out.row.frozen k;obtain⟨x,hxx⟩:=Qe ((s[k]'hks).toNat);rw[hxx] at HSET hget;have HS3:=HS2.out.stored (Af _) k x (by rw[hPl];exact hlt)
   rw[HSET.out] at HS3;have HS3:=Aa HS3;have m1:¬ w.heap.size+1=w.heap.size:=Q0
   have m2:¬ w.heap.size=w.heap.size+1:=Q0
   clear HS2 hPl hz0 HSET
   go_region
   go_wp2_with fail
   go_roundw
   case rel=>exact⟨k+1,Q0,by go_num,HS3⟩
   case measure=>simp[intOf];omega
  ·obtain rfl:n=k:=Q0
   have hRT:JE s n=DE s:=by have:=zo8 s;rwa [HN.out] at this
   rw[hRT] at HS;obtain⟨g,cap,E,rfl,hg,hcap1,hcap2,hrow⟩:=zxd HS.out.own (by rw[Gn];exact h0)
   rw[Gn] at hcap1 |-;have HP0:=Aa HS.out.row;have HG0:=Aa hrow;have HX0:=Aa HS.out.box;have HB0:=Aa HS.out.bel;have hsz:=HS.out.size;have HK0:Hid (BQ (DE s) (FH (DE s)) 1):=zq7 (DE s);clear HS hrow hRT hk;have hSl:(DE s).length=n:=by rw[LA,HN.out]
   have HSL:=Aa hSl;clear hSl
   go_wp2_with fail
   go_loopw [2] (λov wr=>∃(rb m:Nat)(P L:List Nat),ov=Qs g 0 n cap/\m<=200000/\(m=0\/m<n)/\rb≠g/\rb≠w.heap.size+1/\w.heap.size<=rb/\Hid (L.Perm (List.range n))/\Hid (P.length=n)/\Hid (Aq wr g L E)/\Hid (Aq wr rb P [])/\Hid (Qg wr (w.heap.size+1) #[.string s,Qs rb 0 n n,Qi (m:Nat)] 171)/\Hid (BQ (DE s) (FH P) (max m 1))/\Hid (Qb w wr))
    (λ_ wr=>n+1-(intOf ((wr.cell? ⟨w.heap.size+1,2,none⟩).getD (Qi 0))).toNat)
   case atStart=>exact⟨w.heap.size,0,DE s,List.range n,rfl,Q0,.inl rfl,Q0,Q0,Af _,KL _,HSL.out,HG0.out,HP0.out,HX0.out,HK0.out,HB0.out⟩
   case round =>
    clear HG0 HP0 HX0 HK0 HB0 hsz;obtain⟨rb,m,P,L0,rfl,hm,hmn,hne1,hne2,hrbB,HL,HPL,HG,HP,HX,HK,HB⟩:=hrel;have hcx2:=(Ae HX.out 2).trans rfl;have CS:=Aa (zm9 wr g n cap L0 E HG.out Q0 HL.out)
    have HM2:Hid ((intOf ((wr.cell? ⟨w.heap.size+1,2,none⟩).getD (Qi 0))).toNat=m):=by
     show _=_
     rw[hcx2];rfl
    clear hcx2
    go_wp2_with fail
    refine CS.out.mono ?_;rintro e w1 ⟨rfl,hr1,ho1⟩;have hx1:=ho1.other HX.out (show w.heap.size+1≠g by omega)
    have hp1:Aq w1 rb P []:=HP.out.same (ho1.block rb HP.out.lt hne1);have hb1:Qb w w1:=ho1.bel HB.out Q0 (Af _)
    have CT:=Aa (zlk s w1 g n cap rb n m P (List.range n) E hr1 hp1 hne1 HN.out (by rw[Gn]) HPL.out Q0 Q0 Vr (λx hx=>EB.1 hx))
    have HX1:=Aa hx1;have HP1:=Aa hp1;have HB1:=Aa hb1;have k0:=(Ae hx1 0).trans rfl;have k1:=(Ae hx1 1).trans rfl;have k2:=(Ae hx1 2).trans rfl;unfold Jq at CT;clear CS hr1 ho1 hx1 hp1 hb1 HG HP HX HB HL
    go_wp2_with fail
    refine CT.out.mono ?_;rintro e w2 ⟨rfl,⟨L,hr2,hL2,hS2⟩,ho2⟩;have hx2:=ho2.other HX1.out (show w.heap.size+1≠g by omega)
    have hp2:Aq w2 rb P []:=HP1.out.same (ho2.block rb HP1.out.lt hne1);have hb2:Qb w w2:=ho2.bel HB1.out Q0 (Af _)
    have HX2:=Aa hx2;have HP2:=Aa hp2;have HB2:=Aa hb2;have HG2:=Aa hr2;have HL2:=Aa hL2;have HS2:=Aa hS2;have hLl:L.length=n:=by rw[hL2.length_eq,Gn]
    have hgl:=hr2.lt;have hrl:=hp2.lt;have hxl:=Aj hx2;obtain⟨nb,hnb⟩:=Qe w2.heap.size
    have hR0:DQ w (w2.alloc (.cells cz 3)) s n m g rb nb L P (List.replicate n 0) E:=by
     have hB:Qb w2 (w2.alloc (.cells cz 3)):=(Ag _ _).alloc (Af _) _;exact⟨hr2.below hB,hp2.below hB,⟨cz,Am _ _ _ hnb.symm,by rw[HCZ.out,Eu];congr 1;simp[ints]⟩,(hB.block _ hxl).trans hx2,hb2.trans (hB.mono hb2.size)⟩
    have q1:nb≠g:=Q0
    have q2:nb≠rb:=Q0
    have q3:nb≠w.heap.size+1:=Q0
    have q4:w.heap.size<=nb:=Q0
    have HR0:=Aa hR0;have HLL:=Aa hLl;clear CT hr2 hL2 hS2 ho2 hx2 hp2 hb2 HX1 HP1 HB1 k0 k1 k2 hR0 HX2 HP2 HB2 HG2 hLl hgl hrl hxl
    go_wp2_with fail
    have HNB:=Aa hnb;clear hnb;generalize w2.alloc (.cells cz 3)=W3 at*
    go_loopw [6] (λiv wq=>∃(i:Nat)(NX:List Nat),iv=Qi (i:Nat)/\1<=i/\i<=max n 1/\Hid (NX.length=n)/\Hid (∀t,t<i->t<n->NX[L[t]?.getD 0]?.getD 0=IE n (FH P) m L t)/\Hid (DQ w wq s n m g rb nb L P NX E)) (λiv _=>n+1-(intOf iv).toNat)
    case atStart =>
     refine⟨1,List.replicate n 0,rfl,Af _,Q0,by show _=_;rw[Jg],?_,HR0⟩
     intro t ht _;obtain rfl:t=0:=Q0
     show _=0
     rw[Ll];split<;>rfl
    case round =>
     clear HR0;obtain⟨i,NX,rfl,hi1,hin,HNL,HU,HR⟩:=hrel
     by_cases hlt:i<n
     ·have hLl:=HLL.out
      have hNl:=HNL.out;obtain⟨a,ha⟩:∃a,L[i]?=some a:=⟨_,Az Q0⟩
      obtain⟨b,hb⟩:∃b,L[i-1]?=some b:=⟨_,Az Q0⟩
      have han:a<n:=EB.1 (HL2.out.mem_iff.1 (Cn ha));have hbn:b<n:=EB.1 (HL2.out.mem_iff.1 (Cn hb));have hnd:L.Nodup:=HL2.out.nodup_iff.2 QS
      have hab:b≠a:=λe=>by
       subst e;have:=(Td Q0 hnd).1 (hb.trans ha.symm)
       omega
      obtain⟨y,hy⟩:∃y,NX[b]?=some y:=⟨_,Az Q0⟩
      obtain⟨z0,hz0⟩:∃z0,NX[a]?=some z0:=⟨_,Az Q0⟩
      have ca:=HR.out.out.cell _ _ ha;have cb:=HR.out.out.cell _ _ hb;have cy:=HR.out.nx.cell _ _ hy;have cz0:=HR.out.nx.cell _ _ hz0;have fz:=HR.out.nx.frozen a;have hR1:=(HR.out.set q1 q2 q3 q4 a y Q0).drew
      have HR1:=Aa hR1;have w1:IntKind.i64.wrap ((i:Int)-1)=((i-1:Nat):Int):=by rw[AU _ Q0];omega
      have l1:i-1<n:=Q0
      have HA:=Aa ha;have HBB:=Aa hb;have HY:=Aa hy;have HAB:=Aa hab
      have HNA:Hid (∀t,t<i->L[t]?.getD 0≠a):=λt ht e=>by
       have h5:L[t]?=some a:=by rw[Az Q0] at e |-;exact Co some e
       have:=(Td Q0 hnd).1 (h5.trans ha.symm)
       omega
      have p1:¬ nb=g:=q1;have p2:¬ g=nb:=q1.symm;clear hR1 ha hb hy hz0 hnd hab hLl hNl HR;obtain⟨j,hj⟩:=Qe (i-1);rw[hj] at cb w1 l1 HBB;have HJ:=Aa hj;clear hj
      go_wp2_with fail
      go_region
      generalize(wr.setCell ⟨nb,a,none⟩ (Qi (y:Int))).drew=W4 at*
      have hbW:Qb W4 W4:=Ag _ _;have hlx:=Aj HR1.out.box;have hlg:=HR1.out.out.lt;have cb1:=HR1.out.out.cell _ _ HBB.out;have ca1:=HR1.out.out.cell _ _ HA.out
      have HkW:Hid (∀w':World,Qb W4 w'->Qb W4 w'/\Qc w' (w.heap.size+1) 0 (.string s)/\Qc w' (w.heap.size+1) 1 (Qs rb 0 n n)/\Qc w' (w.heap.size+1) 2 (Qi (m:Nat))/\Qc w' g j (Qi (b:Nat))/\Qc w' g i (Qi (a:Nat))):=λw' h =>
       ⟨h,(h.cell (p:=⟨w.heap.size+1,0,none⟩) hlx).trans (Ae HR1.out.box 0),(h.cell (p:=⟨w.heap.size+1,1,none⟩) hlx).trans (Ae HR1.out.box 1),(h.cell (p:=⟨w.heap.size+1,2,none⟩) hlx).trans (Ae HR1.out.box 2),(h.cell (p:=⟨g,j,none⟩) hlg).trans cb1,(h.cell (p:=⟨g,i,none⟩) hlg).trans ca1⟩
      have CC:Hid (∀W,Qb W4 W->Qk 98 #[.agg #[.string s,Qs rb 0 n n,Qi (m:Nat)],Qi (b:Nat),Qi (a:Nat)] W λe w'=>e=.returned (Qi (KX P n m b a))/\Qb W w'):=λW h =>
       ZG s rb n n m b a P W (HR1.out.step h).rk HPL.out HN.out hbn han Q0 Q0
      have hz:=zrw P n m b a
      have hup:Fx n (FH P) m a b=false:=by
       have hLl:=HLL.out;have hj:=HJ.out;have hpw:=Oe.1 HS2.out j i Q0 Q0 Q0
       have e1:L[j]'(by omega)=b:=by have:=HBB.out;rw[Az Q0] at this;exact JN this
       have e2:L[i]'(by omega)=a:=by have:=HA.out;rw[Az Q0] at this;exact JN this
       rw[e1,e2] at hpw;simp only[Dk,JQ,Nx] at hpw |-;omega
      have hz2:(KX P n m b a !=0)=Fx n (FH P) m b a:=by
       rw[hz]
       show(Fx n (FH P) m b a ||Fx n (FH P) m a b)=_
       rw[hup,Ri]
      have hus:IE n (FH P) m L i=IE n (FH P) m L j+if Fx n (FH P) m b a then 1 else 0:=by
       obtain rfl:i=j+1:=by have:=HJ.out;omega
       show IE n (FH P) m L j+_=_
       rw[HA.out,HBB.out];rfl
      have hyu:y=IE n (FH P) m L j:=by
       have:=HU.out j (by have:=HJ.out;omega) l1
       rw[HBB.out,Es,HY.out] at this;exact this
      rw[<-hyu] at hus;obtain⟨r,hr⟩:=Qe (Fx n (FH P) m b a);rw[hr] at hz2 hus;obtain⟨z,hzz⟩:=Qe (KX P n m b a);rw[hzz] at hz2 CC;have HZ:=Aa hz2;have HUS:=Aa hus;have HYU:=Aa hyu;clear hz hup hz2 hus hr hzz ca cb cy cz0 fz cb1 ca1 hlx hlg hyu
      go_wp2_with fail
      go_region_held3 (λw'=>Qb W4 w'/\Qc w' (w.heap.size+1) 0 (.string s)/\Qc w' (w.heap.size+1) 1 (Qs rb 0 n n)/\Qc w' (w.heap.size+1) 2 (Qi (m:Nat))/\Qc w' g j (Qi (b:Nat))/\Qc w' g i (Qi (a:Nat)))
       ((refine HkW.out _ ?_;first|assumption|exact Cq Q3|exact Bh Q3|exact A9 Q3 (Bh Q3)|fail))
       ((first
         |(go_at_call 98
           refine(CC.out _ (Bh Q3)).mono ?_
           rintro e w8 ⟨rfl,hB8⟩;have hW8:Qb W4 w8:=A9 hB8 (Bh Q3))
         |fail))
      rename_i hheld
      clear hheld;have HR8:=Aa (HR1.out.step hW8);rw[HZ.out];clear HR1 HkW CC hW8 hB8 hbW;have hNl:=HNL.out;have hya:(NX.set a y)[a]?=some y:=by rw[Px Q0]
      have key:∀(v:Nat)(NY:List Nat),NY.length=n->(∀c,c≠a->NY[c]?=NX[c]?)->NY[a]?=some v->v=IE n (FH P) m L i->∀t,t<i+1->t<n->NY[L[t]?.getD 0]?.getD 0=IE n (FH P) m L t:=by
       intro v NY h1 h2 h3 h4 t ht htn
       by_cases hti:t<i
       ·rw[h2 _ (HNA.out t hti)]
        exact HU.out t hti htn
       ·obtain rfl:t=i:=Q0
        rw[HA.out,Es,h3,Es,h4]
      have cy:=HR8.out.nx.cell _ _ hya;have ci:=HR8.out.out.cell _ _ HA.out;have fy:=HR8.out.nx.frozen a;cases r with
      | true =>
        have hN2:=key (y+1) ((NX.set a y).set a (y+1)) (by simp[hNl]) (λc hc=>by rw[Pv (Ne.symm hc),Pv (Ne.symm hc)]) (by rw[Px Q4]) (by rw[HUS.out];rfl)
        have HU2:=Aa hN2;have HR9:=Aa (HR8.out.set q1 q2 q3 q4 a (y+1) Q4)
        have hl9:((NX.set a y).set a (y+1)).length=n:=by simp[hNl]
        have HL9:=Aa hl9;have hyb:y<=200000:=by have:=zzo n (FH P) m L j;have:=HYU.out;omega
        have w2:IntKind.i64.wrap ((y:Int)+1)=((y+1:Nat):Int):=by rw[AU _ Q0];omega
        have w3:IntKind.i64.wrap ((i:Int)+1)=((i+1:Nat):Int):=by rw[AU _ Q0];omega
        clear hN2 hl9 key hya hNl HR8 HU HNL
        go_wp2_with fail
        go_roundw
        case rel=>exact⟨i+1,_,rfl,Q0,Q0,HL9,HU2,HR9⟩
        case measure=>simp[intOf];omega
      | false =>
        have hN2:=key y (NX.set a y) (by simp[hNl]) (λc hc=>by rw[Pv (Ne.symm hc)]) hya (by rw[HUS.out];rfl)
        have HU2:=Aa hN2;have hl9:(NX.set a y).length=n:=by simp[hNl]
        have HL9:=Aa hl9;have w3:IntKind.i64.wrap ((i:Int)+1)=((i+1:Nat):Int):=by rw[AU _ Q0];omega
        clear hN2 hl9 key hya hNl HU HNL
        go_wp2_with fail
        go_roundw
        case rel=>exact⟨i+1,_,rfl,Q0,Q0,HL9,HU2,HR8⟩
        case measure=>simp[intOf];omega
     ·have hin2:n<=i:=Q0
      have hNext:BQ (DE s) (FH NX) (JW m):=by
       refine zvi (ρ:=FH P) (out:=L) HK.out (by rw[HSL.out];exact HL2.out) (by rw[HSL.out];exact HS2.out) ?_
       intro t ht;rw[HLL.out] at ht;rw[HSL.out];exact HU.out t Q0 ht
      have HNX:=Aa hNext;have hO:n<=JW m->L=GZ (DE s):=λh=>zwu (by rw[HSL.out];exact HL2.out) (zv1 HK.out (by rw[HSL.out];exact HL2.out) (by rw[HSL.out];exact HS2.out) (by rw[HSL.out];exact h))
      have HOR:=Aa hO;have hx0:=HR.out.box;have fx1:=Ah hx0 1;have fx2:=Ah hx0 2;have k2:=(Ae hx0 2).trans rfl;have k1:=(Ae hx0 1).trans rfl;have dd:decide (i<n)=false:=AV hlt;have w2:IntKind.i64.wrap (2*(m:Int))=((2*m:Nat):Int):=by rw[AU _ Q0];omega
      obtain⟨m2,hm2⟩:=Qe (2*m);rw[hm2] at w2;have hmx:max (m2:Int) 1=((max m2 1:Nat):Int):=Q0
      obtain⟨m3,hm3⟩:=Qe (max m2 1);rw[hm3] at hmx;have hgx:g≠w.heap.size+1:=Q0
      have hbx:nb≠w.heap.size+1:=q3
      have HX5:Hid (Qg ((wr.setCell ⟨w.heap.size+1,1,none⟩ (Qs nb 0 n n)).setCell ⟨w.heap.size+1,2,none⟩ (Qi (m3:Nat))) (w.heap.size+1) #[.string s,.slice (some ⟨nb,0,none⟩) n n,Qi (m3:Nat)] 171):=by
       show _=_
       have h1:=Ak (Ak hx0 1 (Qs nb 0 n n)) 2 (Qi (m3:Nat));simpa using h1
      have HG5:Hid (Aq ((wr.setCell ⟨w.heap.size+1,1,none⟩ (Qs nb 0 n n)).setCell ⟨w.heap.size+1,2,none⟩ (Qi (m3:Nat))) g L E) :=
       (HR.out.out.same (Bg _ ⟨w.heap.size+1,1,none⟩ _ _ hgx)).same (Bg _ ⟨w.heap.size+1,2,none⟩ _ _ hgx)
      have HP5:Hid (Aq ((wr.setCell ⟨w.heap.size+1,1,none⟩ (Qs nb 0 n n)).setCell ⟨w.heap.size+1,2,none⟩ (Qi (m3:Nat))) nb NX []) :=
       (HR.out.nx.same (Bg _ ⟨w.heap.size+1,1,none⟩ _ _ hbx)).same (Bg _ ⟨w.heap.size+1,2,none⟩ _ _ hbx)
      have HB5:Hid (Qb w ((wr.setCell ⟨w.heap.size+1,1,none⟩ (Qs nb 0 n n)).setCell ⟨w.heap.size+1,2,none⟩ (Qi (m3:Nat)))) :=
       Ce (Ce HR.out.bel Q0 1 _) Q0 2 _
      have hmo:JW m=m3:=by unfold JW;omega
      rw[hmo] at HNX HOR;have hm2le:m2<=400000:=Q0
      by_cases hge:n<=m3
      ·have dd2:decide (n<=m3)=true:=Bl hge
       have hLo:=HOR.out hge;have hLl:=HLL.out;have hfin:=HG5.out.ints cap (by rw[hLl];exact hcap1) hcap2
       rw[hLl,hLo] at hfin;have HF:=Aa hfin;clear hNext hO hfin hLo hLl hm3 hm2 hmo
       go_wp2_with fail
       go_ret
       exact⟨_,_,rfl,HF.out,HB5.out⟩
      ·have dd2:decide (n<=m3)=false:=AV hge
       have hmm:max m3 1=m3:=Q0
       have HNX2:Hid (BQ (DE s) (FH NX) (max m3 1)):=by show BQ _ _ _;rw[hmm];exact HNX.out
       have hmlt:m<m3:=Q0
       have h31:m3<=200000:=Q0
       have HM3:Hid ((intOf ((((wr.setCell ⟨w.heap.size+1,1,none⟩ (Qs nb 0 n n)).setCell ⟨w.heap.size+1,2,none⟩ (Qi (m3:Nat))).cell? ⟨w.heap.size+1,2,none⟩).getD (Qi 0))).toNat=m3):=by
        show _=_
        rw[Ae HX5.out 2];rfl
       clear hNext hO hm3 hm2 hmo hmm
       go_wp2_with fail
       go_roundw
       case rel=>exact⟨nb,m3,NX,L,rfl,h31,.inr Q0,q1,q3,q4,HL2,HNL,HG5,HP5,HX5,HNX2,HB5⟩
       case measure =>
        rw[HM3.out,HM2.out];omega
def LJ(s:ByteArray)(k:Nat):ByteArray:=s.extract k s.size++s.extract 0 k
theorem zxp(s:ByteArray)(k:Nat)(w:World)(h:k<=s.size)(i:s.size<=1000000) :
 Qk 165 #[.agg #[.string s],Qi (k:Nat)] w λe d=>e=.returned (.string (LJ s k))/\Qb w d:=by
 have a:Qb w (w.alloc (.cells #[.string s] 169)):=(Ag _ _).alloc (Af _) _;have b:Qg (w.alloc (.cells #[.string s] 169)) w.heap.size #[.string s] 169:=Am _ _ _ rfl;have g:=(Ae b 0).trans rfl;have c:=Aa a;have j:(s.extract k s.size++s.extract 0 k).size<=1000000:=by simp;omega
 clear b a;unfold LJ
 go_enter Tryz.func165,Tryz.ntmps165
 go_wp2_with fail
 generalize w.alloc (.cells #[.string s] 169)=f at*
 go_region
 go_wp2_with fail
 go_ret
 exact⟨rfl,c.out.drew⟩
theorem zsx(s:ByteArray)(k:Nat)(a:k<=s.size):(LJ s k).size=s.size:=by simp[LJ];omega
theorem zrO(s:ByteArray)(k:Nat):(LJ s k).data.toList=s.data.toList.drop k++s.data.toList.take k:=by
 unfold LJ;have a:s.data.toList.length=s.size:=by simp
 rw[ByteArray.data_append,Array.toList_append];congr 1
 ·rw[Vt,Array.toList_extract,Vo,BR (by rw[D9,a];omega)]
 ·rw[Vt,Array.toList_extract,Vo,Ni,Nat.sub_zero]
theorem zzV(t:ByteArray)(k:Nat)(h:k<t.size):t.data.toList[k]?=some (t[k]'h):=by
 rw[ByteArray.getElem_eq_getElem_data,Lj];exact Oh h
theorem zsf(s:ByteArray)(k j:Nat)(e:k<s.size)(d:j+1=s.size)(h:j<(LJ s k).size):((LJ s k)[j]'h)=s.data.toList.getD (FE s.size k) 0:=by
 have b:s.data.toList.length=s.size:=by simp
 have a:=zzV (LJ s k) j h;rw[zrO] at a;rw[Cx];unfold FE
 by_cases c:k=0
 ·subst c
  rw[if_pos rfl];rw[Ni,Nh,Eu] at a;rw[show s.size-1=j by omega,a];rfl
 ·rw[if_neg c]
  rw[F7 (by rw[D9,b];omega),D9,b,Mj Q0,show j-(s.size-k)=k-1 by omega] at a
  rw[a];rfl
def Gx(s:List UInt8):List UInt8:=(GZ (s.map (·.toNat))).map λk=>s.getD (FE s.length k) 0
def EP(s:List UInt8):Nat:=(GZ (s.map (·.toNat))).idxOf 0
theorem R4(S:List Nat):(GZ S).length=S.length:=by rw[(MB S).length_eq,Gn]
theorem TA(s:List UInt8):(Gx s).length=s.length:=by simp[Gx,R4]
theorem zpC(s:ByteArray)(w:World)(h0:0<s.size)(hs:s.size<=100000) :
 Qk 114 #[.string s] w λe w'=>e=.returned (.tuple #[.string ⟨(Gx s.data.toList).toArray⟩,Qi (EP s.data.toList:Nat)])/\Qb w w':=by
 have hl:s.data.toList.length=s.size:=by simp
 obtain⟨L,hL⟩:=Qe (GZ (DE s));have CO:=Aa (znv s w h0 hs);rw[hL] at CO;have hLl:L.length=s.size:=by rw[<-hL,R4,LA]
 have hLm:∀x∈L,x<s.size:=λx hx=>by
  rw[<-hL] at hx;have:=EB.1 ((MB _).mem_iff.1 hx)
  rwa [LA] at this
 have hf:Gx s.data.toList=L.map λk=>s.data.toList.getD (FE s.size k) 0:=by
  unfold Gx;rw[hl,show s.data.toList.map (·.toNat)=DE s from rfl,hL]
 have hg:EP s.data.toList=L.idxOf 0:=by unfold EP;rw[show s.data.toList.map (·.toNat)=DE s from rfl,hL]
 have hmem:0∈L:=by rw[<-hL];exact(MB _).mem_iff.2 (EB.2 (by rw[LA];exact h0))
 have hidx:L.idxOf 0<s.size:=by rw[<-hLl];exact Pw.2 hmem
 have hnd:L.Nodup:=by rw[<-hL];exact(MB _).nodup_iff.2 QS
 rw[hf,hg]
 have hiff:∀i,i<s.size->(L[i]?=some 0↔i=L.idxOf 0):=λi hi=>by
  have e0:L[L.idxOf 0]?=some 0:=by rw[Az Q0];simp
  constructor
  ·intro e;exact(Td Q0 hnd).1 (e.trans e0.symm)
  ·rintro rfl;exact e0
 obtain⟨G,hG⟩:=Qe (L.idxOf 0);rw[hG] at hidx hiff |-;obtain⟨F,hF⟩:∃F:List UInt8,L.map (λk=>s.data.toList.getD (FE s.size k) 0)=F:=⟨_,rfl⟩;rw[hF];have HF:=Aa hF;have HIF:=Aa hiff;have HLM:=Aa hLm;have CT:=Aa λk W hk=>zxp s k W hk Q0
 have HSZ:=Aa (zsx s);have HLA:=Aa (zsf s);obtain⟨n,hn⟩:=Qe s.size;rw[hn] at CO hLl h0 hs hidx HIF HLM CT HSZ HF HLA;have HLL:=Aa hLl;clear hl hL hLl hLm hf hg hmem hnd hiff hG hF hn
 go_enter Tryz.func114,Tryz.ntmps114
 go_wp2_with fail
 refine CO.out.mono ?_;rintro e w1 ⟨q,c,rfl,hv1,hB1⟩;have HV:=Aa hv1;have HB1:=Aa hB1;clear hv1 hB1 CO
 go_wp2_with fail
 go_loopw [3,4,11] (λgv ov iv wr=>∃(i:Nat)(O:List UInt8),i<=n/\iv=Qi (i:Nat)/\gv=Qi ((if G<i then G else 0:Nat):Nat)/\Hid (O=F.take i)/\Hid (Ap wr w1.heap.size ov O)/\Hid (Qb w1 wr)) (λ_ _ iv _=>n+1-(intOf iv).toNat)
 case atStart=>exact⟨0,[],BI _,rfl,rfl,rfl,Ap.nil _ _,Ag _ _⟩
 case round =>
  obtain⟨i,O,hi,rfl,rfl,HO,HW,HB⟩:=hrel;have hFl:F.length=n:=by rw[<-HF.out,Da,HLL.out]
  have hOl:O.length=i:=by rw[HO.out,BO];omega
  by_cases hlt:i<n
  ·obtain⟨k,hk⟩:∃k,L[i]?=some k:=⟨_,Az (by rw[HLL.out];exact hlt)⟩
   have hkn:=HLM.out k (Cn hk);obtain⟨g,o,rfl,hgb,hc⟩:=(HV.out.below HB.out (Af _)).at i (by rw[Bj,HLL.out];exact hlt)
   rw[show(ints L)[i]?.getD 0=(k:Int) by simp[ints,hk]] at hc
   have CTk:=Aa (CT.out k wr Q0)
   have hsz:=HSZ.out k Q0
   obtain⟨j,hj⟩:=Qe (n-1);have hla:=HLA.out k j hkn Q0 (by rw[hsz];omega)
   have hFs:F.take (i+1)=F.take i++[s.data.toList.getD (FE n k) 0]:=by
    rw[Ep Q0]
    congr 1
    have:F[i]?=some (s.data.toList.getD (FE n k) 0):=by rw[<-HF.out,EA,hk];rfl
    rw[Az Q0] at this
    rw[JN this]
   have hif:=HIF.out i hlt;rw[hk] at hif;obtain⟨t,ht⟩:=Qe (LJ s k);have hjt:j<t.size:=by rw[<-ht,hsz];omega
   have hla2:(t[j]'hjt)=s.data.toList.getD (FE n k) 0:=by
    rw[<-hla];congr 1
    exact ht.symm
   rw[ht] at hsz CTk;obtain⟨x,hx⟩:=Qe ((t[j]'hjt).toNat);have hxl:x<256:=by rw[<-hx];exact(t[j]'hjt).toNat_lt
   have hcat:O++[UInt8.ofNat x]=F.take (i+1):=by
    rw[hFs,HO.out,<-hla2,<-hx,Ta]
   have HCAT:=Aa hcat;have HOL:=Aa hOl;have w1':IntKind.i64.wrap ((n:Int)-1)=(j:Int):=by rw[AU _ Q0];omega
   have w2':IntKind.i64.wrap ((i:Int)+1)=((i+1:Nat):Int):=by rw[AU _ Q0];omega
   obtain⟨og,hog⟩:=Qe ((if G<i then G else 0:Nat))
   rw[hog]
   have HNX:Hid ((k=0->(if G<i+1 then G else 0:Nat)=i)/\(k≠0->(if G<i+1 then G else 0:Nat)=og)):=by
    refine⟨λe=>?_,λe=>?_⟩
    ·have:=hif.1 (by rw[e]);rw[if_pos Q0];omega
    ·have hne:i≠G:=λe2=>e (JN (hif.2 e2))
     rw[<-hog]
     by_cases h:G<i
     ·rw[if_pos h,if_pos Q0]
     ·rw[if_neg h,if_neg Q0]
   clear hla hla2 hcat hFs hif hk ht hOl hFl hj hog
   go_wp2_with fail
   refine CTk.out.mono ?_;rintro e w2 ⟨rfl,hB2⟩;have HW2:Hid (Ap (w2.alloc (.cells #[.int .u8 (x:Int)] 5)) w1.heap.size _ O):=Ap.alloc (HW.out.below hB2) _;have HB2:=Aa (HB.out.trans (hB2.mono HB.out.size));have hz2:=HB2.out.size;clear hB2 HB HW CTk hc;obtain⟨r,hr⟩:=Qe (((k:Int)==0));have hot:r=true->(if G<i+1 then G else 0:Nat)=i:=λe=>HNX.out.1 (by rw[e] at hr;have:=eq_of_beq hr;omega)
   have hof:r=false->(if G<i+1 then G else 0:Nat)=og:=λe=>HNX.out.2 (by rw[e] at hr;have:=ne_of_beq_false hr;omega)
   have HOT:=Aa hot;have HOF:=Aa hof;clear hot hof HNX;cases r
   all_goals
    go_wp2_with
     (at_builtin
      refine Tv rfl _ _ rfl w1.heap.size _ O rfl HW2.out w2.heap.size x hxl rfl (Am _ _ _ rfl) (by rw[HOL.out];omega) Q4 ?_
      intro q3 c3 w3 hown3 hg3 hat3;rw[HCAT.out] at hown3;have HOW3:=Aa hown3;have HB3:Hid (Qb w1 w3):=PZ hg3 (HB2.out.alloc hz2 _) (λr e=>TI HW2.out e);clear hown3 hg3 hat3)
    go_roundw
   ·exact⟨i+1,F.take (i+1),Q0,by go_num,by rw[HOF.out trivial],rfl,HOW3,HB3⟩
   ·simp[intOf];omega
   ·exact⟨i+1,F.take (i+1),Q0,by go_num,by rw[HOT.out trivial],rfl,HOW3,HB3⟩
   ·simp[intOf];omega
  ·obtain rfl:i=n:=Q0
   have hOF:O=F:=by rw[HO.out,BR Q0]
   have how:=HW.out;rw[hOF] at how;obtain⟨q3,c3,hq3⟩:=how.shape;subst hq3;have hcv:(convert 89 9 (.slice q3 F.length c3)).run Tryz.prog wr=.ok (.string ⟨F.toArray⟩) wr:=M8 F how;have hog:(if G<i then G else 0:Nat)=G:=if_pos hidx
   rw[hog];have HBB:=Aa (HB1.out.trans (HB.out.mono HB1.out.size));clear how hOF hog hFl hOl HO HW
   go_wp2_with fail
   go_ret2
   exact⟨rfl,HBB.out⟩
