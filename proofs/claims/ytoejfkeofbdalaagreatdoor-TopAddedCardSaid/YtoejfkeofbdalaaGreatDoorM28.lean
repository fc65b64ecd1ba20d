import Derived.Test.YtoejfkeofbdalaaGreatDoorM24
import Derived.Test.YtoejfkeofbdalaaGreatDoorM25
import Derived.Test.YtoejfkeofbdalaaGreatDoorM26
import Derived.Test.YtoejfkeofbdalaaGreatDoorM27
import Derived.Test.YtoejfkeofbdalaaGreatDoorM19
set_option linter.all false
set_option maxRecDepth 100000
set_option maxHeartbeats 8000000
namespace Go.Proofs.YtoejfkeofbdalaaGreatDoor
open Go.RowKit
variable {C:List (List Bool)} {L l:List Int} {e:List UInt8} {i k m n:Nat} {t:ByteArray} {u v w:World} {x y z:Value}
theorem zvU(p:Nat->Bool)(n:Nat)(c:n<=256):∀x∈EZ p n,x.toNat<n:=by
 induction n with
 |zero=>intro x a;simp[EZ] at a
 | succ n b =>
   intro x a;rw[Ns] at a;rcases FZ.1 a with a|a
   ·have:=b Q0 x a;omega
   ·split at a
    ·have:x=UInt8.ofNat n:=by simpa using a
     subst this;rw[Ms];omega
    ·simp at a
theorem znE(p:Nat->Bool)(n:Nat)(d:n<=256):(EZ p n).Nodup:=by
 induction n with
 |zero=>simp[EZ]
 | succ n c =>
   rw[Ns];refine Rf.2 ⟨c Q0,?_,?_⟩
   ·split<;>simp
   ·intro x b y a
    split at a
    ·have:y=UInt8.ofNat n:=by simpa using a
     subst this;have:=zvU p n Q0 x b
     intro e;subst e;rw[Ms] at this;omega
    ·simp at a
theorem YW(s:List UInt8):(Bq s).Nodup:=znE _ 256 (Af _)
theorem zkx(s:List UInt8)(x:UInt8):x∈Bq s↔x∈s:=by
 have a:=Xe (Bq s) x;have b:=Xe s x;unfold Bq at a;rw[ZN _ _ _ (Af _),Bl (show x.toNat<256 from x.toNat_lt),Nc,b] at a
 have:=Co (·=true) a;simpa [Bq] using this.symm
theorem Nu(h:e≠[]):Bq e≠[]:=by
 obtain⟨x,t,rfl⟩:=List.exists_cons_of_ne_nil h;exact List.ne_nil_of_mem ((zkx _ x).2 Q6)
def FY(p:List UInt8):List Nat:=(Eb (Bq p) (Gx p)).2
theorem zxo(p:List UInt8):∀c∈Gx p,c∈p:=by
 intro c b;unfold Gx at b;obtain⟨k,a,rfl⟩:=C8.1 b;have a:=EB.1 ((MB _).mem_iff.1 a);rw[Da] at a;have d:=Xp a;rw[Cx,Az d];exact Et d
theorem UK(p:List UInt8):∀c∈Gx p,c∈Bq p:=λc a=>(zkx p c).2 (zxo p c a)
theorem PV(p:List UInt8):(FY p).length=p.length:=by
 unfold FY;rw[(Uk _ _ (UK p)).2.2,TA]
theorem zzP(A T:List UInt8)(b:∀c∈T,c∈A):∀k∈(Eb A T).2,k<A.length:=by
 have h:∀j,j<=T.length->∀k∈(Eb A (T.take j)).2,k<A.length:=by
  intro j
  induction j with
  |zero=>intro _ k a;simp[Eb] at a
  | succ j i =>
    intro m k a;have g:T.take (j+1)=T.take j++[T[j]]:=Ep Q0
    rw[g,Uj] at a;obtain⟨d,e,l⟩:=Uk A (T.take j) (λc f=>b c (Ls f));unfold QA at a;rcases FZ.1 a with a|a
    ·exact i Q0 k a
    ·have:k=(Eb A (T.take j)).1.idxOf T[j]:=by simpa using a
     rw[this,<-d];exact Pw.2 ((e _).2 (b _ (Et _)))
 have:=h T.length (Af _)
 rwa [Gp] at this
theorem zxL(l:List Int)(M:Int)(e:0<=M)(c:∀x∈l,0<=x/\x<=M):∀n,∀x∈IC n l,0<=x/\x<=M+1:=by
 induction l with
 | nil =>
   intro n x a;rw[IC] at a;rcases Uz n x a with rfl|rfl<;>omega
 | cons y l b =>
   intro n x a;have b:=b λz d=>c z (J6 _ d);have f:=c y Jh;rw[IC] at a;split at a
   ·exact b _ x a
   ·rcases FZ.1 a with a|a
    ·rcases Uz n x a with rfl|rfl<;>omega
    ·rcases CZ.1 a with rfl|a
     ·omega
     ·exact b _ x a
def F4(p:List UInt8):List Nat:=(enc (ints (FY p))).map Int.toNat
theorem zAe(p:List UInt8):∀k∈FY p,k<(Bq p).length:=zzP _ _ (UK p)
theorem TM(p:List UInt8):∀x∈ints (FY p),0<=x/\x<=((Bq p).length:Int)-1:=by
 intro x b;obtain⟨k,a,rfl⟩:=C8.1 b;have:=zAe p k a;omega
theorem Xt(p:List UInt8)(h:p≠[]):∀x∈enc (ints (FY p)),0<=x/\x<=((Bq p).length:Int):=by
 have b:0<(Bq p).length:=Ga.2 (Nu h);intro x a;have:=zxL (ints (FY p)) (((Bq p).length:Int)-1) Q0 (TM p) 0 x a
 omega
theorem Wx(p:List UInt8)(h:p≠[]):ints (F4 p)=enc (ints (FY p)):=by
 unfold F4;have b:=Xt p h;generalize enc (ints (FY p))=E at*
 show(E.map Int.toNat).map (λa:Nat=>(a:Int))=E
 rw[Gq]
 conv=>rhs;rw[<-Mx E]
 apply Gl
 intro x c;have:=b x c;simp only[Function.comp,id];exact Rb this.1
theorem Sd(p:List UInt8)(h:p≠[]):∀k∈F4 p,k<=(Bq p).length:=by
 intro k a;obtain⟨x,b,rfl⟩:=C8.1 a;have:=Xt p h x b;omega
theorem R3(p:List UInt8):(F4 p).length<=p.length:=by
 unfold F4;rw[Da];refine BU (XA _) ?_;rw[Bj,PV];exact Af _
theorem zvM(h:∀x∈l,0<=x):JZ l=false:=by
 unfold JZ;rw[GR];intro x a;have:=h x a;simp;omega
theorem zpV(p:List UInt8)(h:p≠[]):Pi (ints (FY p))=ints (F4 p)/\Pg (ints (FY p))=0:=by
 have b:JZ (ints (FY p))=false:=zvM λx a=>(TM p x a).1
 have c:Pm (ints (FY p))=false:=by
  unfold Pm;rw[GR];intro x a;have:=(TM p x a).2;have:=O3 p;simp;omega
 unfold Pi Pg;rw[b,c];exact⟨(Wx p h).symm,rfl⟩
theorem zvn(p:List UInt8)(h:p≠[])(b:Int)(f:(p.length:Int)<=b):K5 (ints (F4 p)) b=ints (FY p)/\K4 (ints (F4 p)) b=0:=by
 have c:JZ (ints (F4 p))=false:=zvM λx a=>by rw[Wx p h] at a;exact(Xt p h x a).1
 have d:dec (ints (F4 p))=ints (FY p):=by rw[Wx p h];exact zzy _ λx a=>(TM p x a).1
 unfold K5 K4;rw[c,d,Bj,PV];have e:¬ b<(p.length:Int):=Q0
 simp[e]
theorem ztV(p:List UInt8):Kw (Bq p) (ints (FY p))=(Gx p,0):=zrr _ _ (YW p) (UK p)
theorem zus(p:List UInt8):(Gx p).map (·.toNat)=DY (p.map (·.toNat)) (GZ (p.map (·.toNat))):=by
 unfold Gx DY;rw[Gq,Da];apply Gl
 intro k _;simp only[Function.comp];rw[Cx,EA];cases p[FE p.length k]?<;>rfl
theorem Sb(p:List UInt8)(h:p≠[]):EP p<p.length:=by
 unfold EP;have:(0:Nat)∈GZ (p.map (·.toNat)):=(MB _).mem_iff.2 (EB.2 (by rw[Da];exact Ga.2 h))
 have:=Pw.2 this
 rwa [R4,Da] at this
theorem zxv(p:List UInt8)(h:p≠[]):JI ((Gx p).map (·.toNat)) (EP p)=p:=by
 have e:∀x∈p.map (·.toNat),x<256:=λx i=>by
  obtain⟨c,_,rfl⟩:=C8.1 i;exact c.toNat_lt
 have g:(GZ (p.map (·.toNat)))[EP p]?=some 0:=by
  have a:EP p<(GZ (p.map (·.toNat))).length:=by rw[R4,Da];exact Sb p h
  rw[Az a];congr 1
  exact List.getElem_idxOf (x:=0) a
 have b:=zwG (p.map (·.toNat)) (GZ (p.map (·.toNat))) (EP p) e (MB _) (znl _) g;unfold JI;rw[zus];have f:(DY (p.map (·.toNat)) (GZ (p.map (·.toNat)))).length=p.length:=by simp[DY,R4]
 rw[f];rw[Da] at b;generalize DY (p.map (·.toNat)) (GZ (p.map (·.toNat)))=L at*
 have d:(List.range p.length).map (λk=>UInt8.ofNat (L[KT (Ex L) (k+1) (EP p)]?.getD 0))=(p.map (·.toNat)).map UInt8.ofNat:=by
  have:=Co (List.map UInt8.ofNat) b;rw[Gq] at this;exact this
 rw[d,Gq]
 conv=>rhs;rw[<-Mx p]
 apply Gl
 intro c _;simp
abbrev Vx(A:ByteArray)(o:Int)(v:Value):Value:=.agg #[.string A,Qi o,v]
theorem Ui(A:ByteArray)(o:Int)(v:Value)(w:World)(g:A.size<=1000000) :
 Qk 117 #[.agg #[.string A,Qi o,v]] w λe d=>e=.returned (Qi (A.size+1:Nat))/\Qb w d:=by
 have a:Qb w (w.alloc (.cells #[.string A,Qi o,v] 110)):=(Ag _ _).alloc (Af _) _;have b:Qg (w.alloc (.cells #[.string A,Qi o,v] 110)) w.heap.size #[.string A,Qi o,v] 110:=Am _ _ _ rfl;have f:=(Ae b 0).trans rfl;have h:IntKind.i64.wrap ((A.size:Int)+1)=((A.size+1:Nat):Int):=by rw[AU _ Q0];omega
 have c:=Aa a;clear a b
 go_enter Tryz.func117,Tryz.ntmps117
 go_wp2_with fail
 go_ret
 exact⟨rfl,c.out⟩
theorem znf(A:ByteArray)(o:Int)(v:Value)(w:World)(i:A.size<=1000000) :
 Qk 57 #[.agg #[.string A,Qi o,v]] w λe f=>e=.returned (Qi (A.size+2:Nat))/\Qb w f:=by
 have d:Qb w (w.alloc (.cells #[.string A,Qi o,v] 110)):=(Ag _ _).alloc (Af _) _;have a:Qg (w.alloc (.cells #[.string A,Qi o,v] 110)) w.heap.size #[.string A,Qi o,v] 110:=Am _ _ _ rfl;have l:=(Ae a 0).trans rfl;have m:=(Ae a 1).trans rfl;have n:=(Ae a 2).trans rfl;have b:=Aa λW=>Ui A o v W i;have j:IntKind.i64.wrap (((A.size+1:Nat):Int)+1)=((A.size+2:Nat):Int):=by rw[AU _ Q0];omega
 have c:=Aa d;clear d a;obtain⟨p,h⟩:=Qe (A.size+1);rw[h] at b j
 go_enter Tryz.func57,Tryz.ntmps57
 go_wp2_with fail
 refine(b.out _).mono ?_;rintro e f ⟨rfl,g⟩;have k:=Aa (c.out.trans (g.mono c.out.size));clear g b h
 go_wp2_with fail
 go_ret
 exact⟨rfl,k.out⟩
theorem zrt(k:Nat)(w:World)(a b c:Value)(h:Qg w k #[a,b,c] 110):(loadVar 110 ⟨k,0,none⟩).run Tryz.prog w=.ok (.agg #[a,b,c]) w:=by
 have d:=(Ae h 0).trans rfl;have e:=(Ae h 1).trans rfl;have f:=(Ae h 2).trans rfl
 go_simp
def BJ(p:List UInt8):List Nat:=F4 p++[(Bq p).length+1]
def D5(l:List UInt8):ByteArray:=⟨l.toArray⟩
theorem Jo(l:List UInt8):(D5 l).size=l.length:=by simp[D5,ByteArray.size]
theorem JP(l:List UInt8):(D5 l).data.toList=l:=by simp[D5]
theorem zpM(s:ByteArray)(w:World)(h0:0<s.size)(hs:s.size<=60000) :
 Qk 54 #[.string s] w λe a=>∃q c,e=.returned (.tuple #[Vx (D5 (Bq s.data.toList)) (EP s.data.toList:Nat) (.slice q (BJ s.data.toList).length c),Qi 0])/\Ac a a.heap.size (.slice q (BJ s.data.toList).length c) (ints (BJ s.data.toList))/\Qb w a:=by
 have P:s.data.toList.length=s.size:=by simp
 have i:s.data.toList≠[]:=Vn Q0
 have L:Hid (∀W,Qk 114 #[.string s] W λe a=>e=.returned (.tuple #[.string (D5 (Gx s.data.toList)),Qi (EP s.data.toList:Nat)])/\Qb W a):=λW=>zpC s W h0 Q0
 have J:Hid (∀W,Qk 32 #[.string s] W λe a=>e=.returned (.string (D5 (Bq s.data.toList)))/\Qb W a):=λW=>VJ W s Q0
 have a3:0<(Bq s.data.toList).length:=Ga.2 (Nu i);have c4:=O3 s.data.toList
 have M:Hid (∀W,Qk 115 #[.string (D5 (Bq s.data.toList)),.string (D5 (Gx s.data.toList))] W λe a=>∃(q:Option Addr)(c:Nat),e=.returned (.tuple #[.slice q s.size c,Qi 0])/\Ac a a.heap.size (.slice q s.size c) (ints (FY s.data.toList))/\Qb W a):=λW=>by
  have:=zxq (D5 (Bq s.data.toList)) (D5 (Gx s.data.toList)) W (by rw[Jo];exact a3) (by rw[Jo];omega) (by rw[Jo,TA];omega) (by rw[JP];exact YW _) (by rw[JP,JP];exact UK _)
  rw[JP,JP,Jo,TA,P] at this;exact this
 have K:Hid (∀W v,Ac W W.heap.size v (ints (FY s.data.toList))->Qk 116 #[v] W λe a=>∃u,e=.returned (.tuple #[u,Qi 0])/\Ad a W.heap.size u (ints (F4 s.data.toList))/\Qb W a):=λW v h=>by
  have:=zrB W v _ h (by rw[Bj,PV];omega)
  rw[(zpV _ i).1,(zpV _ i).2] at this;exact this
 have y:Hid (∀W v,Qk 117 #[.agg #[.string (D5 (Bq s.data.toList)),Qi (EP s.data.toList:Nat),v]] W λe a=>e=.returned (Qi ((Bq s.data.toList).length+1:Nat))/\Qb W a):=λW v=>by
  have:=Ui (D5 (Bq s.data.toList)) (EP s.data.toList:Nat) v W (by rw[Jo];omega)
  rw[Jo] at this;exact this
 have Y:BJ s.data.toList=F4 s.data.toList++[(Bq s.data.toList).length+1]:=rfl;have b5:(F4 s.data.toList).length<=60000:=by have:=R3 s.data.toList;omega
 rw[Y];have he:(s.toList.isEmpty)=false:=by rw[SH];intro h;exact i (by simpa [SX] using h)
 have hd:decide ((65536:Int)<(s.size:Int))=false:=AV Q0
 generalize Bq s.data.toList=A at*
 generalize Gx s.data.toList=b2 at*
 generalize EP s.data.toList=O at*
 generalize F4 s.data.toList=N at*
 generalize FY s.data.toList=b3 at*
 obtain⟨f,V⟩:=Qe (A.length+1);rw[V] at y |-;clear Y i P V
 go_enter Tryz.func54,Tryz.ntmps54
 go_wp2_with fail
 refine(L.out _).mono ?_;rintro e w1 ⟨rfl,T⟩;have z:=Aa (((BL.nil w).box #[.string ⟨#[]⟩,Qi 0,.slice none 0 0] 110 w.heap.size rfl).step T);clear T L
 go_wp2_with fail
 refine(J.out _).mono ?_;rintro e b ⟨rfl,G⟩;have B:=Aa ((z.out.step G).box #[.string (D5 A),Qi (O:Nat),.slice none 0 0] 110 b.heap.size rfl);have D:=B.out.cellv 0 rfl 0 _ rfl;have c0:w.heap.size+1<=b.heap.size:=by have:=z.out.lt 0 rfl;have:=G.size;omega
 clear G J z
 go_wp2_with fail
 refine(M.out _).mono ?_;rintro e n ⟨q,c,rfl,I,U⟩;have p:=Aa ((B.out.step U).add I);have Q:=Aa (K.out n _ I);clear I U M B K D
 go_wp2_with fail
 refine Q.out.mono ?_;rintro e w4 ⟨u,rfl,Z,H⟩;have o:=Aa (p.out.step H);have F:=Aa Z;have b6:w.heap.size+1<=n.heap.size:=by have:=p.out.lt 1 rfl;omega
 have c3:=H.size;have a6:=p.out.lt 0 rfl;have D:=o.out.cellv 0 rfl 0 _ rfl;have c1:=o.out.cellv 0 rfl 1 _ rfl;have c2:=o.out.cellv 0 rfl 2 _ rfl;clear Z H Q p
 go_wp2_with fail
 refine(y.out _ _).mono ?_;rintro e r ⟨rfl,x⟩;have a1:=Aa (o.out.step x);have t:Hid (Ad r n.heap.size u (ints N)):=F.out.below x;have b7:=x.size;obtain⟨q6,c6,rfl⟩:=t.out.shape;rw[Bj] at F t |-;have R:Hid ((ints N).length=N.length):=Bj N;clear x y o D c1 c2 F
 go_wp2_with
  (at_builtin
   refine KN rfl _ _ rfl n.heap.size _ (ints N) rfl (t.out.alloc _) (r.heap.size+1) _ [(f:Int)] rfl (Ac.new r [(f:Int)] _ _ _ rfl rfl rfl (by simp[maxLen])) (by rw[R.out];simp;omega) Q4 ?_
   intro m l g a0 X b0;have S:=Aa a0;have i:∀j,(Value.slice q6 N.length c6).ownBlock=some j->n.heap.size<=j:=λj e=>Dm t.out e;have C:=Aa ((a1.out.alloc (.cells #[Qi (f:Int)] 3)));have E:Hid (Below n.heap.size (r.alloc (.cells #[Qi (f:Int)] 3)) g):=(Ag _ _).grown X Q4 i
   have k:Qg g b.heap.size #[.string (D5 A),Qi (O:Nat),.slice none 0 0] 110:=(E.out.block _ a6).trans (C.out.blk 0 rfl);have d:Qg g w.heap.size #[.string ⟨#[]⟩,Qi 0,.slice none 0 0] 110:=(E.out.block _ Q0).trans (C.out.blk 1 rfl)
   have k0:=(Ae k 0).trans rfl;have k1:=(Ae k 1).trans rfl;have k2:=(Ae k 2).trans rfl;have f2:=Ah k 2;have j0:=(Ae d 0).trans rfl;have j1:=(Ae d 1).trans rfl;have j2:=(Ae d 2).trans rfl;have g0:=Ah d 0;have g1:=Ah d 1;have g2:=Ah d 2;have b8:=Aj d;have b9:=Aj k;have m1:¬ b.heap.size=w.heap.size:=Q0
   have m2:¬ w.heap.size=b.heap.size:=Q0
   rw[R.out] at S |-;have b4:=Aa k;have a2:=Aa d;clear a0 X b0 i k d)
 have a9:=Ak (Ak (Ak ((Bg g ⟨b.heap.size,2,none⟩ (.slice m (N.length+1) l) w.heap.size m2).trans a2.out) 0 (.string (D5 A))) 1 (Qi (O:Nat))) 2 (.slice m (N.length+1) l);refine BV (Nn rfl _ _ _ ⟨w.heap.size,0,none⟩ _ rfl (zrt _ _ _ _ _ a9)) rfl ?_;have a4:Ab b.heap.size g (g.setCell ⟨b.heap.size,2,none⟩ (.slice m (N.length+1) l)):=(Ab.refl _ _).set _ _;have a5:=(((Ab.refl w.heap.size (g.setCell ⟨b.heap.size,2,none⟩ (.slice m (N.length+1) l))).set 0 (.string (D5 A))).set 1 (Qi (O:Nat))).set 2 (.slice m (N.length+1) l);have a8:=Dq (Dq S.out a4 Q0) a5 Q0
 have a7:Qb w g:=C.out.bel.trans (E.out.mono Q0)
 have b1:Ac _ _ (.slice m (N.length+1) l) (ints N++[(f:Int)]):=Ad.is a8;have e1:ints (N++[f])=ints N++[(f:Int)]:=by simp[ints]
 have e2:(N++[f]).length=N.length+1:=by simp
 rw[e1,e2];exact⟨_,_,rfl,b1,Ce (Ce (Ce (Ce a7 Q0 _ _) Q0 _ _) Q0 _ _) Q0 _ _⟩
def OQ(t p:List UInt8):List (List Bool):=[B.low 54156738319193 48,B.low (BG t) 32,B.low (EP p) 16,FJ (Bq p),B.low 2 3,B.low (Cs (BJ p).length) 15,FX (List.range 6) (Cz (BJ p) ((Bq p).length+2))]
def Sh(p:List UInt8):List (List Bool):=(List.range 2).map λi=>FT (B6 (BJ p) ((Bq p).length+2) i)
def Sj(p:List UInt8)(i:Nat):List Bool:=Gw (B6 (BJ p) ((Bq p).length+2) (IG (BJ p) ((Bq p).length+2) i)) (Ee (BJ p) i)
def Tt(t p:List UInt8):List (List Bool):=OQ t p++Sh p++(List.range (Cs (BJ p).length)).map (Sj p)
def Kf(t p:List UInt8):List Bool:=(Tt t p).flatten
structure Ct(w W:World)(rc sb wb:Nat)(A:ByteArray)(o:Nat)(v tv cv:Value)(T:List SV)(C S:List Int)(ls:List (List Bool)):Prop where
 bel:Qb w W
 res:Qh W rc (Obj.cells #[.string ⟨#[]⟩,Qi 0] 50 (0,0))
 sq:Qh W sb (Obj.cells #[.string A,Qi (o:Nat),v] 110 (0,0))
 tabs:Db W wb tv T
 cho:Ac W wb cv C
 sym:Ac W wb v S
 wr:Dc W wb ls
 rlt:rc<wb
 slt:sb<wb
 wlt:w.heap.size<=wb
 rge:w.heap.size<=rc
theorem Dc.lt(h:Dc w n C):n<w.heap.size:=by
 obtain⟨v,h,_⟩:=h;exact Aj h
theorem Dc.below(h:Dc w n C)(b:Qb w v):Dc v n C:=by
 obtain⟨c,a,d⟩:=h;exact⟨c,(b.block n (Aj a)).trans a,Cd d b⟩
theorem Ct.step{T:List SV}{b:List (List Bool)}(h:Ct w v n m k t i x y z T l L C)(a:BM k v u)(c:Dc u k b):Ct w u n m k t i x y z T l L b :=
 ⟨h.bel.trans (a.bel.mono h.wlt),(a.bel.block n h.rlt).trans h.res,(a.bel.block m h.slt).trans h.sq,h.tabs.below a.bel (Af _),h.cho.below a.bel (Af _),h.sym.below a.bel (Af _),c,h.rlt,h.slt,h.wlt,h.rge⟩
theorem Ct.below{T:List SV}(h:Ct w v n m k t i x y z T l L C)(a:Qb v u):Ct w u n m k t i x y z T l L C :=
 h.step (BM.of a (KI h.wr.lt)) (h.wr.below a)
theorem Ct.isTabs{T:List SV}(h:Ct w v n m k t i x y z T l L C):Db v v.heap.size y T:=h.tabs.mono (KI h.wr.lt)
theorem Ct.isCho{T:List SV}(h:Ct w v n m k t i x y z T l L C):Ac v v.heap.size z l:=h.cho.mono (KI h.wr.lt)
theorem Ct.isSym{T:List SV}(h:Ct w v n m k t i x y z T l L C):Ac v v.heap.size x L:=h.sym.mono (KI h.wr.lt)
theorem ztk(w:World)(c d:Value)(l m:List Nat)(j:Ac w w.heap.size c (ints l))(g:Code l)(n:Ac w w.heap.size d (ints m))(o:m.length<=1000)(i:∀x∈m,x<l.length) :
 Qk 62 #[c,d] w λe k=>e=.returned (.tuple #[.agg #[.string (Ba (Gw l m)),Qi ((Gw l m).length:Nat)],Qi 0])/\Qb w k:=by
 have b:=g.most
 have h:=zys w c d l (ints m) j g n (by rw[Bj];omega) (by
  intro x b;obtain⟨s,f,rfl⟩:=C8.1 b;have:=i s f
  constructor<;>omega)
 have e:MH l (ints m)=(Gw l m,0):=by
  unfold MH
  rw[if_pos (by
   intro x b;obtain⟨s,f,rfl⟩:=C8.1 b;have:=i s f;omega)]
  congr 2
  show(m.map (λa:Nat=>(a:Int))).map Int.toNat=m
  rw[Gq]
  conv=>rhs;rw[<-Mx m]
  apply Gl
  intro x _;rfl
 rw[e] at h;exact h
def Sy(m:List Nat)(n i:Nat):List Bool:=Gw (B6 m n (IG m n i)) (Ee m i)
theorem zoc(d7:ByteArray)(g5:Int)(w b0:World)(b J t o n M G:Nat)(A:ByteArray)(N P I:Option Addr)(K O H:Nat)(g h:Value)(m:List Nat)(y:List (List Bool))(b7:m.length=M)(g9:M<=60000)(V:Cs M=G)(v:2<=n)(c9:n<=258)(hs:∀x∈m,x<n)(f1:y.length<=1000)
 (b6:Ct w b0 b J t A o (.slice N M K) (.slice P 2 O) (.slice I G H) [(g,ints (B6 m n 0)),(h,ints (B6 m n 1))] (ints (Cz m n)) (ints m) y)
 (D:List Bool) (b5:((y++(List.range 2).map λi=>FT (B6 m n i))++(List.range G).map (Sy m n)).flatten=D) (g8:D.length<=549755813888)
 {z1 z2 z3 z4 z5 z6 z7 z8 z9 f5 f6 f7 b1:Go.Code} (hc:Tryz.f17.body=some (z1.seq (z2.seq (z3.seq (z4.seq (z5.seq (z6.seq (z7.seq (z8.seq (z9.seq (f5.seq (f6.seq (f7.seq b1)))))))))))))
 (a9:Exit->Act->World->Prop) (d8:Hid (∀(Y:Array Value)(a0:World),Y[4]?.getD undef=Qp b 0->Y[5]?.getD undef=Qi 0->Qg a0 b #[.string (Ba D),Qi (D.length:Nat)] 50->Qb w a0->a9 .ret { tmps:=Y,defers:=[] } a0))
 {u2 u3 u7 u10 u12 u13 u14 u15 u16 u17 u18 u19 u20 u21 u22 u23 u24 u25 u26 u27 u28 u29 u30 u31 u32 u33 u34 u35 u36 u37 u38 u39 u40 u41 u42 u43 u44 u45 u46 u47 u48 u49 u50 u51 u52 u53 u54 u55 u56 u57 u58 u59 u60 u61 u62 u63 u64 u65 u66 u67 u68 u69 u70 u71 u72 u73 u74 u75 u76 u77 u78 u79 u80 u81 u82 u83 u84 u85 u86 u87 u88 u89 u90 u91 u92 u93 u94 u95 u96 u97 u98 u99 u100 u101 u102 u103 u104 u105 u106 u107:Value} :
 Go.Code.wp Tryz.prog b1 a9 { tmps:=#[.string d7,Qi g5,u2,u3,.pointer (some ⟨b,0,none⟩),Qi 0,.pointer (some ⟨J,0,none⟩),u7,.slice P 2 O,.slice I G H,u10,.pointer (some ⟨t,0,none⟩),u12,u13,u14,u15,u16,u17,u18,u19,u20,u21,u22,u23,u24,u25,u26,u27,u28,u29,u30,u31,u32,u33,u34,u35,u36,u37,u38,u39,u40,u41,u42,u43,u44,u45,u46,u47,u48,u49,u50,u51,u52,u53,u54,u55,u56,u57,u58,u59,u60,u61,u62,u63,u64,u65,u66,u67,u68,u69,u70,u71,u72,u73,u74,u75,u76,u77,u78,u79,u80,u81,u82,u83,u84,u85,u86,u87,u88,u89,u90,u91,u92,u93,u94,u95,u96,u97,u98,u99,u100,u101,u102,u103,u104,u105,u106,u107],defers:=[] } b0:=by
 have d:=Aa b7;have F:=Aa V;have d9:=Aa hs;have b4:=Aa b5;have HE:=Aa b6;have h2:G<=6000:=by rw[<-V];simp only[Cs];omega
 clear b7 V hs b5 b6;simp only[Tryz.f17,Om,Go.Code.seq.injEq] at hc;obtain⟨-,-,-,-,-,-,-,-,-,-,-,-,rfl⟩:=hc
 dsimp only
 go_upto_region 16 with(fail)
 go_wp2_with fail
 go_loopw [71] (λf wr=>∃k:Nat,k<=2/\f=Qi k/\Hid (Ct w wr b J t A o (.slice N M K) (.slice P 2 O) (.slice I G H) [(g,ints (B6 m n 0)),(h,ints (B6 m n 1))] (ints (Cz m n)) (ints m) (y++(List.range k).map λi=>FT (B6 m n i)))) (λf _=>3-(intOf f).toNat)
 case atStart=>exact⟨0,Q0,rfl,Aa (by simpa using HE.out)⟩
 case round =>
  clear HE;obtain⟨k,hk,rfl,HE⟩:=hrel
  by_cases B:k<2
  ·obtain⟨s,C⟩:∃s,([(g,ints (B6 m n 0)),(h,ints (B6 m n 1))]:List SV)[k]?=some (s,ints (B6 m n k)):=by
    rcases(show k=0\/k=1 by omega) with rfl|rfl
    ·exact⟨g,rfl⟩
    ·exact⟨h,rfl⟩
   obtain⟨d4,o2,rfl,W,a4,c⟩:=HE.out.isTabs.at k _ C;obtain⟨q,z⟩:=Qy m n k (by rw[d.out];omega) v c9
   obtain⟨qi,di,a6,e7,-⟩:=c.shape;rw[Bj,z] at a6
   dsimp only at a6 c a4
   subst a6;have b2:=Aa (YP wr (.slice qi n di) (B6 m n k) c q.two q.most q.fits);clear C c q z W e7
   go_wp2_with fail
   refine b2.out.mono ?_;rintro e w1 ⟨rfl,b9⟩;have a1:=Aa (HE.out.below b9);clear b9 HE b2
   go_wp2_with fail
   refine(Uv w1 t _ _ 0 a1.out.wr Q4).mono ?_
   rintro e w2 ⟨rfl,c6,c4⟩;have e1:=Aa (a1.out.step c4 c6);clear c6 c4 a1
   go_wp2_with fail
   go_roundw
   case rel=>exact⟨k+1,Q0,by go_num,Aa (by have:=e1.out;rw[BN] at this;rw[Fh,D3];exact this)⟩
   case measure=>simp[intOf];omega
  ·obtain rfl:k=2:=Q0
   obtain⟨E,a7⟩:∃E,(y++(List.range 2).map λi=>FT (B6 m n i))=E:=⟨_,rfl⟩;have h1:E.length<=1002:=by rw[<-a7];simp;omega
   rw[a7] at b4 HE;have f4:=(Ae HE.out.sq 2).trans rfl;have b3:=Aa (ZE wr (.slice N M K) (ints m) HE.out.isSym (by rw[Bj,d.out];omega))
   clear a7 f1 B hk
   go_wp2_with fail
   refine b3.out.mono ?_;rintro e w3 ⟨L,d6,gc,rfl,S,a3,c0⟩
   have a2:L.length=G:=by
    have:=Co List.length a3;simp only[N7,Da,Gn,Bj,d.out,F.out] at this;exact this
   obtain⟨gb,c3⟩:=Qe wr.heap.size;rw[c3] at S;rw[a2] at S |-;have l:=Aa S;have g7:=Aa a2;have e3:=Aa a3;have b8:=Aa (HE.out.below c0);clear S a3 a2 c0 HE b3 f4 c3
   go_wp2_with fail
   go_loopw [85] (λf wr=>∃k:Nat,k<=G/\f=Qi k/\Hid (Ct w wr b J t A o (.slice N M K) (.slice P 2 O) (.slice I G H) [(g,ints (B6 m n 0)),(h,ints (B6 m n 1))] (ints (Cz m n)) (ints m) (E++(List.range k).map (Sy m n)))/\Hid (AC wr gb (.slice d6 G gc) L)) (λf _=>G+1-(intOf f).toNat)
   case atStart=>exact⟨0,Q0,rfl,Aa (by simpa using b8.out),l⟩
   case round =>
    clear b8 l;obtain⟨k,hk,rfl,HE,l⟩:=hrel
    by_cases B:k<G
    ·obtain⟨Z,c5⟩:∃Z,L[k]?=some (Z,ints (Ee m k)):=by
      have r:=Co (λd5=>d5[k]?) e3.out;simp only[N7,EA,Bj,d.out,F.out,Ji B,Iz,zqa] at r;cases v:L[k]? with
      |none=>rw[v] at r;simp at r
      |some x=>rw[v] at r;simp only[Iz,Om] at r;exact⟨x.1,by rw[<-r]⟩
     obtain⟨d4,o2,hq,W,a4,c⟩:=l.out.is.at k _ c5;obtain⟨g3,o3,e5,e8,c1⟩:=HE.out.isCho.at k (by simp[Cz,Bj,d.out,F.out];exact B)
     have c2:(ints (Cz m n))[k]?.getD 0=((IG m n k:Nat):Int):=by simp[ints,Cz,d.out,F.out,Ji B]
     rw[c2] at c1;obtain⟨j,X⟩:=Qe (IG m n k);have h0:j<2:=by rw[<-X];unfold IG;split<;>omega
     have d3:Sy m n k=Gw (B6 m n j) (Ee m k):=by rw[<-X];rfl
     rw[X] at c1
     obtain⟨s,C⟩:∃s,([(g,ints (B6 m n 0)),(h,ints (B6 m n 1))]:List SV)[j]?=some (s,ints (B6 m n j)):=by
      rcases(show j=0\/j=1 by omega) with rfl|rfl
      ·exact⟨g,rfl⟩
      ·exact⟨h,rfl⟩
     obtain⟨g4,o4,f2,e9,e6,R⟩:=HE.out.isTabs.at j _ C;obtain⟨q,z⟩:=Qy m n j (by rw[d.out];omega) v c9
     dsimp only at a4 e6 R c
     have U:=Aa (ztk wr s Z (B6 m n j) (Ee m k) R q c (by have:=OL m k;omega) (λx hx=>by rw[z];exact d9.out x (UH hx)))
     obtain⟨qg,cg,g1,-,-⟩:=c.shape;obtain⟨qt,ct,g2,-,-⟩:=R.shape;rw[<-d3] at U;subst hq e5 f2 g1 g2;clear c5 C c R q z W e8 e9 d3 c2
     go_wp2_with fail
     refine U.out.mono ?_;rintro e w4 ⟨rfl,u⟩;have a:=Aa (HE.out.below u);have c8:=Aa (l.out.below u);clear u HE l U
     go_wp2_with fail
     refine(Uv w4 t _ _ 0 a.out.wr Q4).mono ?_
     rintro e w5 ⟨rfl,c7,a5⟩;have e2:=Aa (a.out.step a5 c7);have g0:=Aa (a5.sl c8.out);clear c7 a5 a c8
     go_wp2_with fail
     go_roundw
     case rel=>exact⟨k+1,Q0,by go_num,Aa (by have:=e2.out;rw[BN] at this;rw[Fh,D3];exact this),g0⟩
     case measure=>simp[intOf];omega
    ·obtain rfl:k=G:=Q0
     obtain⟨g6,d1,a8⟩:=HE.out.wr;obtain⟨qw,cw,rfl⟩:=EN a8;have f3:=(Ae d1 0).trans rfl;obtain⟨e0,Q⟩:=Qe ((E++(List.range k).map (Sy m n)).length);have e4:e0<=7002:=by rw[<-Q];simp;omega
     have T:=Aa (UT wr _ _ D b4.out (zmY a8) (by rw[Q];omega))
     rw[Q] at T f3;clear d1 a8 Q e4 l
     go_wp2_with fail
     refine T.out.mono ?_;rintro e w4 ⟨rfl,u⟩;have a:=Aa (HE.out.below u);have k0:=(Ae a.out.res 0).trans rfl;have k1:=(Ae a.out.res 1).trans rfl;have f0:=Ah a.out.res;have d2:=Ak (Ak a.out.res 0 (.string (Ba D))) 1 (Qi (D.length:Nat));have d0:Qb w ((w4.setCell ⟨b,0,none⟩ (.string (Ba D))).setCell ⟨b,1,none⟩ (Qi (D.length:Nat))):=(a.out.bel.setCell (p:=⟨b,0,none⟩) a.out.rge _).setCell (p:=⟨b,1,none⟩) a.out.rge _;have f9:=Aa d2;have f8:=Aa d0;clear d2 d0 u HE T
     go_wp2_with fail
     exact d8.out _ _ rfl rfl f9.out f8.out
theorem zyX(t p:List UInt8)(m:List Nat)(n G:Nat)(b:BJ p=m)(c:(Bq p).length+2=n)(a:Cs m.length=G) :
 ((OQ t p++(List.range 2).map λi=>FT (B6 m n i))++(List.range G).map (Sy m n)).flatten=Kf t p:=by
 unfold Kf Tt Sh Sj;rw[b,c,a];rfl
theorem zyq(h:e≠[]):D6 e≠[]:=by
 intro b;have:=Zv e (e.length:Int) Q0
 rw[b] at this;have a:=Zv [] (e.length:Int) Q6
 have c:D6 []=[]:=by unfold D6 Ef;rfl
 rw[c,this] at a;exact h (Co Prod.fst a)
theorem ztp(s:ByteArray)(C:Int)(w:World)(h0:0<s.size)(hs:s.size<=1000000)(k5:1<=C)(hr:C<=360)(e8:(Gs s.data.toList:Int)<=C)(Q:(Kf s.data.toList (D6 s.data.toList)).length<=549755813888) :
 Qk 17 #[.string s,Qi C] w λe a=>e=.returned (.tuple #[.agg #[.string (Ba (Kf s.data.toList (D6 s.data.toList))),Qi ((Kf s.data.toList (D6 s.data.toList)).length:Nat)],Qi 0])/\Qb w a:=by
 obtain⟨t,H⟩:=Qe s.data.toList;have i0:t.length=s.size:=by rw[<-H];simp
 have a5:Hid (∀W,Qk 53 #[.string s] W λe a=>e=.returned (Qi (Gs t:Nat))/\Qb W a):=λW=>by have:=zod s W hs;rw[H] at this;exact this
 have a4:Hid (∀W,Qk 55 #[.string s] W λe a=>e=.returned (.string (D5 (D6 t)))/\Qb W a):=λW=>by have:=zwo s W hs;rw[H] at this;exact this
 have a3:Hid (∀W,Qk 22 #[.string s] W λe a=>e=.returned (.int .u32 (BG t:Nat))/\Qb W a):=λW=>by have:=UL s Q0 W;rw[H] at this;exact this
 have f0:Hid (∀W,Qk 52 #[Qi C] W λe a=>e=.returned (.bool true)/\W=a):=λW=>by
  have:=zm1 C W;rw[Bl k5,Bl hr,Nc] at this;exact this
 rw[H] at e8 Q |-;have h8:(D6 t).length<=360:=by rw[TK];omega
 have K:D6 t≠[]:=zyq (Vn Q0)
 obtain⟨p,hp⟩:=Qe (D6 t);rw[hp] at a4 h8 K Q |-;obtain⟨m,F⟩:=Qe (BJ p);obtain⟨M,u⟩:=Qe m.length
 have l6:M<=361:=by
  rw[<-u,<-F,BJ,AJ];have:=R3 p;simp;omega
 have l5:0<M:=by rw[<-u,<-F,BJ];simp
 obtain⟨G,I⟩:=Qe (Cs M);have l0:=O3 p;have k3:0<(Bq p).length:=Ga.2 (Nu K);obtain⟨A,V⟩:=Qe (D5 (Bq p));have g6:A.size=(Bq p).length:=by rw[<-V,Jo]
 have g5:A.data.toList=Bq p:=by rw[<-V,JP]
 obtain⟨n,X⟩:=Qe ((Bq p).length+2);obtain⟨o,ho⟩:=Qe (EP p);have l7:o<360:=by have:=Sb p K;omega
 have d7:∀x∈m,x<n:=by
  intro x D;rw[<-F,BJ] at D;rcases FZ.1 D with D|D
  ·have:=Sd p K x D;omega
  ·have:x=(Bq p).length+1:=by simpa using D
   omega
 have f1:Hid (∀W,Qk 54 #[.string (D5 p)] W λe a=>∃q c,e=.returned (.tuple #[Vx A (o:Nat) (.slice q M c),Qi 0])/\Ac a a.heap.size (.slice q M c) (ints m)/\Qb W a):=λW=>by
  have:=zpM (D5 p) W (by rw[Jo];exact Ga.2 K) (by rw[Jo];omega)
  rw[JP,V,ho,F,u] at this;exact this
 have e9:Hid (∀W v,Qk 57 #[.agg #[.string A,Qi (o:Nat),v]] W λe a=>e=.returned (Qi (n:Nat))/\Qb W a):=λW v=>by
  have:=znf A (o:Nat) v W Q0
  rw[g6,X] at this;exact this
 have f2:Hid (∀W v,Ac W W.heap.size v (ints m)->Qk 56 #[v,Qi (n:Nat)] W λe a=>∃(L N:Value)(q:Option Addr)(c:Nat)(q2:Option Addr)(c2:Nat),e=.returned (.tuple #[.slice q 2 c,.slice q2 G c2,Qi 0])/\
  Db a a.heap.size (.slice q 2 c) [(L,ints (B6 m n 0)),(N,ints (B6 m n 1))]/\Ac a a.heap.size (.slice q2 G c2) (ints (Cz m n))/\Qb W a):=λW v h=>by
  have:=zv8 W v m n h Q0 Q0 Q0 Q0 d7
  rw[u,I] at this;exact this
 have a6:Hid (∀W,Qk 60 #[.string A] W λe a=>e=.returned (.agg #[.string (Ba (FJ (Bq p))),Qi ((FJ (Bq p)).length:Nat)])/\Qb W a):=λW=>by
  have:=zz2 W A Q0
  rw[g5] at this;exact this
 have a7:Hid (∀W v,Ac W W.heap.size v (ints (Cz m n))->Qk 27 #[v,Qi 2] W λe a=>e=.returned (.tuple #[.agg #[.string (Ba (FX (List.range 6) (Cz m n))),Qi ((FX (List.range 6) (Cz m n)).length:Nat)],Qi 0])/\Qb W a):=λW v h=>by
  refine zkk W v (Cz m n) 2 h (by simp[Cz,u,Cs];omega) Q0 Q0 (λx D=>?_)
  obtain⟨l1,-,rfl⟩:=C8.1 D;unfold IG;split<;>omega
 have f3:=Aa (zyX t p m n G F X (by rw[u];exact I))
 have d6:OQ t p=[B.low 54156738319193 48,B.low (BG t) 32,B.low o 16,FJ (Bq p),B.low 2 3,B.low G 15,FX (List.range 6) (Cz m n)]:=by
  unfold OQ;rw[F,ho,X,u,I]
 have d5:BG t<4294967296:=Qu t;have l4:G<=37:=by rw[<-I];simp only[Cs];omega
 obtain⟨j1,h1⟩:=Qe (Gs t);rw[h1] at a5 e8;have d1:decide (C<(j1:Int))=false:=AV Q0
 have l8:s.toList.isEmpty=false:=by
  rw[Lib.toList_data,H];cases t with
  |nil=>simp at i0;omega
  |cons x l2=>rfl
 have j0:=Aa u;have j5:=Aa d7;have i9:=Aa I;have j6:2<=n:=Q0
 have j7:n<=258:=Q0
 obtain⟨i8,c8⟩:=Qe (Kf t p);obtain⟨b1,c9⟩:=Qe (B.low 54156738319193 48);obtain⟨b2,a0⟩:=Qe (B.low (BG t) 32);obtain⟨b3,d0⟩:=Qe (B.low o 16);obtain⟨b4,E⟩:=Qe (FJ (Bq p));obtain⟨b5,d2⟩:=Qe (B.low 2 3);obtain⟨b6,d3⟩:=Qe (B.low G 15);obtain⟨b7,d4⟩:=Qe (FX (List.range 6) (Cz m n));rw[c9,a0,d0,E,d2,d3,d4] at d6;rw[d6,c8] at f3;rw[c8] at Q |-;rw[E] at a6;rw[d4] at a7;obtain⟨U,h6⟩:=Qe (BG t);rw[h6] at a3 d5 a0;have f4:Hid (∀W b d,Dc W b d->d.length<=100000->Qk 58 #[Qp b 0,.int .u64 54156738319193,Qi 48] W λe a=>e=.returned (.tuple #[])/\Dc a b (d++[b1])/\BM b W a):=λW b d h y=>Rz W b d 54156738319193 48 b1 h y Q5 Q5 c9
 have f5:Hid (∀W b d,Dc W b d->d.length<=100000->Qk 58 #[Qp b 0,.int .u64 (U:Nat),Qi 32] W λe a=>e=.returned (.tuple #[])/\Dc a b (d++[b2])/\BM b W a):=λW b d h y=>Rz W b d U 32 b2 h y Q0 Q5 a0
 have f6:Hid (∀W b d,Dc W b d->d.length<=100000->Qk 58 #[Qp b 0,.int .u64 (o:Nat),Qi 16] W λe a=>e=.returned (.tuple #[])/\Dc a b (d++[b3])/\BM b W a):=λW b d h y=>Rz W b d o 16 b3 h y Q0 Q5 d0
 have f7:Hid (∀W b d,Dc W b d->d.length<=100000->Qk 58 #[Qp b 0,.int .u64 2,Qi 3] W λe a=>e=.returned (.tuple #[])/\Dc a b (d++[b5])/\BM b W a):=λW b d h y=>Rz W b d 2 3 b5 h y Q5 Q5 d2
 have f8:Hid (∀W b d,Dc W b d->d.length<=100000->Qk 58 #[Qp b 0,.int .u64 (G:Nat),Qi 15] W λe a=>e=.returned (.tuple #[])/\Dc a b (d++[b6])/\BM b W a):=λW b d h y=>Rz W b d G 15 b6 h y Q0 Q5 d3
 have j4:=Aa Q;have j3:=Aa d5;clear Q d5 c8 c9 a0 d0 E d2 d3 d4 h6 d6;clear h1 H i0 hp F u I V g6 g5 X ho d7 l0 k3 K h8 e8
 go_enter Tryz.func17,Tryz.ntmps17
 go_wp2_with fail
 refine(f0.out _).mono ?_;rintro e w1 ⟨rfl,rfl⟩
 go_wp2_with fail
 refine(a5.out _).mono ?_;rintro e w1 ⟨rfl,c5⟩;obtain⟨j,a1⟩:=Qe w.heap.size;have i3:Qg w1 j #[.string ⟨#[]⟩,Qi 0] 50:=(c5.block j (by simp[a1])).trans (Am _ _ _ a1.symm)
 have a8:Hid (Qb w w1):=(Ay (Ag _ _) (.cells #[.string ⟨#[]⟩,Qi 0] 50)).trans (c5.mono Q6)
 have c3:=Aa i3;rw[a1];clear c5 i3
 go_wp2_with fail
 refine(a4.out _).mono ?_;rintro e w2 ⟨rfl,c6⟩;have a9:=Aa (a8.out.trans (c6.mono a8.out.size));have c4:=Aa ((c6.block j (Aj c3.out)).trans c3.out);clear c6 a8 c3
 go_wp2_with fail
 refine(f1.out _).mono ?_;rintro e w3 ⟨l,k,rfl,h7,c7⟩;have f9:=Aa (a9.out.trans (c7.mono a9.out.size));have g4:=Aa ((c7.block j (Aj c4.out)).trans c4.out);have g2:=Aa h7;clear c7 a9 c4 h7
 go_upto_region 6 with(fail)
 obtain⟨i,d8⟩:=Qe w3.heap.size;have i4:Qg (w3.alloc (.cells #[.string A,Qi (o:Nat),.slice l M k] 110)) i #[.string A,Qi (o:Nat),.slice l M k] 110:=Am _ _ _ d8.symm;have O:=Aa i4;have c1:=Aa (Bb (.cells #[.string A,Qi (o:Nat),.slice l M k] 110) g4.out);have c0:=Aa (DS g2.out (Ay (Ag _ _) (.cells #[.string A,Qi (o:Nat),.slice l M k] 110)));have b0:=Aa (Ay f9.out (.cells #[.string A,Qi (o:Nat),.slice l M k] 110));rw[d8];clear i4 d8 g4 g2 f9 f0 a5 a4 f1;generalize w3.alloc (.cells #[.string A,Qi (o:Nat),.slice l M k] 110)=r at*
 have P:Hid (∀a:World,Qb r a->Qb r a/\Qc a i 0 (.string A)/\Qc a i 1 (Qi (o:Nat))/\Qc a i 2 (.slice l M k)):=λa h=>by
  have h2:=(h.block i (Aj O.out)).trans O.out;exact⟨h,(Ae h2 0).trans rfl,(Ae h2 1).trans rfl,(Ae h2 2).trans rfl⟩
 have E:Qb r r:=Ag _ _;have k0:=(P.out r E).2.1;have k1:=(P.out r E).2.2.1;have k2:=(P.out r E).2.2.2
 go_region_held3 (λa=>Qb r a/\Qc a i 0 (.string A)/\Qc a i 1 (Qi (o:Nat))/\Qc a i 2 (.slice l M k))
  ((refine P.out _ ?_;first|assumption|exact Cq Q3|exact A9 Q3 (Bh Q3)|fail))
  ((first
    |(go_at_call 57
      refine(e9.out _ _).mono ?_;rintro e w5 ⟨rfl,g7⟩;have k4:Qb r w5:=A9 g7 (Bh Q3))
    |(go_at_call 56
      refine(f2.out _ _ (DS c0.out (Bh Q3))).mono ?_
      rintro e J ⟨L,N,Z,Y,T,S,rfl,h9,h3,g8⟩;have R:Qb r J:=A9 g8 (Bh Q3))
    |fail))
 have b8:=Aa (b0.out.trans (R.mono b0.out.size));have e6:=Aa ((R.block j (Aj c1.out)).trans c1.out);have e7:=Aa ((R.block i (Aj O.out)).trans O.out);have i5:=Aa (DS c0.out R);have g3:=Aa h9;have g0:=Aa h3;clear k0 k1 k2 E k4 R h9 h3 c1 O c0 b0 P e9 f2 g7 g8
 go_upto_region 8 with(fail)
 obtain⟨b,z⟩:=Qe J.heap.size
 have HE:Hid (Ct w (J.alloc (.cells #[.slice none 0 0] 118)) j i b A o (.slice l M k) (.slice Z 2 Y) (.slice T G S) [(L,ints (B6 m n 0)),(N,ints (B6 m n 1))] (ints (Cz m n)) (ints m) []):=by
  have hb:=Ay (Ag J.heap.size J) (.cells #[.slice none 0 0] 118);refine⟨Ay b8.out _,Bb _ e6.out,Bb _ e7.out,?_,?_,?_,⟨_,Am _ _ _ z.symm,GU _ _ _ _⟩,?_,?_,?_,?_⟩
  ·rw[<-z];exact g3.out.below hb (Af _)
  ·rw[<-z];exact g0.out.below hb (Af _)
  ·rw[<-z];exact i5.out.below hb (Af _)
  ·rw[<-z];exact Aj e6.out
  ·rw[<-z];exact Aj e7.out
  ·rw[<-z];exact b8.out.size
  ·exact EV a1
 rw[z];clear z g3 g0 i5 e6 e7 b8;generalize J.alloc (.cells #[.slice none 0 0] 118)=l3 at*
 go_wp2_with fail
 refine(f4.out _ b _ HE.out.wr Q6).mono ?_
 rintro e w8 ⟨rfl,g,f⟩;have g1:=Aa (HE.out.step f g);clear g f HE f4
 go_wp2_with fail
 refine(a3.out _).mono ?_;rintro e w9 ⟨rfl,g9⟩;have b9:=Aa (g1.out.below g9);have j8:=j3.out;have i1:IntKind.u64.wrap (U:Int)=(U:Int):=P4 _ Q0
 clear g9 g1 a3 j8
 go_wp2_with fail
 refine(f5.out _ b _ b9.out.wr Q6).mono ?_
 rintro e l9 ⟨rfl,g,f⟩;have a2:=Aa (b9.out.step f g);have ko:=(Ae a2.out.sq 1).trans rfl;have i2:IntKind.u64.wrap (o:Int)=(o:Int):=P4 _ Q0
 clear g f b9 f5 i1
 go_wp2_with fail
 refine(f6.out _ b _ a2.out.wr Q6).mono ?_
 rintro e m0 ⟨rfl,g,f⟩;have d9:=Aa (a2.out.step f g);have ka:=(Ae d9.out.sq 0).trans rfl;clear g f a2 f6 i2 ko
 go_wp2_with fail
 refine(a6.out _).mono ?_;rintro e k7 ⟨rfl,i6⟩;have e0:=Aa (d9.out.below i6);clear i6 d9 a6 ka
 go_wp2_with fail
 refine(Uv k7 b _ _ 0 e0.out.wr Q6).mono ?_
 rintro e m1 ⟨rfl,g,f⟩;have e1:=Aa (e0.out.step f g);clear g f e0
 go_wp2_with fail
 refine(f7.out _ b _ e1.out.wr Q6).mono ?_
 rintro e m2 ⟨rfl,g,f⟩;have e2:=Aa (e1.out.step f g);have i2:IntKind.u64.wrap (G:Int)=(G:Int):=P4 _ Q0
 clear g f e1 f7
 go_wp2_with fail
 refine(f8.out _ b _ e2.out.wr Q6).mono ?_
 rintro e m3 ⟨rfl,g,f⟩;have e3:=Aa (e2.out.step f g);clear g f e2 f8 i2
 go_upto_region 14 with(fail)
 go_cut [0,1,4,5,6,8,9,11] (λs0 s1 s4 s5 s6 s8 s9 k6 wx=>s0=.string s/\s1=Qi C/\s4=Qp j 0/\s5=Qi 0/\s6=Qp i 0/\s8=.slice Z 2 Y/\s9=.slice T G S/\k6=Qp b 0 /\
  Hid (Ct w wx j i b A o (.slice l M k) (.slice Z 2 Y) (.slice T G S) [(L,ints (B6 m n 0)),(N,ints (B6 m n 1))] (ints (Cz m n)) (ints m) [b1,b2,b3,b4,b5,b6,b7]))
 case first =>
  go_wp2_with fail
  refine(a7.out _ _ e3.out.isCho).mono ?_;rintro e k8 ⟨rfl,i7⟩;have e4:=Aa (e3.out.below i7);clear i7 e3 a7
  go_wp2_with fail
  refine(Uv k8 b _ _ 0 e4.out.wr Q6).mono ?_
  rintro e m4 ⟨rfl,g,f⟩;have e5:=Aa (e4.out.step f g);clear g f e4
  go_wp2_with fail
  go_meet
  case rel=>exact⟨rfl,rfl,rfl,rfl,rfl,rfl,rfl,rfl,e5⟩
 case rest =>
  obtain⟨rfl,rfl,rfl,rfl,rfl,rfl,rfl,rfl,e5⟩:=hcut
  apply_assumption
  refine zoc s C w _ j i b o n M G A l Z T k Y S L N m _ j0.out Q0 i9.out j6 j7 j5.out Q6 e5.out i8 f3.out j4.out rfl _ ?_
  refine Aa λts a h4 h5 k9 j2=>?_;refine BV (Nn rfl ts _ _ ⟨j,0,none⟩ _ (by simpa using h4) (TG j _ _ _ k9)) rfl ⟨?_,j2⟩
  have j9:ts.getD 5 undef=Qi 0:=by simpa using h5
  rw[j9]
