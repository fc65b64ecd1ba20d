import Derived.Test.YtoejfkeofbdalaaGreatDoorM22
import Derived.Test.YtoejfkeofbdalaaGreatDoorM23
import Derived.Test.YtoejfkeofbdalaaGreatDoorM16
import Derived.Shelf.Bytes.IndexByte
import Derived.Lib.MinMax
set_option linter.all false
set_option maxRecDepth 100000
set_option maxHeartbeats 8000000
namespace Go.Proofs.YtoejfkeofbdalaaGreatDoor
open Go.RowKit
def O0(A:List UInt8):List Int:=A.map λb=>(b.toNat:Int)
theorem zpc(A:List UInt8):Lib.bytesOf (O0 A)=A:=by
 unfold Lib.bytesOf O0;rw[Gq]
 conv=>rhs;rw[<-Mx A]
 exact Gl λb _=>by simp
theorem zq1(w:World)(g n f:Nat)(A:List UInt8)(c:UInt8)(k:A.length=n)(l:AP w g A) :
 Qk 261 #[Qs g 0 n f,.int .u8 (c.toNat:Int)] w λe m=>e=.returned (Qi (Lib.indexByte A c))/\w=m:=by
 have b:∀i,i<n->Qc w g (0+i) (.int .u8 ((O0 A).getD i 0)):=λi o=>by
  rw[DC,(l i _ (Az Q0)).1]
  simp[O0,Cx,Az (show i<A.length by omega)]
 have d:(O0 A).length=n:=by simp[O0,k]
 have a:=Lib.run_indexByteSlice (P:=Tryz.prog) w g 0 n f (O0 A) d b (c.toNat:Int);rw[zpc] at a;have h:((c.toNat:Int).toNat.toUInt8)=c:=by simp
 rw[h] at a;have j:=Aa a;clear a b d h
 go_enter Tryz.func261,Tryz.ntmps261
 go_wp2
 rw[run_callFunc_extern Tryz.func291 Q2 Q2 Q2 (e:=Extern.BytealgIndexByte.indexByte) Q2,j.out]
 simp only[Result.andThen];rw[Oper.upon_value]
 go_wp2
 go_ret
 exact⟨rfl,rfl⟩
theorem zm6(A:List UInt8)(c:UInt8):Lib.indexByte A c=if c∈A then((A.idxOf c:Nat):Int) else -1:=by
 induction A with
 |nil=>rfl
 | cons b A g =>
   unfold Lib.indexByte
   by_cases h:b=c
   ·subst h;simp
   ·have d:(b ==c)=false:=by rw[Ez];exact h
    rw[d,if_neg Q6,g,List.idxOf_cons,d]
    by_cases a:c∈A
    ·rw[if_pos a,if_neg Q6,if_pos (J6 _ a)]
     simp
    ·rw[if_neg a,if_pos Q6,if_neg (by
      intro f;rcases CZ.1 f with e|e
      ·exact h e.symm
      ·exact a e)]
theorem zzc(w:World)(b g n f h k:Nat)(A:List UInt8)(c:UInt8)(M:Value)(a:List Int)(m:A.length=n)(F:c∈A)(C:A.idxOf c=k)(a1:n<=f)(a3:f<=9223372036854775807)(z:AP w g A)
 (o:Qg w b #[Qs g 0 n f,M] 278) (b0:g<b) (X:b<h) (a6:h<=w.heap.size) (D:Ad w h M a) (Q:a.length<=1000000) :
 Qk 226 #[Qp b 0,.int .u8 (c.toNat:Int)] w λe s=>e=.returned (.bool true)/\AP s g (Kb A k)/\
  (∃q L,Qg s b #[Qs g 0 n f,.slice q (a.length+1) L] 278/\Ad s h (.slice q (a.length+1) L) (a++[(k:Int)]))/\Below g w s:=by
 have Y:k<n:=by rw[<-C,<-m];exact Pw.2 F
 have J:=Aa (zq1 w g n f A c m z);rw[zm6,if_pos F,C] at J;have d1:decide ((k:Int)<0)=false:=AV Q0
 have a5:=A8 o;have W:=AA o;obtain⟨E,y,rfl⟩:=D.shape;have P:=Aa m;have HE:=Aa z;have v:=Aa o;have x:=Aa D;obtain⟨N,B⟩:=Qe a.length;rw[B] at x W v Q |-;have K:=Aa B;clear m z o D C F B
 go_enter Tryz.func226,Tryz.ntmps226
 go_wp2_with fail
 refine J.out.mono ?_;rintro e a4 ⟨rfl,rfl⟩
 go_wp2_with
  (at_builtin
   refine KN rfl _ _ rfl h (.slice E N y) a rfl (x.out.alloc _) (w.heap.size+1) _ [(k:Int)] rfl (Ac.new w [(k:Int)] _ _ _ rfl rfl rfl (by simp[maxLen])) (by rw[K.out];simp;omega) Q4 ?_
   intro j i d I l Z;rw[show a.length+[(k:Int)].length=N+1 by rw[K.out];rfl] at I |-
   have a2:=Aa I;have u:∀r,(Value.slice E N y).ownBlock=some r->h<=r:=λr e=>Dm x.out e;have b2:=Aj v.out;have t:Hid (Qg d b #[Qs g 0 n f,.slice E N y] 278):=RB l (Bb _ v.out) (λe=>by have:=u _ e.symm;omega)
   have S:Hid (AP d g A):=(HE.out.blk (GV _ _ g Q0)).blk (l.block g Q4 (λe=>by have:=u g e.symm;omega))
   have T:Hid (Below g w d):=((Ag g w).alloc Q0 _).grown l Q4 (λr e=>by have:=u r e;omega)
   have b1:w.heap.size<=d.heap.size:=BU Q6 l.size
   have a7:=A8 t.out;have a8:=AA t.out;have a9:=Ah t.out 1;clear I l Z u)
 have O:=Aa (znj ((d.setCell ⟨b,1,none⟩ (.slice j (N+1) i))) g n f k A P.out Y a1 a3 (by rw[World.size_setCell];omega) (S.out.blk (Bg _ _ _ _ (by show g≠b;omega))))
 have H:Qg (d.setCell ⟨b,1,none⟩ (.slice j (N+1) i)) b #[.slice (some ⟨g,0,none⟩) n f,.slice j (N+1) i] 278:=(Ak t.out 1 _).trans rfl;have R:=Aa H;have V:Hid (Ad (d.setCell ⟨b,1,none⟩ (.slice j (N+1) i)) h (.slice j (N+1) i) (a++[(k:Int)])):=Dq a2.out ((Ab.refl b d).set 1 _) X;have U:Hid (Below g w (d.setCell ⟨b,1,none⟩ (.slice j (N+1) i))):=T.out.setCell (p:=⟨b,1,none⟩) (by show g<=b;omega) _
 have b3:=A8 H;clear H
 go_wp2_with fail
 refine O.out.mono ?_;rintro e w3 ⟨rfl,a0,G⟩
 go_wp2_with fail
 go_ret
 exact⟨rfl,a0,⟨_,_,G.other R.out Q0,Dq V.out G Q0⟩,G.bel U.out (Af _) Q0⟩
def QA(p:List UInt8 × List Nat)(c:UInt8):List UInt8 × List Nat:=(Kb p.1 (p.1.idxOf c),p.2++[p.1.idxOf c])
def Eb(A T:List UInt8):List UInt8 × List Nat:=T.foldl QA (A,[])
theorem Uj(A T:List UInt8)(c:UInt8):Eb A (T++[c])=QA (Eb A T) c:=by simp[Eb]
theorem zxB(A:List UInt8)(k:Nat)(h:k<A.length)(c:UInt8):c∈Kb A k↔c∈A:=by
 have a:A.getD k 0=A[k]:=by rw[Cx,Az h];rfl
 unfold Kb;rw[a]
 conv=>rhs;rw[<-Er k A,IJ h]
 simp only[CZ,FZ]
 constructor
 ·rintro(h|h|h)
  ·exact .inr (.inl h)
  ·exact .inl h
  ·exact .inr (.inr h)
 ·rintro(h|h|h)
  ·exact .inr (.inl h)
  ·exact .inl h
  ·exact .inr (.inr h)
theorem Uk(A:List UInt8)(T:List UInt8)(f:∀c∈T,c∈A):(Eb A T).1.length=A.length/\(∀c,c∈(Eb A T).1↔c∈A)/\(Eb A T).2.length=T.length:=by
 have h:∀k,k<=T.length->(Eb A (T.take k)).1.length=A.length/\(∀c,c∈(Eb A (T.take k)).1↔c∈A)/\(Eb A (T.take k)).2.length=k:=by
  intro k
  induction k with
  |zero=>intro _;exact⟨rfl,λ_=>Iff.rfl,rfl⟩
  | succ k j =>
    intro l;obtain⟨d,a,e⟩:=j Q0
    have i:T.take (k+1)=T.take k++[T[k]]:=Ep Q0
    rw[i,Uj];have g:T[k]∈(Eb A (T.take k)).1:=(a _).2 (f _ (Et _));have b:=Pw.2 g;unfold QA;refine⟨by rw[Zp _ _ b];exact d,λc=>(zxB _ _ b c).trans (a c),by simp[e]⟩
 have:=h T.length (Af _)
 rwa [Gp] at this
theorem zpy(k:Nat)(w:World)(a b:Value)(h:Qg w k #[a,b] 278):(loadVar 278 ⟨k,0,none⟩).run Tryz.prog w=.ok (.agg #[a,b]) w:=by
 have c:=(Ae h 0).trans rfl;have d:=(Ae h 1).trans rfl
 go_simp
theorem zzd(s t:ByteArray)(w:World)(h0:0<s.size)(I:s.size<=1000000)(ht:t.size<=1000000)(a8:s.data.toList.Nodup)(H:∀c∈t.data.toList,c∈s.data.toList) :
 Qk 166 #[.string s,.string t] w λe K=>∃(c3 d:Nat)(q:Option Addr)(c:Nat),e=.returned (.tuple #[.agg #[Qs c3 0 s.size d,.slice q t.size c],Qi 0])/\Ac K K.heap.size (.slice q t.size c) (ints (Eb s.data.toList t.data.toList).2)/\Qb w K:=by
 have C:=Aa λc2=>ZO s c2 I;rw[Bl a8] at C;obtain⟨a,d,a6,c0,d5,P,b2,f⟩:=zkM (w.alloc (.cells #[.slice none 0 0,.slice none 0 0] 278)) s I;have c1:=λk (hk:k<=t.data.toList.length)=>Uk s.data.toList (t.data.toList.take k) (λc hc=>H c (Ls hc));have F:=Aa c1;have U:=Aa H;obtain⟨n,v⟩:=Qe s.size;have O:s.data.toList.length=n:=by rw[<-v];simp
 obtain⟨A,W⟩:=Qe s.data.toList;rw[W] at F U P O |-;have m:=Aa P;have c4:=Aa O;have d0:w.heap.size+1<a.heap.size:=by rw[b2];simp
 have g:Qb w a:=((Ag _ w).alloc (Af _) _).trans (f.mono Q6)
 have L:=Aa g;have b1:Qg a w.heap.size #[.slice none 0 0,.slice none 0 0] 278:=Al f (Am _ _ _ rfl);have a2:=Aa b1;have N:=Aa a6;rw[v] at h0 I c0 N |-;have d6:=Aa v;clear a8 H c1 P O W b2 f g b1 a6 v
 go_enter Tryz.func166,Tryz.ntmps166
 go_wp2_with fail
 rw[N.out]
 go_wp2_with fail
 have Z:=Aa (C.out (a.alloc (.cells #[Qs (w.heap.size+1) 0 n d,.slice none 0 0] 278)));refine Z.out.mono ?_;rintro e r ⟨rfl,f⟩;have a4:Qg r a.heap.size #[Qs (w.heap.size+1) 0 n d,.slice none 0 0] 278:=Al f (Am _ _ _ rfl);have b0:Qg r w.heap.size #[.slice none 0 0,.slice none 0 0] 278:=Al f (Bb _ a2.out)
 have b8:AP r (w.heap.size+1) A:=by
  have V:=m.out;rw[Tm] at V;exact(V.blk (GV _ _ _ Q0)).blk (f.block _ (by rw[Tm];omega))
 have d4:=L.out.size;have g:Qb w r:=(L.out.alloc d4 _).trans (f.mono (by rw[Tm];omega))
 have b5:a.heap.size+1<=r.heap.size:=by have:=f.size;rw[Tm] at this;omega
 have a0:=Aa a4;have a1:=Aa b0;have b6:=Aa b8;have y:=Aa g;have a3:=Aa b5;clear a4 b0 b8 g b5 f Z C m L a2 N
 go_wp2_with fail
 go_loopw [18] (λJ wr=>∃(k:Nat)(x:Value),k<=t.size/\J=Qi k/\Hid (AP wr (w.heap.size+1) (Eb A (t.data.toList.take k)).1)/\Hid (Qg wr a.heap.size #[Qs (w.heap.size+1) 0 n d,x] 278)/\Hid (Ad wr (a.heap.size+1) x (ints (Eb A (t.data.toList.take k)).2))/\Hid (Qg wr w.heap.size #[.slice none 0 0,.slice none 0 0] 278)/\Hid (Qb w wr)/\Hid (a.heap.size+1<=wr.heap.size)) (λJ _=>t.size+1-(intOf J).toNat)
 case atStart=>exact⟨0,_,BI _,rfl,b6.out,a0.out,Ad.nil _ _,a1.out,y.out,a3.out⟩
 case round =>
  clear b6 a0 a1 y a3;obtain⟨k,x,hk,rfl,m,z,l,h,E,G⟩:=hrel;have S:t.data.toList.length=t.size:=by simp
  by_cases d9:k<t.size
  ·obtain⟨R,a7,o⟩:=F.out k Q0
   have b3:t.data.toList.take (k+1)=t.data.toList.take k++[t[k]]:=Ep Q0
   have Q:t[k]∈(Eb A (t.data.toList.take k)).1:=(a7 _).2 (U.out _ (by
    have:t[k]=t.data.toList[k]:=rfl;rw[this];exact Et _))
   have B:Hid (Eb A (t.data.toList.take (k+1))=QA (Eb A (t.data.toList.take k)) t[k]):=by show _=_;rw[b3,Uj]
   have T:(ints (Eb A (t.data.toList.take k)).2).length=k:=by rw[Bj,o,BO];omega
   obtain⟨p,Y⟩:=Qe (Eb A (t.data.toList.take k));rw[Y] at m l R Q B T;have D:=zzc wr a.heap.size (w.heap.size+1) n d (a.heap.size+1) (p.1.idxOf t[k]) p.1 t[k] x (ints p.2) (by rw[R,c4.out]) Q rfl c0 d5 m.out z.out d0 Q0 G.out l.out Q0
   rw[T] at D;have M:=Aa D;obtain⟨b,X⟩:=Qe (t[k]);rw[X] at M B;clear R a7 o b3 Q T Y D S
   go_wp2_with fail
   refine M.out.mono ?_;rintro e u ⟨rfl,b9,⟨j,i,a5,a9⟩,g⟩;have d1:Hid (AP u (w.heap.size+1) (Eb A (t.data.toList.take (k+1))).1):=by rw[B.out];exact b9
   have c5:Hid (Ad u (a.heap.size+1) (.slice j (k+1) i) (ints (Eb A (t.data.toList.take (k+1))).2)):=by
    rw[B.out]
    show Ad _ _ _ (ints (p.2++[p.1.idxOf b]))
    rw[show ints (p.2++[p.1.idxOf b])=ints p.2++[((p.1.idxOf b:Nat):Int)] by simp[ints]]
    exact a9
   have c6:Hid (Qg u w.heap.size #[.slice none 0 0,.slice none 0 0] 278):=(g.block _ Q0).trans h.out
   have d2:=Aa a5;have y:Hid (Qb w u):=E.out.trans (g.mono Q0)
   have c7:Hid (a.heap.size+1<=u.heap.size):=BU G.out g.size;clear b9 a5 a9 g M m l h z E G X
   go_wp2_with fail
   go_roundw
   case rel=>exact⟨k+1,_,Q0,by go_num,d1,d2,c5,c6,y,c7⟩
   case measure=>simp[intOf];omega
  ·obtain rfl:k=t.size:=Q0
   have b7:t.data.toList.take t.size=t.data.toList:=BR Q0
   obtain⟨-,-,o⟩:=F.out t.size Q0
   rw[b7] at l o;obtain⟨j,i,b4⟩:=l.out.shape;rw[Bj,o,S] at b4;subst b4;have e1:=A8 z.out;have e2:=AA z.out;have e3:=A8 h.out;have e4:=AA h.out;have d7:=Ah h.out 0;have d8:=Ah h.out 1;have e0:=Aj h.out;have d3:=Aa (PX h.out (Qs (w.heap.size+1) 0 n d) (.slice j t.size i));have c8:Hid (Qb w ((wr.setCell ⟨w.heap.size,0,none⟩ (Qs (w.heap.size+1) 0 n d)).setCell ⟨w.heap.size,1,none⟩ (.slice j t.size i))):=(E.out.setCell (p:=⟨w.heap.size,0,none⟩) (Af _) _).setCell (p:=⟨w.heap.size,1,none⟩) (Af _) _
   have c9:Hid (Ac ((wr.setCell ⟨w.heap.size,0,none⟩ (Qs (w.heap.size+1) 0 n d)).setCell ⟨w.heap.size,1,none⟩ (.slice j t.size i)) ((wr.setCell ⟨w.heap.size,0,none⟩ (Qs (w.heap.size+1) 0 n d)).setCell ⟨w.heap.size,1,none⟩ (.slice j t.size i)).heap.size (.slice j t.size i) (ints (Eb A t.data.toList).2)) :=
    Ad.is (base:=a.heap.size+1) (Dq l.out (((Ab.refl w.heap.size wr).set 0 _).set 1 _) Q0)
   clear b7 o S
   go_wp2_with fail
   refine BV (Nn rfl _ _ _ ⟨w.heap.size,0,none⟩ _ rfl (zpy _ _ _ _ d3.out)) rfl ?_;exact⟨_,_,_,_,rfl,c9.out,c8.out⟩
theorem zxq(s t:ByteArray)(w:World)(k:0<s.size)(m:s.size<=1000000)(n:t.size<=1000000)(p:s.data.toList.Nodup)(l:∀c∈t.data.toList,c∈s.data.toList) :
 Qk 115 #[.string s,.string t] w λe b=>∃(q:Option Addr)(c:Nat),e=.returned (.tuple #[.slice q t.size c,Qi 0])/\Ac b b.heap.size (.slice q t.size c) (ints (Eb s.data.toList t.data.toList).2)/\Qb w b:=by
 have d:=Aa (zzd s t w k m n p l);generalize ints (Eb s.data.toList t.data.toList).2=R at*
 go_enter Tryz.func115,Tryz.ntmps115
 go_wp2_with fail
 refine d.out.mono ?_;rintro e o ⟨g,h,q,c,rfl,f,a⟩;have j:=Aa (DS f ((Ag _ o).alloc (Af _) (.cells #[Qs g 0 s.size h,.slice q t.size c] 278)));have i:=Aa (a.alloc a.size (.cells #[Qs g 0 s.size h,.slice q t.size c] 278));clear f a d
 go_wp2_with fail
 go_ret2
 exact⟨_,_,rfl,j.out,i.out⟩
end Go.Proofs.YtoejfkeofbdalaaGreatDoor
namespace Go.Proofs.YtoejfkeofbdalaaGreatDoor
theorem zuI(A T:List UInt8)(e:∀c∈T,c∈A):Jb A (ints (Eb A T).2)=some ((Eb A T).1,T):=by
 have h:∀k,k<=T.length->Jb A (ints (Eb A (T.take k)).2)=some ((Eb A (T.take k)).1,T.take k):=by
  intro k
  induction k with
  |zero=>intro _;rfl
  | succ k a =>
    intro n;have a:=a Q0
    have l:T.take (k+1)=T.take k++[T[k]]:=Ep Q0
    obtain⟨f,d,m⟩:=Uk A (T.take k) (λc b=>e c (Ls b));rw[l,Uj];obtain⟨p,j⟩:=Qe (Eb A (T.take k));rw[j] at a f d |-;have b:T[k]∈p.1:=(d _).2 (e _ (Et _));have i:=Pw.2 b;unfold QA;rw[show ints (p.2++[p.1.idxOf T[k]])=ints p.2++[((p.1.idxOf T[k]:Nat):Int)] by simp[ints],znW,a]
    unfold ND;simp only[Option.bind_some,EM];rw[if_neg Q0]
    have g:p.1.getD (p.1.idxOf T[k]) 0=T[k]:=by
     rw[Cx,Az i];simp
    rw[g]
 have:=h T.length (Af _)
 rwa [Gp] at this
theorem zrr(A T:List UInt8)(b:A.Nodup)(a:∀c∈T,c∈A):Kw A (ints (Eb A T).2)=(T,0):=by
 unfold Kw;rw[if_neg (λh=>h b),zuI A T a];rfl
end Go.Proofs.YtoejfkeofbdalaaGreatDoor
namespace Go.Proofs
open Go.RowKit
def Tryz.bld_ren:Go.Shelf.Ren:=⟨λ|240=>129|276=>176|166=>70|167=>73|169=>71|n=>n,λ|0=>0|3=>3|4=>4|5=>5|9=>9|20=>20|37=>89|70=>132|72=>134|75=>93|76=>137|80=>139|127=>227|164=>294|31=>77|n=>n,λ|n=>n⟩
theorem Tryz.lays166:Go.Proofs.Lays.n166 Tryz.prog Tryz.bld_ren:={
 mixed:=by kernel_rfl
 f166:=Tryz.func70.trans (congrArg some (by kernel_rfl))
 f240:=Tryz.func129.trans (congrArg some (by kernel_rfl))
 f276:=Tryz.func176.trans (congrArg some (by kernel_rfl))
 t0:=Tryz.underlying0
 a0:=Tryz.isAgg0
 z0:=Tryz.sizeOf0
 v0:=Tryz.zeroValue0
 t3:=Tryz.underlying3
 a3:=Tryz.isAgg3
 z3:=Tryz.sizeOf3
 v3:=Tryz.zeroValue3
 t4:=Tryz.underlying4
 a4:=Tryz.isAgg4
 z4:=Tryz.sizeOf4
 v4:=Tryz.zeroValue4
 t9:=Tryz.underlying9
 a9:=Tryz.isAgg9
 z9:=Tryz.sizeOf9
 v9:=Tryz.zeroValue9
 t20:=Tryz.underlying20
 a20:=Tryz.isAgg20
 z20:=Tryz.sizeOf20
 v20:=Tryz.zeroValue20
 t37:=Tryz.underlying89
 a37:=Tryz.isAgg89
 z37:=Tryz.sizeOf89
 v37:=Tryz.zeroValue89
 t70:=Tryz.underlying132
 a70:=Tryz.isAgg132
 z70:=Tryz.sizeOf132
 v70:=Tryz.zeroValue132
 t72:=Tryz.underlying134
 a72:=Tryz.isAgg134
 z72:=Tryz.sizeOf134
 v72:=Tryz.zeroValue134
 t75:=Tryz.underlying93
 a75:=Tryz.isAgg93
 z75:=Tryz.sizeOf93
 v75:=Tryz.zeroValue93
 t164:=Tryz.underlying294
 a164:=Tryz.isAgg294
 z164:=Tryz.sizeOf294
 v164:=Tryz.zeroValue294 }
theorem Tryz.lays167:Go.Proofs.Lays.n167 Tryz.prog Tryz.bld_ren:={
 mixed:=by kernel_rfl
 f167:=Tryz.func73.trans (congrArg some (by kernel_rfl))
 f240:=Tryz.func129.trans (congrArg some (by kernel_rfl))
 f276:=Tryz.func176.trans (congrArg some (by kernel_rfl))
 t0:=Tryz.underlying0
 a0:=Tryz.isAgg0
 z0:=Tryz.sizeOf0
 v0:=Tryz.zeroValue0
 t4:=Tryz.underlying4
 a4:=Tryz.isAgg4
 z4:=Tryz.sizeOf4
 v4:=Tryz.zeroValue4
 t5:=Tryz.underlying5
 a5:=Tryz.isAgg5
 z5:=Tryz.sizeOf5
 v5:=Tryz.zeroValue5
 t9:=Tryz.underlying9
 a9:=Tryz.isAgg9
 z9:=Tryz.sizeOf9
 v9:=Tryz.zeroValue9
 t20:=Tryz.underlying20
 a20:=Tryz.isAgg20
 z20:=Tryz.sizeOf20
 v20:=Tryz.zeroValue20
 t37:=Tryz.underlying89
 a37:=Tryz.isAgg89
 z37:=Tryz.sizeOf89
 v37:=Tryz.zeroValue89
 t70:=Tryz.underlying132
 a70:=Tryz.isAgg132
 z70:=Tryz.sizeOf132
 v70:=Tryz.zeroValue132
 t72:=Tryz.underlying134
 a72:=Tryz.isAgg134
 z72:=Tryz.sizeOf134
 v72:=Tryz.zeroValue134
 t75:=Tryz.underlying93
 a75:=Tryz.isAgg93
 z75:=Tryz.sizeOf93
 v75:=Tryz.zeroValue93
 t164:=Tryz.underlying294
 a164:=Tryz.isAgg294
 z164:=Tryz.sizeOf294
 v164:=Tryz.zeroValue294 }
theorem Tryz.Builder_Extra_167:Builder.Extra Tryz.prog Tryz.bld_ren where
 sizeBuilder:=by kernel_rfl
 liesBuilder:=by kernel_rfl
 t5:=Tryz.underlying5
 a5:=Tryz.isAgg5
 z5:=Tryz.sizeOf5
 v5:=Tryz.zeroValue5
 infoByte:=by kernel_rfl
 cellsByte:=by kernel_rfl
 sizeByte:=by kernel_rfl
 neB5:=by decide
theorem Tryz.Builder_Extra_166:Builder.Extra Tryz.prog Tryz.bld_ren where
 sizeBuilder:=by kernel_rfl
 liesBuilder:=by kernel_rfl
 t5:=Tryz.underlying5
 a5:=Tryz.isAgg5
 z5:=Tryz.sizeOf5
 v5:=Tryz.zeroValue5
 infoByte:=by kernel_rfl
 cellsByte:=by kernel_rfl
 sizeByte:=by kernel_rfl
 neB5:=by decide
open Go.RowKit in
theorem Tryz.Builder_WriteByte_k(B b:Nat)(a:List Value)(c:Int)(w:World)(h:Lib.IsBuilderF 134 5 B b a w)(g:a.length+1<=140737488355328)(f:B<=w.heap.size) :
 Calls Tryz.prog 73 #[.pointer (some ⟨b,0,none⟩),.int .u8 c] w λe d=>e=.returned .nilIface/\(Lib.BuilderAtF 134 5 B b (.pointer (some ⟨b,0,none⟩)) (a++[.int .u8 c]) d/\Below B w d/\Lib.OthersKept 5 (some b) w d):=Any.Builder_WriteByte_k Tryz.lays167 Tryz.Builder_Extra_167 B b a c w h g f
open Go.RowKit in
theorem Tryz.Builder_WriteString_k(B b:Nat)(a:List Value)(s:ByteArray)(w:World)(h:Lib.IsBuilderF 134 5 B b a w)(f:a.length+s.size<=140737488355328)(d:B<=w.heap.size) :
 Calls Tryz.prog 70 #[.pointer (some ⟨b,0,none⟩),.string s] w λe c=>e=.returned (.tuple #[.int .i64 s.size,.nilIface])/\(Lib.BuilderAtF 134 5 B b (.pointer (some ⟨b,0,none⟩)) (a++Lib.strCells s) c/\Below B w c/\Lib.OthersKept 5 (some b) w c):=Any.Builder_WriteString_k Tryz.lays166 Tryz.Builder_Extra_166 B b a s w h f d
end Go.Proofs
namespace Go.Proofs.YtoejfkeofbdalaaGreatDoor
open Go.RowKit Go.Shelf
attribute [local go_sem] Oper.semAt_some
theorem zrE{c:Type}(q:Nat)(t:TypeId):Own (λ(s:c) W=>∃u,Qg W q #[u] t):=λs X Y h ⟨u,a⟩ f g=>⟨u,by
 refine(f.block q (Aj a) (λd=>?_)).trans a;obtain⟨o,b,e⟩:=g q d.symm;rw[a] at b;cases b
 cases e⟩
theorem zqz:∀a:List (List UInt8),(a.flatMap Gt).length=EK a
 | []=>rfl
 | p::a=>by
   have h:=zqz a;rw[IQ,AJ,h,YS];rfl
theorem zwo(s:ByteArray)(w:World)(hs:s.size<=1000000) :
 Qk 55 #[.string s] w λe b8=>e=.returned (.string ⟨(D6 s.data.toList).toArray⟩)/\Qb w b8:=by
 have b3:=Aa (λW=>Wn s W);obtain⟨D,e1⟩:∃D:Nat,8<=D:=⟨8,Q0⟩
 have c4:1<=D:=Q0
 refine(Em (n:=D)).1 ?_;refine Lr Tryz.func55 rfl trivial ?_ rfl;simp only[Tryz.ntmps55,F6,Bt,D4,Nat.reduceAdd,Nat.reduceSub,GM,GL,GQ,GN,C6,Di]
 gi_wp2_with fail
 refine⟨trivial,(Em.2 (b3.out _)).mono ?_⟩;rintro e w1 ⟨rfl,rfl⟩
 gi_wp2_with fail
 obtain⟨g,q⟩:=Qe w.heap.size;have U:Qg ((w.alloc (.cells #[.pointer none,.slice none 0 0] 134)).alloc (.cells #[.string s] 9)) g #[.pointer none,.slice none 0 0] 134:=Bb _ (Am _ _ _ q.symm);have I:Qg ((w.alloc (.cells #[.pointer none,.slice none 0 0] 134)).alloc (.cells #[.string s] 9)) (g+1) #[.string s] 9:=Am _ _ _ (by simp[q])
 have c5:((w.alloc (.cells #[.pointer none,.slice none 0 0] 134)).alloc (.cells #[.string s] 9)).heap.size=g+2:=by simp[q]
 have S:Below g w ((w.alloc (.cells #[.pointer none,.slice none 0 0] 134)).alloc (.cells #[.string s] 9)):=by
  rw[<-q];exact((Ag _ w).alloc (Af _) _).alloc Q6 _
 rw[q];generalize(w.alloc (.cells #[.pointer none,.slice none 0 0] 134)).alloc (.cells #[.string s] 9)=K at*
 refine Ug (n:=D) (ib:=g+1) c4 (gf:=164) (lb:=#[.pointer (some ⟨g+1,0,none⟩)]) rfl VA (encs:=Jf) (λ_=>rfl) LY (λk=>k≠g+1)
  (Wk (D-1) Q0 (g+1) s hs (λk=>k≠g+1) K I (λh=>h rfl)) (Ag _ _) Q0
  (λa W=>(Lib.IsBuilderF 134 5 g g (Lib.byteCells (a.flatMap Gt)) W/\∃u,Qg W (g+1) #[u] 9)/\Below g w W)
  (λ_ _ _=>False)
  (I1 (I1 (Ko (zxz (λa:List (List UInt8)=>Lib.byteCells (a.flatMap Gt))) _) (Ko (zrE _ _) _)) (Nj Q0 Q0))
  (λa d7 u ⟨⟨m,v,h2⟩,h3⟩=>⟨⟨zxr m h2 Q5 Q5 u,u,Ak h2 0 u⟩,h3.setCell (p:=⟨g+1,0,none⟩) (by show g<=g+1;omega) u⟩)
  (λ_ _ _ _ _ h _ _=>h)
  ⟨⟨.inl ⟨Af _,_,U,⟨rfl,.inl ⟨rfl,rfl⟩⟩,by simp[Value.ownBlock]⟩,_,I⟩,S⟩
  (λx M W=>LY x W/\M = { tmps:=#[.string s,undef,.string ⟨#[]⟩,.pointer (some ⟨g,0,none⟩),.string ⟨x.toArray⟩,.string s,.func (.func 164) #[] #[.pointer (some ⟨g+1,0,none⟩)],.string ⟨x.toArray⟩,undef,undef,undef,undef,undef,undef,undef,undef,undef,undef,undef,undef,undef,undef,undef],defers:=[] })
  (λx M s W e0 e8 h e5 hr=>h)
  ?assign ?body ?done ?stop
 case assign =>
  intro y a x W d8 hi C c9 b7;simp only[Jf]
  gi_wp2_with fail
  exact b7 _ _ (Pz _ _) (Ao.refl _ _) hi ⟨C,rfl⟩
 case body =>
  rintro y a x M W ⟨⟨d,v,H⟩,r⟩ ⟨C,rfl⟩ c9 d5;have d9:=Aa d;have F:=Aa H;have t:=Aa r;have d1:=TJ s.data.toList;have d2:s.data.toList.length=s.size:=by simp
  have c8:=UJ a;have a3:=zqz a;have d3:=C.2;obtain⟨L,A⟩:=Qe x.length;rw[A] at d3;have e7:(⟨x.toArray⟩:ByteArray).size=L:=A;have d0:min (L:Int) 4=((min L 4:Nat):Int):=Q0
  have c6:(⟨x.toArray⟩:ByteArray).extract 0 (min L 4)=⟨(x.take 4).toArray⟩:=by
   rw[RS]
   show(⟨(x.take (min L 4)).toArray⟩:ByteArray)=_
   rw[<-A,Nat.min_comm,<-List.take_take,Gp]
  have a6:(⟨(x.take 4).toArray⟩:ByteArray).size<=4:=by
   show(x.take 4).length<=4
   rw[BO];omega
  have a5:(Lib.byteCells (a.flatMap Gt)).length<=5000000:=by rw[Mr,a3];omega
  obtain⟨mn,d6⟩:=Qe (min L 4);rw[d6] at d0 c6;have f0:mn<=L:=Q0
  have b5:=Aa (Tryz.Builder_WriteString_k g g _ ⟨(x.take 4).toArray⟩ W d Q0 (by have:=t.out.size;omega))
  have Y:=Aa A;have c1:=Aa a5;have c3:=Aa a6;have e3:=Aa C;clear d H r d1 d2 c8 a3 A a5 a6 C d5 U I S;have e4:1<=D-1-1:=Q0
  gi_wp2_with fail
  refine⟨trivial,(CallsIn.inRound y (Em.2 b5.out)).mono ?_⟩;rintro e j ⟨rfl,B,f,i⟩;have a9:Lib.byteCells (a.flatMap Gt)++Lib.strCells ⟨(x.take 4).toArray⟩=Lib.byteCells (a.flatMap Gt++x.take 4):=by simp[Lib.byteCells,Lib.strCells]
  rw[a9] at B;have z:Qg j (g+1) #[v] 9:=i _ _ F.out Q6 (by intro c l h;cases h)
  have J:KeepsFrom K.heap.size W j:=⟨f.size,λk o _ N O=>i k o N (by intro h;cases h;omega) (by intro c l h;subst h;cases O)⟩
  by_cases h4:4<=L
  ·have b2:=Aa (Tryz.Builder_WriteByte_k g g _ ((L:Int)-4) j (.inr B) (by rw[<-a9,AJ,Lib.strCells_length];have:=c1.out;have:=c3.out;omega) (by have:=t.out.size;have:=f.size;omega))
   have e6:IntKind.u8.wrap ((L:Int)-4)=(L:Int)-4:=by simp[IntKind.wrap,IntKind.signed,IntKind.bits];omega
   have Q:=Aa J;have c2:=Aa i;have P:=Aa f;clear B z J i f
   gi_wp2_with fail
   refine⟨trivial,(CallsIn.inRound y (Em.2 b2.out)).mono ?_⟩;rintro e Z ⟨rfl,V,R,T⟩
   have G:(a++[x]).flatMap Gt=(a.flatMap Gt++x.take 4)++[UInt8.ofNat (L-4)]:=by
    rw[Iw,List.flatMap_singleton,BN];unfold Gt;rw[Y.out,if_pos h4]
   have a7:(UInt8.ofNat (L-4)).toNat=L-4:=by
    rw[Ms];omega
   have b0:Lib.byteCells (a.flatMap Gt++x.take 4)++[.int .u8 ((L:Int)-4)]=Lib.byteCells ((a++[x]).flatMap Gt):=by
    rw[G,show(L:Int)-4=(((UInt8.ofNat (L-4)).toNat:Nat):Int) by rw[a7];omega]
    simp[Lib.byteCells]
   rw[b0] at V;have z:Qg j (g+1) #[v] 9:=c2.out _ _ F.out Q6 (by intro c l h;cases h)
   have a8:Qg Z (g+1) #[v] 9:=T _ _ z Q6 (by intro c l h;cases h)
   have a4:KeepsFrom K.heap.size j Z:=⟨R.size,λk o _ N O=>T k o N (by intro h;cases h;omega) (by intro c l h;subst h;cases O)⟩
   have b9:=Aa V;have a1:=Aa a8;have c0:=Aa a4;have d4:=Aa R;clear V z a8 a4 T R b0 a7 G
   gi_wp2_with fail
   exact⟨Q.out.trans c0.out,λb cs b1 l d m=>by
    have:b=g+1:=Classical.not_not.1 d;subst this;rw[F.out] at m;cases m;exact a1.out,⟨⟨.inr b9.out,_,a1.out⟩,(t.out.trans P.out).trans d4.out⟩⟩
  ·have G:(a++[x]).flatMap Gt=a.flatMap Gt++x.take 4:=by
    rw[Iw,List.flatMap_singleton];unfold Gt;rw[Y.out,if_neg h4,Eu]
   have P:=Aa B;have a0:=Aa z;have Q:=Aa J;have X:=Aa f;clear B z J i f
   gi_wp2_with fail
   exact⟨Q.out,λb cs b1 l d m=>by
    have:b=g+1:=Classical.not_not.1 d;subst this;rw[F.out] at m;cases m;exact a0.out,⟨⟨by rw[G];exact .inr P.out,_,a0.out⟩,t.out.trans X.out⟩⟩
 case done =>
  rintro E xs W e2 rfl ⟨⟨d,v,H⟩,r⟩ hd;have b4:=Aa (Tryz.Builder_String_any_k g g ((Ef s.data.toList).flatMap Gt) W d (by have:=r.size;omega))
  have t:=Aa r;have b6:=Aa hd;have c7:w.heap.size<=E:=Q0
  have e9:g<E:=Q0
  clear U I c5 S d H r hd
  gi_wp2_with fail
  refine⟨trivial,(Em.2 b4.out).mono ?_⟩;rintro e j ⟨rfl,-,f,i⟩;have a2:Qh j E (.deferred (some [])):=i _ _ b6.out (by intro h;cases h;omega) (by intro c l h;cases h)
  have X:=Aa f;clear i f
  gi_wp2_with fail
  refine⟨Q6,.inl ⟨_,_,rfl,J9 a2,?_⟩⟩
  refine⟨_,Nk rfl _ _ _,rfl,?_⟩;rw[q];exact(t.out.trans X.out).trans (Kn (w:=w) (EV q.symm) _ E _ _ c7 a2 rfl rfl)
 case stop=>exact λ_ _ _ _ _ _ h _=>h.elim
end Go.Proofs.YtoejfkeofbdalaaGreatDoor
namespace Go.Proofs.YtoejfkeofbdalaaGreatDoor
open Go.RowKit Go.Shelf
attribute [local go_sem] Oper.semAt_some
theorem zu3{P:Program}{f:FuncId}{h:Array Value}{w:World}{n:Nat}{x:Value}
 (a:Calls P f h (w.drewN n) λe d=>e=.returned x/\w.drewN n=d):Calls P f h (w.drewN n) λe g=>e=.returned x/\∃m,g=w.drewN m :=
 a.mono λ_ _ ⟨b,c⟩=>⟨b,n,c.symm⟩
theorem WF(g q c n:Nat)(b:Int)(l:List UInt8)(w:World)(T:c<256)(Y:n<=255)(V:l.length+n<=100000000)(X:(l.length+n:Int)<=b)(a2:b<=1000000000000)
 (x:Lib.IsBuilderF 134 5 g g (Lib.byteCells l) w) (y:Qg w q #[Qi b] 3) (a0:g<=w.heap.size) :
 Qk 323 #[.int .u8 c,Qi n,Qp g 0,Qp q 0] w λe a=>e=.returned (.tuple #[])/\Lib.IsBuilderF 134 5 g g (Lib.byteCells (l++List.replicate n (UInt8.ofNat c))) a/\Qg a q #[Qi b] 3/\Below g w a:=by
 have G:=Aa x;have H:=Aa y;clear x y
 go_enter Tryz.func323,Tryz.ntmps323
 go_wp2_with fail
 go_loopw [7] (λi wr=>∃k:Nat,k<=n/\i=Qi k/\Hid (Lib.IsBuilderF 134 5 g g (Lib.byteCells (l++List.replicate k (UInt8.ofNat c))) wr)/\Hid (Qg wr q #[Qi b] 3)/\Hid (Below g w wr)) (λi _=>n+1-(intOf i).toNat)
 case atStart=>exact⟨0,BI _,rfl,by show Lib.IsBuilderF _ _ _ _ _ _;rw[List.replicate_zero,Eu];exact G.out,H.out,Ag _ _⟩
 case round =>
  obtain⟨k,U,rfl,d,f,o⟩:=hrel;have E:(Lib.byteCells (l++List.replicate k (UInt8.ofNat c))).length=l.length+k:=by rw[Mr,AJ,Jg]
  obtain⟨m,rfl⟩:=Mf (show 0<=b by omega)
  have Z:=(Ae f.out 0).trans rfl
  by_cases a1:k<n
  ·have r:Hid (∀W,W.heap=wr.heap->Qk 324 #[Qp g 0] W λe a=>e=.returned (Qi (l.length+k:Nat))/\W=a):=λW K=>by
    have:=Tryz.Builder_Len_f g g _ W (Nw d.out λj c t u _ _=>by rw[K])
    rw[E] at this;exact this.mono λe a ⟨I,J⟩=>⟨I,J.symm⟩
   have a3:(max (m:Int) 0)=(m:Int):=Q0
   have P:decide ((m:Int)<((l.length+k:Nat):Int))=false:=AV Q0
   have R:decide (m<l.length+k)=false:=AV Q0
   obtain⟨S,O⟩:=Qe (l.length+k);rw[O] at r P R
   go_wp2_with fail
   go_quiet ((go_at_call 324;exact zu3 (r.out _ rfl)))
   have F:=Aa (Tryz.Builder_WriteByte_k g g _ (c:Int) (wr.drewN nq) (Nw (W':=wr.drewN nq) d.out λj c t u _ _=>rfl) (by rw[E];omega) (by have:=o.out.size;show g<=wr.heap.size;omega))
   go_wp2_with fail
   go_at_call 73
   refine F.out.mono ?_;rintro e s ⟨rfl,p,A,B⟩
   have D:Lib.byteCells (l++List.replicate k (UInt8.ofNat c))++[.int .u8 (c:Int)]=Lib.byteCells (l++List.replicate (k+1) (UInt8.ofNat c)):=by
    rw[List.replicate_succ',<-BN];have Q:(UInt8.ofNat c).toNat=c:=by rw[Ms];omega
    simp[Lib.byteCells,Q]
   rw[D] at p
   have C:Qg s q #[Qi (m:Int)] 3:=B _ _ f.out (by
    intro h;cases h;rcases d.out with h|h<;>obtain⟨_,v,z,_⟩:=h<;>rw[f.out] at z<;>cases z) (by intro c u h;cases h)
   have L:=Aa p;have M:=Aa C;have N:Hid (Below g w s):=o.out.trans ((EW (Ag _ _) nq).trans A);clear p C A B D
   go_wp2_with fail
   go_roundw
   case rel=>exact⟨k+1,Q0,by go_num,.inr L.out,M.out,N.out⟩
   case measure=>simp[intOf];omega
  ·obtain rfl:k=n:=Q0
   go_wp2_with fail
   exact Fu (Dw rfl _ _ _) rfl ⟨rfl,d.out,f.out,o.out⟩
end Go.Proofs.YtoejfkeofbdalaaGreatDoor
namespace Go.Proofs.YtoejfkeofbdalaaGreatDoor
open Go.RowKit Go.Shelf
theorem zz0(w:World)(v d:Value)(q:Option Addr)(n c:Nat)(j:Int)(l:n<=2)(R:Ending->World->Prop)
 (f:Qk 350 #[.slice q n c,Qi 0,Qi n,d] w λe a=>(∃v,e=.returned v)/\R e a) :
 Qk 344 #[.slice q n c,Qi 0,Qi n,Qi j,d] w λe a=>(∃v,e=.returned v)/\∃i,R i a:=by
 have b:=Aa f;have k:decide ((n:Int)<=12)=true:=Bl Q0
 have m:IntKind.i64.wrap ((n:Int)-0)=(n:Int):=(AU _ Q0).trans Q0
 have r:IntKind.i64.wrap ((n:Int))=(n:Int):=AU _ Q0
 clear f
 go_enter Tryz.func344,Tryz.ntmps344
 go_upto_region 3 with(fail)
 refine wp_loop_rounds 1 ?_;rw[Oy]
 go_wp2_with fail
 refine b.out.mono ?_;rintro e p ⟨⟨o,rfl⟩,g⟩;have h:=Aa g;clear g b
 go_wp2_with fail
 refine BV (Dw rfl _ _ _) rfl ?_;exact⟨⟨_,rfl⟩,_,h.out⟩
theorem zmC(w:World)(a:Value)(q:Option Addr)(n c:Nat)(k:n<=2)(R:Ending->World->Prop)
 (h:Qk 350 #[.slice q n c,Qi 0,Qi n,a] w λe b=>(∃v,e=.returned v)/\R e b) :
 Qk 325 #[.slice q n c,a] w λe b=>(∃v,e=.returned v)/\∃g,R g b:=by
 have f:=Aa (λm=>zz0 w .nilFunc a q n c m k R h);have d:=Aa (Tryz.bits_Len (n:Int) w Q0 Q0)
 have p:IntKind.u64.wrap ((n:Int))=(n:Int):=by
  simp[IntKind.wrap,IntKind.bits,IntKind.signed];omega
 clear h
 go_enter Tryz.func325,Tryz.ntmps325
 go_wp2_with fail
 refine d.out.mono ?_;rintro e l ⟨rfl,rfl⟩
 go_wp2_with fail
 refine(f.out _).mono ?_;rintro e l ⟨⟨o,rfl⟩,g,i⟩;have j:=Aa i;clear i f d
 go_wp2_with fail
 refine Fu (Dw rfl _ _ _) rfl ?_;exact⟨⟨_,rfl⟩,_,j.out⟩
theorem zr7(F:Nat)(f:HE->Int)(I:Pe F f)(w:World)(r:Nat)(M:Qg w r #[.func (.func F) #[] #[]] 388)(l:List HE)(L:l.length<=2)(A:∀h∈l,h.st<=1099511627776)(k:Nat)(K:k<=w.heap.size)(v:Value)(p:w.ownsRow k 271 3 v l.length (BB l)) :
 Qk 325 #[v,.func (.func 298) #[] #[.pointer (some ⟨r,0,none⟩)]] w λe j=>(∃N,e=.returned N)/\j.ownsRow k 271 3 v l.length (BB (FD f l))/\Below k w j:=by
 obtain⟨q,c,rfl⟩:=EN p
 by_cases y:l.length=2
 ·obtain⟨a,b,rfl⟩:∃a b,l=[a,b]:=by
   match l,y with
   | [a,b],_=>exact⟨a,b,rfl⟩
  rcases p.2 with G|⟨g,Q,i,n,t,u,x,C,D,E⟩
  ·simp at G
  ·injection n with n _ O
   subst n O
   obtain⟨rest,z⟩:∃rest,i=(BB [a,b]++rest).toArray:=⟨i.toList.drop (2*3),by
    rw[<-E]
    show i=(i.toList.take (2*3)++i.toList.drop (2*3)).toArray
    rw[Er]⟩
   have s:(BB (FD f [a,b])).length=6:=by rw[FD];split<;>rfl
   rw[z] at u;refine(zmC w _ _ 2 c (Af _) _ (zzU F f I w r g c M a b (A a Q6) (A b Q6) rest u x)).mono ?_
   rintro e j ⟨o,B,H,J⟩;refine⟨o,⟨by rw[s];rfl,.inr ⟨g,c,_,rfl,t,H,x,C,?_,?_⟩⟩,J.below t K⟩
   ·rw[<-D,z]
    simp only[F6,AJ,s];rfl
   ·show List.take 6 (BB (FD f [a,b])++rest)=_
    rw[<-s,List.take_left'];rfl
 ·have P:FD f l=l:=by
   match l,y with
   | [],_=>rfl
   | [a],_=>rfl
   |a::b::d::m,_=>rfl
  rw[P];refine(zmC w _ q l.length c L _ (zzu w .nilFunc _ q l.length c Q0)).mono ?_
  rintro e j ⟨o,B,rfl⟩;exact⟨o,p,Ag _ _⟩
end Go.Proofs.YtoejfkeofbdalaaGreatDoor
namespace Go.Proofs.YtoejfkeofbdalaaGreatDoor
open Go.RowKit
theorem zsV(w:World)(s:ByteArray)(v:Value)(l:List (Int × Int))(a:Bn w v l)(p:s.size<=60)(m:Nat)(o:m<=1000)(z:60<=m) :
 Qk 35 #[.string s,v,Qi (m:Nat)] w λe i=>∃T:ByteArray,e=.returned (.string T)/\T.size<=m/\Qb w i:=by
 obtain⟨d,h⟩:=Qe (m-s.size:Nat);have f:=Aa (zvT w.drew v l (a.up (Ag w.heap.size w).drew) d Q0)
 have t:min (s.size:Int) (m:Int)=(s.size:Int):=Q0
 have u:((m:Int)-(s.size:Int))=(d:Int):=Q0
 have j:IntKind.i64.wrap (d:Int)=(d:Int):=AU _ Q0
 have r:s.extract 0 s.size=s:=by simp
 obtain⟨q,c,rfl,-,-⟩:=Rd.isSlice a.rd;have k:(0:Int)<=(s.size:Int):=Q0
 have y:s.size+d=m:=Q0
 clear a h
 go_enter Tryz.func35,Tryz.ntmps35
 go_wp2_with fail
 go_region_with
  (first
   |(go_at_call 99
     refine f.out.mono ?_;rintro e j ⟨T,rfl,n,b⟩;have g:=Aa (A9 b (Cq (Ag w.heap.size w)));have x:s.size+T.size<=9223372036854775807:=Q0
     clear b)
   |fail)
 all_goals
  go_wp2_with fail
  go_ret
  exact⟨_,rfl,Q4,g.out⟩
theorem ztZ(w:World)(s:ByteArray)(v:Value)(l:List (Int × Int))(a:Bn w v l)(m:Nat)(n:m<=1000)(p:60<=m) :
 Qk 7 #[.string s,v,Qi (m:Nat)] w λe o=>∃T:ByteArray,e=.returned (.string T)/\T.size<=m/\Qb w o:=by
 obtain⟨k,j⟩:=Qe (min s.size 60:Nat);have u:min (s.size:Int) 60=(k:Int):=Q0
 have y:k<=s.size:=Q0
 obtain⟨X,i⟩:=Qe (s.extract 0 k:ByteArray);have d:X.size<=60:=by rw[<-i,Vs];omega
 have f:=Aa (zsV w X v l a d m n p);obtain⟨q,c,rfl,-,-⟩:=Rd.isSlice a.rd;have r:(0:Int)<=(k:Int):=Q0
 have t:(k:Int)<=(s.size:Int):=Q0
 clear a j d
 go_enter Tryz.func7,Tryz.ntmps7
 go_wp2_with fail
 refine f.out.mono ?_;rintro e x ⟨T,rfl,h,b⟩;have g:=Aa b;clear b
 go_wp2_with fail
 go_ret
 exact⟨T,rfl,h,g.out⟩
