import Derived.Test.YtoejfkeofbdalaaGreatDoorM38
import Derived.Test.YtoejfkeofbdalaaGreatDoorM36
set_option linter.all false
set_option maxRecDepth 100000
set_option maxHeartbeats 8000000
namespace Go.Proofs.YtoejfkeofbdalaaGreatDoor
open Go.RowKit Go.Shelf
open Go.Maps (Keyed)
variable {m n:Nat}
theorem DN.len{w:World}{H:List HE}(h:DN w n m H){W:World}(g:W.heap[n]?=w.heap[n]?)(a:TypeId):(Builtin.len_ #[371] a #[.map (some n)]).run Tryz.prog W=.ok (Qi (H.length:Nat)) W:=by
 obtain⟨D,⟨c,b,d,e⟩,f⟩:=h;have i:W.ownsMap Tryz.prog 3 EO n m D:=⟨c,b,g.trans d,e⟩;have:=i.len PD a;rw[f.size] at this;exact this
theorem Fp.del{H:List HE}{D:DataW Value}(e:Fp H D)(n:Maps.Tidy D)(b:Nat)(o:(H.filter λx=>decide (x.b≠b)).length+(if H.any (λx=>decide (x.b=b)) then 1 else 0)=H.length) :
 Fp (H.filter λx=>decide (x.b≠b)) (D.del (Gh b)):=by
 have j:∀c:Int,c≠(b:Int)->Gh c≠Gh b:=λc l a=>by injection a with _ a;exact l a
 refine⟨?_,?_,?_⟩
 ·have d:=Maps.size_del (k:=Gh b) n
  rw[e.has_iff,e.size] at d;omega
 ·intro h m
  obtain⟨d,g⟩:=Lu.1 m;have i:=j h.b (by have:=Kk g;omega)
  exact⟨by rw[Maps.has_del_other i];exact(e.at0 h d).1,λz=>by rw[Maps.atKey_del_other i];exact(e.at0 h d).2 z⟩
 ·intro c f
  by_cases a:c=(b:Int)
  ·subst a
   rw[Maps.has_del_same] at f;cases f
  ·rw[Maps.has_del_other (j c a)] at f
   obtain⟨x,d,g⟩:=e.only c f;exact⟨x,Lu.2 ⟨d,Bl Q0⟩,g⟩
theorem zxQ{H:List HE}(h:A7 n m H)(p:H.length<=2){g:HE}(c:g∈H):A7 n m (H.filter λx=>decide (x.b≠g.b))/\(H.filter λx=>decide (x.b≠g.b)).length+1=H.length:=by
 have k:∀x:HE,x∈H->A7 n m [x]:=λx e=>⟨by have:=h.room;have:=List.length_pos_of_mem e;simp;omega,λi a b l d=>by simp at d,λy f=>by rw[Li.1 f];exact h.one x e,λy f=>by rw[Li.1 f];exact h.small x e,λi j a b r l d=>by
  have:=(Cc.1 d).1;simp at this;omega⟩
 match H,p with
 | [],_=>simp at c
 | [a],_ =>
   simp at c;subst c;simp;exact A7.nil _ _
 | [a,b],_ =>
   have q:=h.up 0 a b rfl rfl;simp at c;rcases c with rfl|rfl
   ·rw[show([g,b].filter λx=>decide (x.b≠g.b))=[b] by simp;omega]
    exact⟨k b Q6,rfl⟩
   ·rw[show([a,g].filter λx=>decide (x.b≠g.b))=[a] by
     have o:a.b≠g.b:=Q0
     simp[List.filter,o]]
    exact⟨k a Q6,rfl⟩
theorem zAB{H:List HE}(h:A7 n m H)(B:n<=2)(f:H.length+1<=n)(e:HE)(C:e.st=m+1)(t:e.b<=1000000)(w:∀x∈H,x.b≠e.b) :
 A7 n (m+1) (JY e H)/\(JY e H).length=H.length+1/\∀x,x∈JY e H↔x=e\/(x∈H/\x.b≠e.b):=by
 match H,f with
 | [],f =>
   refine⟨⟨f,λi a b p k=>by simp[JY] at k,λy g=>?_,λy g=>?_,λi j a b z p k=>?_⟩,rfl,λx=>by simp[JY]⟩
   ·simp[JY] at g;subst g;omega
   ·simp[JY] at g;subst g;exact t
   ·have:=(Cc.1 k).1
    simp[JY] at this;omega
 | [a],f =>
   have p:=h.one a Q6
   have k:=h.small a Q6
   have q:=w a Q6
   have s:∀x y:HE,x.b<y.b->(x=e/\y=a\/x=a/\y=e)->A7 n (m+1) [x,y]:=λx y A o=>by
    refine⟨f,λi u v c d=>?_,λu c=>?_,λu c=>?_,λi j u v z c d=>?_⟩
    ·rcases i with - |i
     ·simp at c d;subst c d;exact A
     ·simp at d
    ·simp at c
     rcases o with⟨rfl,rfl⟩|⟨rfl,rfl⟩<;>rcases c with rfl|rfl<;>omega
    ·simp at c
     rcases o with⟨rfl,rfl⟩|⟨rfl,rfl⟩<;>rcases c with rfl|rfl<;>omega
    ·rcases i with - |i
     ·rcases j with - | - |j
      ·omega
      ·simp at c d
       subst c d;rcases o with⟨rfl,rfl⟩|⟨rfl,rfl⟩<;>omega
      ·simp at d
     ·have:=(Cc.1 d).1
      simp at this;omega
   by_cases l:e.b<a.b
   ·rw[JY,if_pos l]
    exact⟨s e a l (.inl ⟨rfl,rfl⟩),rfl,λx=>by
     simp
     constructor
     ·rintro(rfl|rfl)
      ·exact .inl rfl
      ·exact .inr ⟨rfl,q⟩
     ·rintro(rfl|⟨rfl,-⟩)
      ·exact .inl rfl
      ·exact .inr rfl⟩
   ·rw[JY,if_neg l]
    exact⟨s a e Q0 (.inr ⟨rfl,rfl⟩),rfl,λx=>by
     simp[JY]
     constructor
     ·rintro(rfl|rfl)
      ·exact .inr ⟨rfl,q⟩
      ·exact .inl rfl
     ·rintro(rfl|⟨rfl,-⟩)
      ·exact .inr rfl
      ·exact .inl rfl⟩
 |a::b::r,f=>simp at f;omega
theorem zrn(w:World)(R c:Nat)(P:Value)(H:List HE)(O:Rd w w.heap.size 3 P H.length (BB H))(d0:1<=R/\R<=2)(hc:c+1<=1099511627776)(J:A7 R c H)(j:Nat)(e5:j<=1000000)(c5:(H.any λy=>decide (y.b=j))=false)(t:List UInt8) :
 Qk 225 #[.agg #[.int .i64 R,.int .i64 c,P],.int .i64 j,.string ⟨t.toArray⟩] w λe G=>Qb w G/\∃(g7:Int)(b:List HE)(v:Value),e=.returned (.tuple #[.int .i64 g7,.agg #[.int .i64 R,.int .i64 ((c+1:Nat):Int),v],.int .i64 0])/\G.ownsRow w.heap.size 271 3 v b.length (BB b)/\A7 R (c+1) b/\∀h∈b,h=⟨j,c+1,t⟩\/h∈H:=by
 obtain⟨q,l,rfl,-,-⟩:=O.isSlice;obtain⟨f4,b0⟩:=Qe ((⟨t.toArray⟩:ByteArray):ByteArray);rw[b0];obtain⟨i,c3⟩:=Qe w.heap.size;have E:=Aa (Bb (.cells #[.int .i64 0,.int .i64 0,.slice none 0 0] 36) (Am w (.cells #[.int .i64 (R:Nat),.int .i64 (c:Nat),.slice q H.length l] 36) i c3.symm));have a9:=Aa (Am (w.alloc (.cells #[.int .i64 (R:Nat),.int .i64 (c:Nat),.slice q H.length l] 36)) (.cells #[.int .i64 0,.int .i64 0,.slice none 0 0] 36) (i+1) (by simp[c3]))
 have S:=Aa (Ay (Ay (Ag w.heap.size w) (.cells #[.int .i64 (R:Nat),.int .i64 (c:Nat),.slice q H.length l] 36)) (.cells #[.int .i64 0,.int .i64 0,.slice none 0 0] 36));have a0:=Aa O;have h4:=Aa c3;have a6:=Aa (λW (h:Rd W W.heap.size 3 (.slice q H.length l) H.length (BB H))=>RA W R c (.slice q H.length l) H h Q0 Q0 J)
 have a5:=Aa (λW (h:Rd W W.heap.size 3 (.slice q H.length l) H.length (BB H))=>ztO W R c (.slice q H.length l) H h Q0 J)
 have d1:=Aa (λW (h:Rd W W.heap.size 3 (.slice q H.length l) H.length (BB H))=>zqQ W R c (.slice q H.length l) H h d0 Q0 J)
 have K:Hid (∀(F:World)(g n:Nat)(o:List HE),n<=100->DN F g n o->A7 R c o->o.length+1<=R->(∀x∈o,x∈H)->Qk 257 #[.map (some g),.agg #[.int .i64 R,.int .i64 c,.slice q H.length l],.int .i64 j,.string f4] F λe G=>∃b m k,e=.returned (.agg #[.int .i64 R,.int .i64 ((c+1:Nat):Int),.slice m b.length k])/\G.ownsRow F.heap.size 271 3 (.slice m b.length k) b.length (BB b)/\Ab g F G/\A7 R (c+1) b/\∀h∈b,h=⟨j,c+1,t⟩\/h∈H):=λF g n o hn h3 h0 hl e8=>by
  have e2:∀x∈o,x.b≠j:=λx B e=>by
   have:=(GR.1 c5) x (e8 x B);exact this (Bl e)
  obtain⟨i1,i2,i3⟩:=zAB h0 d0.2 hl ⟨j,c+1,t⟩ rfl e5 e2;have g9:(o.any λy=>decide (y.b=j))=false:=GR.2 λx B e=>e2 x B (Kk e);have:=zmh F g n R c (.slice q H.length l) o (JY ⟨j,c+1,t⟩ o) j t h3 hn Q0 hc i3 (by rw[i2,if_neg (by rw[g9];simp)]) Q0 i1
  rw[b0] at this;refine this.mono ?_;rintro e G ⟨v,rfl,P,r⟩;obtain⟨m,k,rfl⟩:=EN P
  exact⟨_,m,k,rfl,P,r,i1,λh O=>by
   rcases(i3 h).1 O with p|p
   ·exact .inl p
   ·exact .inr (e8 h p.1)⟩
 obtain⟨N,a1⟩:=Qe H.length;rw[a1] at a6 a5 d1 K E a9 S a0;have D:=Aa a1;have b5:=Aa J;have h5:N<=R:=by have:=J.room;omega
 rw[a1];have i5:((c:Int)==1099511627776)=false:=Ez.2 Q0
 have h6:decide ((j:Int)<0)=false:=AV Q0
 clear O J b0 a1
 go_enter Tryz.func225,Tryz.ntmps225
 go_upto_region 1 with(fail)
 generalize(w.alloc (.cells #[.int .i64 (R:Nat),.int .i64 (c:Nat),.slice q N l] 36)).alloc (.cells #[.int .i64 0,.int .i64 0,.slice none 0 0] 36)=W at*
 have s:=A8 E.out;have z:=AA E.out;have A:=Bk E.out
 go_wp2_with fail
 refine(a6.out W ((Rd.below a0.out S.out (Af _)).mono S.out.size)).mono ?_;rintro e w1 ⟨rfl,f⟩;have X:=Aa (Al f E.out);have c0:=Aa (Al f a9.out);have T:=Aa (A9 f S.out);clear f E a9 S s z A a6;have s:=A8 X.out;have z:=AA X.out;have A:=Bk X.out
 go_wp2_with fail
 refine(a5.out w1 ((Rd.below a0.out T.out (Af _)).mono T.out.size)).mono ?_;rintro e Q ⟨g,rfl,e1,M,f⟩;have d5:=Aa (Al f X.out);have d6:=Aa (Al f c0.out);have d2:=Aa (A9 f T.out);have b2:=Aa M
 have a2:Hid (i+1<g):=by
  show _<_
  have:=Aj c0.out;omega
 have b4:Hid (w.heap.size<=g):=BU T.out.size e1;obtain⟨x,f0,g8,e3⟩:=M.look j e5 (W:=Q) rfl;rw[c5] at f0;obtain rfl:=e3 c5;have I:=Ay (Ag Q.heap.size Q) (.cells #[.int .i64 0,.int .i64 0,.string ⟨#[]⟩] 271);have e6:=b2.out.len (W:=Q.alloc (.cells #[.int .i64 0,.int .i64 0,.string ⟨#[]⟩] 271)) (I.block g M.lt);have a3:=Aa (Al I d5.out);have c1:=Aa (Al I d6.out);have V:=Aa (A9 I d2.out);have b3:=Aa (b2.out.same (I.block g M.lt));clear f X c0 T s z A a5 e1 M g8 e3 I d5 d6 d2 b2
 go_upto_region 8 with(fail)
 generalize Q.alloc (.cells #[.int .i64 0,.int .i64 0,.string ⟨#[]⟩] 271)=c7 at*
 clear f0;have s:=A8 a3.out;have z:=AA a3.out;have A:=Bk a3.out;simp only[D.out] at e6
 by_cases h1:N=R
 ·subst h1
  have g4:=Aa ((Rd.below a0.out V.out (Af _)).mono V.out.size)
  go_wp2_with fail
  refine(d1.out c7 g4.out).mono ?_;rintro e w5 ⟨v,rfl,ho,f⟩;obtain⟨m1,m2⟩:=zm8 Sl H;obtain⟨c6,c9⟩:=Qe (FD Sl H);rw[c9] at ho m1 m2;obtain⟨oq,oc,rfl⟩:=ho.shape;have c2:(ints (c6.map (·.b))).length=N:=by rw[Bj,Da,m2,D.out]
  obtain⟨y,hy⟩:∃y,c6[N-1]?=some y:=⟨_,Az (by have:=D.out;omega)⟩
  obtain⟨f5,f6,rfl,hg,e9⟩:=Rd.cellAt ho.is (by rw[c2];omega)
  have e0:Qc w5 f5 (f6+(N-1)) (.int .i64 (y.b:Nat)):=e9 (N-1) _ (by simp[C4,ints,hy])
  rw[c2];have c4:y∈H:=(m1 y).1 (Cn hy);have i4:=b5.out.small y c4;have g6:=Aa (b3.out.same (f.block g b3.out.lt));have b7:=Aa (Al f a3.out);have d7:=Aa (Al f c1.out);have d3:=Aa (A9 f V.out);obtain⟨f3,e7,c8⟩:=g6.out;have e4:=Aa e7;have f7:=Aa c8;have g5:=Aa (P9 (a:=(y.b:Int)) J4 (PG Q0))
  have i0:IntKind.i64.wrap ((N:Int)-1)=((N-1:Nat):Int):=(AU _ Q0).trans Q0
  have h7:(0:Int)<=((N-1:Nat):Int):=Q0
  have h8:((N-1:Nat):Int)<(N:Int):=Q0
  have h9:N-1<N:=Q0
  have d9:=Aa c4;clear e7 c8 e9 ho m1 m2 c9 hy c4 f c2 e6 s z A;have s:=A8 b7.out
  go_wp2_with (first
   |(at_delete;refine wpList_delete_own _ rfl _ _ 371 3 rfl 271 KQ PD _ g N f3 rfl e4.out _ _ rfl g5.out ?_;intro w6 f1 f2
     have a4:=f2.grown;obtain⟨t1,t2⟩:=zxQ b5.out (by have:=D.out;omega) d9.out
     have f9:=Aa t1;have g3:=Aa t2;have f8:Hid (DN w6 g N (H.filter λx=>decide (x.b≠y.b))):=⟨_,f1,f7.out.del (e4.out.tidy KQ) y.b (by rw[if_pos (J8.2 ⟨y,d9.out,Bl rfl⟩)];exact t2)⟩
     have b8:=Aa ((a4.block i (Aj b7.out) (by have:=a2.out;simp;omega)).trans b7.out)
     have d8:=Aa ((a4.block (i+1) (Aj d7.out) (by have:=a2.out;simp;omega)).trans d7.out)
     have d4:=Aa (d3.out.grown a4 d3.out.size (λh2 e=>by cases e;exact b4.out))
     have s:=A8 b8.out;have z:=AA b8.out;have A:=Bk b8.out;clear f1 f2 a4 t1 t2)
   |fail)
  refine(K.out w6 g N (H.filter λx=>decide (x.b≠y.b)) Q0 f8.out f9.out (by have:=g3.out;have:=D.out;omega) (λx B=>(Lu.1 B).1)).mono ?_
  rintro e w7 ⟨b,m,k,rfl,Z,r,p,L⟩;have d:=r.other d8.out (by have:=a2.out;omega)
  have u:=Aj d8.out;have U:=Aa (r.bel d4.out b4.out (Af _));have Y:=d4.out.size;have C:w.heap.size<=i+1:=Q0
  have r0:=A8 d;have r1:=AA d;have r2:=Bk d;have g0:=Ah d 0;have g1:=Ah d 1;have g2:=Ah d 2;have b9:=Aa (Ak (Ak (Ak d 0 (.int .i64 (N:Nat))) 1 (.int .i64 ((c+1:Nat):Int))) 2 (.slice m b.length k));have b6:=Aa (EY (Dq (Dq (Dq Z ((Ab.refl (i+1) w7).set 0 (.int .i64 (N:Nat))) u) ((Ab.refl (i+1) _).set 1 (.int .i64 ((c+1:Nat):Int))) u) ((Ab.refl (i+1) _).set 2 (.slice m b.length k)) u) Y);have b1:=Aa (Ce (Ce (Ce U.out C 0 (.int .i64 (N:Nat))) C 1 (.int .i64 ((c+1:Nat):Int))) C 2 (.slice m b.length k));have a7:=Aa p;have a8:=Aa L;clear Z r p L d u Y s z A U K
  go_wp2_with fail
  exact BV (TD rfl _ _ _ ⟨i+1,0,none⟩ _ rfl (PR _ _ _ _ _ b9.out)) rfl ⟨b1.out,_,b,_,rfl,b6.out,a7.out,a8.out⟩
 ·have hd:((N:Int)==(R:Int))=false:=Ez.2 Q0
  go_wp2_with fail
  refine(K.out c7 g N H Q0 b3.out b5.out (by have:=D.out;omega) (λx B=>B)).mono ?_
  rintro e w7 ⟨b,m,k,rfl,Z,r,p,L⟩;have d:=r.other c1.out (by have:=a2.out;omega)
  have u:=Aj c1.out;have U:=Aa (r.bel V.out b4.out (Af _));have Y:=V.out.size;have C:w.heap.size<=i+1:=Q0
  have r0:=A8 d;have r1:=AA d;have r2:=Bk d;have g0:=Ah d 0;have g1:=Ah d 1;have g2:=Ah d 2;have b9:=Aa (Ak (Ak (Ak d 0 (.int .i64 (R:Nat))) 1 (.int .i64 ((c+1:Nat):Int))) 2 (.slice m b.length k));have b6:=Aa (EY (Dq (Dq (Dq Z ((Ab.refl (i+1) w7).set 0 (.int .i64 (R:Nat))) u) ((Ab.refl (i+1) _).set 1 (.int .i64 ((c+1:Nat):Int))) u) ((Ab.refl (i+1) _).set 2 (.slice m b.length k)) u) Y);have b1:=Aa (Ce (Ce (Ce U.out C 0 (.int .i64 (R:Nat))) C 1 (.int .i64 ((c+1:Nat):Int))) C 2 (.slice m b.length k));have a7:=Aa p;have a8:=Aa L;clear Z r p L d u Y s z A U K
  go_wp2_with fail
  exact BV (TD rfl _ _ _ ⟨i+1,0,none⟩ _ rfl (PR _ _ _ _ _ b9.out)) rfl ⟨b1.out,_,b,_,rfl,b6.out,a7.out,a8.out⟩
end Go.Proofs.YtoejfkeofbdalaaGreatDoor
namespace Go.Proofs.YtoejfkeofbdalaaGreatDoor
open Go.RowKit Go.Shelf
variable {a b i j k m n:Nat} {h:Array Value} {s:List Value} {u v w:World} {x:Value}
def zyC(a:List UInt8)(e:Value)(R c:Nat)(d f:Value)(b:Nat):Array Value:=#[.string ⟨a.toArray⟩,e,Qi (R:Nat),Qi (c:Nat),d,f,Qi (b:Nat)]
theorem zo1(w:World)(k:Nat)(a:List UInt8)(g:Value)(R c:Nat)(t u:Value)(l:Nat)(p:Qg w k (zyC a g R c t u l) 39)(f:List Ai)(q:Au w g f)(o:Bz f)(r:BF)(s:Ph f r) :
 Qk 215 #[L6 r,Qp k 0] w λe U=>e=.returned (.bool false)/\Qb w U:=by
 have j:=Aa (λ(W:World)(h:Au W g f)=>zwl W a g R c t u l f h o r s);obtain⟨v,A,n,x,B,y,C⟩:=r;have i:=Aa (Ay (Ag w.heap.size w) (.cells #[Qi (v:Nat),Qi (A:Nat),Qi (n:Nat),Qi (x:Nat),Qi (B:Nat),.string ⟨y.toArray⟩,.string ⟨C.toArray⟩] 185));have b:=Aa (Al i.out p);have D:=Aa (Au.up q i.out);unfold L6 Fl at*
 unfold zyC at b
 dsimp only at*
 clear p q o s;obtain⟨L,z⟩:=Qe w.heap.size;have d:=Aa (Am w (.cells #[Qi (v:Nat),Qi (A:Nat),Qi (n:Nat),Qi (x:Nat),Qi (B:Nat),.string ⟨y.toArray⟩,.string ⟨C.toArray⟩] 185) L z.symm)
 go_enter Tryz.func215,Tryz.ntmps215
 go_upto_region 1 with(fail)
 generalize w.alloc _=W at*
 have E:=A8 b.out;have F:=AA b.out;have G:=Bk b.out;have H:=CY b.out;have I:=De b.out;have J:=Df b.out;have K:=ES b.out;have M:=A8 d.out;have N:=AA d.out;have O:=Bk d.out;have P:=CY d.out;have Q:=De d.out;have S:=Df d.out;have T:=ES d.out
 go_wp2_with fail
 refine(j.out W D.out).mono ?_;rintro e X ⟨rfl,m⟩;have V:=Aa (A9 m i.out);clear m j E F G H I J K M N O P Q S T
 go_wp2_with fail
 go_ret
 exact⟨rfl,z ▸ V.out⟩
theorem zjH:Enters Tryz.prog 215:=enters_of Tryz.func215 Q2 rfl
theorem zpK(w:World)(j:Value)(r:BF)(h:Rd w w.heap.size 7 j 1 (DH r))(F:Nat)(D:Enters Tryz.prog F)(x:Value)(i:∀W,Qb w W->Qk F #[L6 r,x] W λe f=>e=.returned (.bool false)/\Qb W f) :
 Qk 254 #[j,.func (.func F) #[] #[x]] w λe f=>e=.returned (Qi (-1))/\Qb w f:=by
 have b:=Aa (i w (Ag _ _));obtain⟨q,c,rfl,-,-⟩:=Rd.isSlice h;obtain⟨g,o,rfl,I,a⟩:=Rd.cellAt h Q0
 obtain⟨z,E,n,B,G,C,H⟩:=r;unfold L6 at b
 dsimp only at b
 have m:Qc w g o (Qi (z:Nat)):=a 0 _ rfl;have p:Qc w g (o+1) (Qi (E:Nat)):=a 1 _ rfl;have s:Qc w g (o+2) (Qi (n:Nat)):=a 2 _ rfl;have t:Qc w g (o+3) (Qi (B:Nat)):=a 3 _ rfl;have u:Qc w g (o+4) (Qi (G:Nat)):=a 4 _ rfl;have v:Qc w g (o+5) (.string ⟨C.toArray⟩):=a 5 _ rfl;have y:Qc w g (o+6) (.string ⟨H.toArray⟩):=a 6 _ rfl;unfold Enters at D;clear i a h
 go_enter Tryz.func254,Tryz.ntmps254
 go_wp2_with fail
 go_loopw [8] (λd wr=>(d=Qi 0/\wr=w)\/(d=Qi 1/\Hid (Qb w wr))) (λd _=>2-(intOf d).toNat)
 case atStart=>exact .inl ⟨rfl,rfl⟩
 case round =>
  rcases hrel with⟨rfl,rfl⟩|⟨rfl,l⟩
  ·go_wp2_with fail
   refine b.out.mono ?_;rintro e J ⟨rfl,k⟩;have A:=Aa k;clear k b m p s t u v y
   go_wp2_with fail
   go_roundw
   case rel=>exact .inr ⟨by go_num,A⟩
   case measure=>simp[intOf]
  ·go_wp2_with fail
   go_ret
   exact⟨rfl,l.out⟩
theorem zjN(w:World)(a:Value)(r:BF)(h:Rd w w.heap.size 7 a 1 (DH r))(F:Nat)(g:Enters Tryz.prog F)(x:Value)(f:∀W,Qb w W->Qk F #[L6 r,x] W λe b=>e=.returned (.bool false)/\Qb W b) :
 Qk 214 #[a,.func (.func F) #[] #[x]] w λe b=>e=.returned (.bool false)/\Qb w b:=by
 have c:=Aa (zpK w a r h F g x f);clear h f g
 go_enter Tryz.func214,Tryz.ntmps214
 go_wp2_with fail
 refine c.out.mono ?_;rintro e j ⟨rfl,d⟩;have i:=Aa d;clear d c
 go_wp2_with fail
 go_ret
 exact⟨rfl,i.out⟩
theorem zqP(w:World)(a:List UInt8)(d:Value)(R c:Nat)(f i:Value)(j:Nat)(g:List Ai)(X:Au w d g)(t:Bz g)(H:List HE)(V:Rd w w.heap.size 3 f H.length (BB H))(e6:1<=R/\R<=2)(hc:c<=1099511627776)(a4:A7 R c H)(a7:Kx g H)(r:BF)(a5:Rd w w.heap.size 7 i 1 (DH r))(hr:Ph g r)(e7:j<=1099511627776) :
 Qk 154 #[Fl a d R c f i j] w λe o=>e=.returned (.bool true)/\Qb w o:=by
 have m:=Ay (Ag w.heap.size w) (.cells #[.string ⟨a.toArray⟩,d,Qi (R:Nat),Qi (c:Nat),f,i,Qi (j:Nat)] 39);obtain⟨C,c0⟩:=Qe w.heap.size;have q:=Aa (Am w (.cells #[.string ⟨a.toArray⟩,d,Qi (R:Nat),Qi (c:Nat),f,i,Qi (j:Nat)] 39) C c0.symm);have s:=Aa (Au.up X m);have A:=Aa (Rd.up V m);have F:=Aa (Rd.up a5 m);have E:=Aa m;have L:Hid (∀W,Au W d g->Qk 41 #[d] W λe o=>e=.returned (.bool true)/\Qb W o):=λW h=>ZU W d g h t;have K:Hid (∀W:World,Rd W W.heap.size 3 f H.length (BB H)->Qk 153 #[.agg #[Qi R,Qi c,f]] W λe o=>e=.returned (.bool true)/\Qb W o):=λW h=>RA W R c f H h Q0 hc a4
 have z:Hid (∀W:World,Qg W C #[.string ⟨a.toArray⟩,d,Qi (R:Nat),Qi (c:Nat),f,i,Qi (j:Nat)] 39->Au W d g->Rd W W.heap.size 7 i 1 (DH r)->Qk 214 #[i,.func (.func 215) #[] #[.pointer (some ⟨C,0,none⟩)]] W λe o=>e=.returned (.bool false)/\Qb W o):=λW h1 h2 h3=>zjN W i r h3 _ zjH _ λO b=>zo1 O C a d R c f i j (Al b h1) g (Au.up h2 b) t r hr;obtain⟨e3,cq,rfl⟩:=X.shape;obtain⟨qh,ch,rfl,-,-⟩:=Rd.isSlice V;obtain⟨qr,cr,rfl,-,-⟩:=Rd.isSlice a5;obtain⟨N,U⟩:=Qe g.length;have d0:=t.few;rw[U] at L s q E z d0 A F |-;obtain⟨M,B⟩:=Qe H.length;rw[B] at A K q E z s F |-;have b7:=Aa U;have c8:=Aa B;have c7:=Aa a7;have c9:=a4.room;rw[B] at c9;have e4:=Aa t;have x1:decide ((1:Int)<1)=false:=rfl;have x4:decide (1099511627776<(j:Int))=false:=AV Q0
 have x3:decide ((j:Int)<0)=false:=AV Q0
 unfold Fl;clear X V a5 a4 m t a7 U B hr
 go_enter Tryz.func154,Tryz.ntmps154
 go_upto_region 1 with(fail)
 generalize w.alloc _=W at*
 have Q:=AA q.out
 go_wp2_with fail
 refine(L.out W s.out).mono ?_;rintro e O ⟨rfl,b⟩;have u:=Aa (Al b q.out);have b8:=Aa (Au.up s.out b);have a2:=Aa (Rd.up A.out b);have c2:=Aa (Rd.up F.out b);have a8:=Aa (A9 b E.out);clear Q b q s A F E L;have d2:=Bk u.out;have d3:=CY u.out;have S:=De u.out
 go_wp2_with fail
 refine(K.out O a2.out).mono ?_;rintro e P ⟨rfl,b⟩;have v:=Aa (Al b u.out);have b9:=Aa (Au.up b8.out b);have b6:=Aa (Rd.up a2.out b);have c3:=Aa (Rd.up c2.out b);have a9:=Aa (A9 b a8.out);clear d2 d3 S b u b8 a2 c2 a8 K;have S:=De v.out;have T:=Df v.out;have d6:=ES v.out
 go_wp2_with fail
 go_loopw [41] (λkv wr=>∃k:Nat,k<=M/\kv=Qi k/\Hid (Qb P wr)) (λkv _=>M+1-(intOf kv).toNat)
 case atStart=>exact⟨0,Q0,rfl,Ag _ _⟩
 case round =>
  obtain⟨k,hk,rfl,n⟩:=hrel;clear S T d6;have y:=Aa (Al n.out v.out);have G:=Aa (Au.up b9.out n.out);have a3:=Aa (Rd.up b6.out n.out);have a6:=Aa (Rd.up c3.out n.out);have a0:=Aa (A9 n.out a9.out);have b4:=n;clear n
  by_cases d1:k<M
  ·obtain⟨d7,d8,x,Z,-,hx,e0,e1,e2⟩:=Sw a3.out c8.out k d1
   subst Z;obtain⟨d9,Y,c1⟩:=c7.out x (Cn hx);have d4:x.b<N:=by have:=(Cc.1 Y).1;have:=b7.out;omega
   have m:=Ay (Ag wr.heap.size wr) (.cells #[Qi (x.b:Nat),Qi (x.st:Nat),.string ⟨x.t.toArray⟩] 271);obtain⟨g2,o2,p2,Z,-,J,-,-,-,v3,-⟩:=NB (Au.up G.out m) b7.out x.b d4;subst Z;rw[Y] at J;injection J with J
   subst J;rw[<-c1] at v3;clear Y c1 hx m;obtain⟨l,D,p⟩:=x
   dsimp only at*
   have e9:(k:Int)<(M:Int):=Q0
   have e8:(0:Int)<=(k:Int):=Q0
   have hd:decide ((k:Int)<(M:Int))=true:=Bl Q0
   have y1:decide ((N:Int)<=(l:Int))=false:=AV Q0
   have y2:decide (N<=l)=false:=AV Q0
   have f1:(l:Int)<(N:Int):=Q0
   have f0:(0:Int)<=(l:Int):=Q0
   have a1:=Aa (Ay (Ag wr.heap.size wr) (.cells #[Qi (l:Nat),Qi (D:Nat),.string ⟨p.toArray⟩] 271));have b5:=Aa (Al a1.out y.out);have c5:=Aa (A9 a1.out a0.out);have b3:=Aa (Ay (show Qb P wr from b4.out) (.cells #[Qi (l:Nat),Qi (D:Nat),.string ⟨p.toArray⟩] 271))
   have I:=Am wr (.cells #[Qi (l:Nat),Qi (D:Nat),.string ⟨p.toArray⟩] 271) _ rfl;have b0:=A8 I;have b1:=AA I;have b2:=Bk I;have Q:=AA b5.out;clear I
   go_upto_region 6 with(fail)
   generalize wr.alloc (.cells #[Qi (l:Nat),Qi (D:Nat),.string ⟨p.toArray⟩] 271)=c4 at*
   have y3:((p.length:Int) !=(p.length:Int))=false:=by simp
   go_wp2_with fail
   go_quiet (fail)
   have d5:Hid (Qb P (c4.drewN nq)):=EW b3.out nq;clear b0 b1 b2 Q v3 e0 e1 e2 a1 b5 c5 b3 y G a3 a6 a0 b4
   go_wp2_with fail
   go_roundw
   case rel=>exact⟨k+1,Q0,by go_num,d5⟩
   case measure=>simp[intOf];omega
  ·obtain rfl:k=M:=Q0
   have hd:decide ((k:Int)<(k:Int))=false:=AV Q0
   have T:=Df y.out
   go_wp2_with fail
   refine(z.out wr y.out G.out a6.out).mono ?_;rintro e e5 ⟨rfl,b⟩;have c6:=Aa (A9 b a0.out);clear b T z v b9 b6 c3 a9 y G a3 a6
   go_wp2_with fail
   go_ret
   exact⟨rfl,c0 ▸ c6.out⟩
theorem GW:Dh 37 185 (.agg #[Qi 0,Qi 0,Qi 0,Qi 0,Qi 0,.string ⟨#[]⟩,.string ⟨#[]⟩]) 7 72:=⟨Tryz.underlying37,Q2,rfl,Q5⟩
theorem znI(w:World)(d:Nat)(a:Addr)(l c:Nat):(Op.equalIn (d+1) 29 (.slice (some a) l c) (.slice none 0 0)).run Tryz.prog w=.ok false w:=by
 simp[Op.equalIn,Kl EG.under]
theorem zsB(w:World)(a:Addr)(l c:Nat):(Op.equal 29 (.slice (some a) l c) (.slice none 0 0)).run Tryz.prog w=.ok false w:=znI w 9999 a l c
theorem zo4(w:World)(d:Nat)(l c:Nat):(Op.equalIn (d+1) 29 (.slice none l c) (.slice none 0 0)).run Tryz.prog w=.ok true w:=by
 simp[Op.equalIn,Kl EG.under]
theorem zuL(w:World)(l c:Nat):(Op.equal 29 (.slice none l c) (.slice none 0 0)).run Tryz.prog w=.ok true w:=zo4 w 9999 l c
theorem zwQ(w:World)(a:Addr)(l c:Nat):(binOp .eql 29 (.slice (some a) l c) (.slice none 0 0)).run Tryz.prog w=.ok (.bool false) w:=by
 simp[binOp,zsB w a l c]
theorem zrV(w:World)(v:Value)(n:Nat)(d:List Value)(b:Rd w w.heap.size 5 v n d)(E:n<=1000000)(i:∀c∈d,c.oneCell'=true) :
 Qk 155 #[v] w λe m=>∃l,e=.returned l/\m.ownsRow w.heap.size 56 5 l n d/\Qb w m:=by
 obtain⟨q,c,rfl,-,-⟩:=Rd.isSlice b;cases q with
 | none =>
   have x:n=0:=by
    rcases IP n with h|h
    ·exact h
    ·obtain⟨g,o,u,-⟩:=Rd.cellAt b h
     cases u
   subst x;have B:d=[]:=Ey (by have:=b.1;omega)
   subst B;clear b i
   have D:∀W,(binOp .eql 29 (.slice none 0 c) (.slice none 0 0)).run Tryz.prog W=.ok (.bool true) W:=λW=>by
    simp[binOp,zuL W 0 c]
   go_enter Tryz.func155,Tryz.ntmps155
   go_wp2_with fail
   go_ret
   exact⟨_,rfl,⟨rfl,.inl ⟨rfl,rfl⟩⟩,Ag _ _⟩
 | some a =>
   have r:=Aa (Rd.up b (Ay (Ag w.heap.size w) (.cells #[] 56)));have HE:Hid ((w.alloc (.cells #[] 56)).ownsRow w.heap.size 56 5 (Qs w.heap.size 0 0 0) 0 []):=⟨rfl,.inr ⟨w.heap.size,0,#[],rfl,Af _,Am _ _ _ rfl,Af _,BI _,rfl,rfl⟩⟩;have z:=Aa (Ay (Ag w.heap.size w) (.cells #[] 56));have D:∀W,(binOp .eql 29 (.slice (some a) n c) (.slice none 0 0)).run Tryz.prog W=.ok (.bool false) W:=λW=>zwQ W _ _ _;have s:=Aa i;clear b i
   go_enter Tryz.func155,Tryz.ntmps155
   go_wp2_with
    (at_builtin
     refine JC EG rfl _ _ rfl w.heap.size _ 0 [] rfl HE.out _ n _ d rfl r.out s.out Q0 Q0 Q6 ?_
     intro q c y f j A;rw[DC] at f |-;rw[C6] at f;have C:=Aa f;have p:Hid (Qb w y):=PZ j z.out (λk t=>Dm HE.out t);clear f j A)
   go_ret
   exact⟨_,rfl,C.out,p.out⟩
theorem znw(w:World)(d:Nat)(a:Addr)(l c:Nat):(Op.equalIn (d+1) 34 (.slice (some a) l c) (.slice none 0 0)).run Tryz.prog w=.ok false w:=by
 simp[Op.equalIn,Kl DV.under]
theorem zqV(w:World)(a:Addr)(l c:Nat):(Op.equal 34 (.slice (some a) l c) (.slice none 0 0)).run Tryz.prog w=.ok false w:=znw w 9999 a l c
theorem zo6(w:World)(d:Nat)(l c:Nat):(Op.equalIn (d+1) 34 (.slice none l c) (.slice none 0 0)).run Tryz.prog w=.ok true w:=by
 simp[Op.equalIn,Kl DV.under]
theorem zvF(w:World)(l c:Nat):(Op.equal 34 (.slice none l c) (.slice none 0 0)).run Tryz.prog w=.ok true w:=zo6 w 9999 l c
theorem zws(w:World)(a:Addr)(l c:Nat):(binOp .eql 34 (.slice (some a) l c) (.slice none 0 0)).run Tryz.prog w=.ok (.bool false) w:=by
 simp[binOp,zqV w a l c]
theorem zqU(w:World)(v:Value)(n:Nat)(d:List Value)(b:Rd w w.heap.size 3 v n d)(E:n<=1000000)(i:∀c∈d,c.oneCell'=true) :
 Qk 156 #[v] w λe m=>∃l,e=.returned l/\m.ownsRow w.heap.size 271 3 l n d/\Qb w m:=by
 obtain⟨q,c,rfl,-,-⟩:=Rd.isSlice b;cases q with
 | none =>
   have x:n=0:=by
    rcases IP n with h|h
    ·exact h
    ·obtain⟨g,o,u,-⟩:=Rd.cellAt b h
     cases u
   subst x;have B:d=[]:=Ey (by have:=b.1;omega)
   subst B;clear b i
   have D:∀W,(binOp .eql 34 (.slice none 0 c) (.slice none 0 0)).run Tryz.prog W=.ok (.bool true) W:=λW=>by
    simp[binOp,zvF W 0 c]
   go_enter Tryz.func156,Tryz.ntmps156
   go_wp2_with fail
   go_ret
   exact⟨_,rfl,⟨rfl,.inl ⟨rfl,rfl⟩⟩,Ag _ _⟩
 | some a =>
   have r:=Aa (Rd.up b (Ay (Ag w.heap.size w) (.cells #[] 271)));have HE:Hid ((w.alloc (.cells #[] 271)).ownsRow w.heap.size 271 3 (Qs w.heap.size 0 0 0) 0 []):=⟨rfl,.inr ⟨w.heap.size,0,#[],rfl,Af _,Am _ _ _ rfl,Af _,BI _,rfl,rfl⟩⟩;have z:=Aa (Ay (Ag w.heap.size w) (.cells #[] 271));have D:∀W,(binOp .eql 34 (.slice (some a) n c) (.slice none 0 0)).run Tryz.prog W=.ok (.bool false) W:=λW=>zws W _ _ _;have s:=Aa i;clear b i
   go_enter Tryz.func156,Tryz.ntmps156
   go_wp2_with
    (at_builtin
     refine JC DV rfl _ _ rfl w.heap.size _ 0 [] rfl HE.out _ n _ d rfl r.out s.out Q0 Q0 Q6 ?_
     intro q c y f j A;rw[DC] at f |-;rw[C6] at f;have C:=Aa f;have p:Hid (Qb w y):=PZ j z.out (λk t=>Dm HE.out t);clear f j A)
   go_ret
   exact⟨_,rfl,C.out,p.out⟩
theorem zl8(w:World)(d:Nat)(a:Addr)(l c:Nat):(Op.equalIn (d+1) 37 (.slice (some a) l c) (.slice none 0 0)).run Tryz.prog w=.ok false w:=by
 simp[Op.equalIn,Kl GW.under]
theorem zrl(w:World)(a:Addr)(l c:Nat):(Op.equal 37 (.slice (some a) l c) (.slice none 0 0)).run Tryz.prog w=.ok false w:=zl8 w 9999 a l c
theorem zox(w:World)(d:Nat)(l c:Nat):(Op.equalIn (d+1) 37 (.slice none l c) (.slice none 0 0)).run Tryz.prog w=.ok true w:=by
 simp[Op.equalIn,Kl GW.under]
theorem zuh(w:World)(l c:Nat):(Op.equal 37 (.slice none l c) (.slice none 0 0)).run Tryz.prog w=.ok true w:=zox w 9999 l c
theorem zxX(w:World)(a:Addr)(l c:Nat):(binOp .eql 37 (.slice (some a) l c) (.slice none 0 0)).run Tryz.prog w=.ok (.bool false) w:=by
 simp[binOp,zrl w a l c]
theorem zsD(w:World)(v:Value)(n:Nat)(d:List Value)(b:Rd w w.heap.size 7 v n d)(E:n<=1000000)(i:∀c∈d,c.oneCell'=true) :
 Qk 157 #[v] w λe m=>∃l,e=.returned l/\m.ownsRow w.heap.size 185 7 l n d/\Qb w m:=by
 obtain⟨q,c,rfl,-,-⟩:=Rd.isSlice b;cases q with
 | none =>
   have x:n=0:=by
    rcases IP n with h|h
    ·exact h
    ·obtain⟨g,o,u,-⟩:=Rd.cellAt b h
     cases u
   subst x;have B:d=[]:=Ey (by have:=b.1;omega)
   subst B;clear b i
   have D:∀W,(binOp .eql 37 (.slice none 0 c) (.slice none 0 0)).run Tryz.prog W=.ok (.bool true) W:=λW=>by
    simp[binOp,zuh W 0 c]
   go_enter Tryz.func157,Tryz.ntmps157
   go_wp2_with fail
   go_ret
   exact⟨_,rfl,⟨rfl,.inl ⟨rfl,rfl⟩⟩,Ag _ _⟩
 | some a =>
   have r:=Aa (Rd.up b (Ay (Ag w.heap.size w) (.cells #[] 185)));have HE:Hid ((w.alloc (.cells #[] 185)).ownsRow w.heap.size 185 7 (Qs w.heap.size 0 0 0) 0 []):=⟨rfl,.inr ⟨w.heap.size,0,#[],rfl,Af _,Am _ _ _ rfl,Af _,BI _,rfl,rfl⟩⟩;have z:=Aa (Ay (Ag w.heap.size w) (.cells #[] 185));have D:∀W,(binOp .eql 37 (.slice (some a) n c) (.slice none 0 0)).run Tryz.prog W=.ok (.bool false) W:=λW=>zxX W _ _ _;have s:=Aa i;clear b i
   go_enter Tryz.func157,Tryz.ntmps157
   go_wp2_with
    (at_builtin
     refine JC GW rfl _ _ rfl w.heap.size _ 0 [] rfl HE.out _ n _ d rfl r.out s.out Q0 Q0 Q6 ?_
     intro q c y f j A;rw[DC] at f |-;rw[C6] at f;have C:=Aa f;have p:Hid (Qb w y):=PZ j z.out (λk t=>Dm HE.out t);clear f j A)
   go_ret
   exact⟨_,rfl,C.out,p.out⟩
structure BD(a b:Nat)(w w':World):Prop where
 os:w'.os=w.os
 tape:w'.tape=w.tape
 output:w'.output=w.output
 size:w.heap.size<=w'.heap.size
 block:∀j,j<w.heap.size->j≠a->j≠b->w'.heap[j]?=w.heap[j]?
theorem BD.refl(a b:Nat)(w:World):BD a b w w:=⟨rfl,rfl,rfl,Af _,λ_ _ _ _=>rfl⟩
theorem BD.of(h:Qb w v):BD n m w v:=⟨h.os,h.tape,h.output,h.size,λj a _ _=>h.block j a⟩
theorem BD.trans(h:BD n m w v)(g:BD n m v u):BD n m w u :=
 ⟨g.os.trans h.os,g.tape.trans h.tape,g.output.trans h.output,BU h.size g.size,λj c a b=>(g.block j (Iy c h.size) a b).trans (h.block j c a b)⟩
theorem BD.call(h:BD n m w v)(g:Qb v u):BD n m w u:=h.trans (BD.of g)
theorem BD.onlyA(h:Ab n w v):BD n b w v:=⟨h.os,h.tape,h.output,h.size,λj c a _=>h.block j c a⟩
theorem BD.onlyB(h:Ab m w v):BD n m w v:=⟨h.os,h.tape,h.output,h.size,λj b _ a=>h.block j b a⟩
theorem BD.setA(h:BD n m w v)(i:Nat)(u:Value):BD n m w (v.setCell ⟨n,i,none⟩ u):=h.trans (BD.onlyA ((Ab.refl n v).set i u))
theorem BD.setNew(h:BD n m w v){k:Nat}(d:w.heap.size<=k)(i:Nat)(u:Value):BD n m w (v.setCell ⟨k,i,none⟩ u):=by
 have g:=(Ab.refl k v).set i u;exact⟨g.os.trans h.os,g.tape.trans h.tape,g.output.trans h.output,BU h.size g.size,λj a b c=>(g.block j (Iy a h.size) Q0).trans (h.block j a b c)⟩
theorem BD.other{o:Obj}(h:BD n m w v)(a:Qh w k o)(b:k≠n)(c:k≠m):Qh v k o:=(h.block k (Aj a) b c).trans a
theorem BD.bel{w0:World}(h:BD n m v u)(a:Below k w0 v)(c:k<=n)(d:k<=m)(b:k<=w0.heap.size):Below k w0 u :=
 a.trans ⟨h.os,h.tape,h.output,h.size,λj e=>h.block j (by have:=a.size;omega) Q0 Q0⟩
theorem zqp(h:w.ownsRow n m k x i s)(j:∀(g:Nat)(c:Array Value),Qh w g (Obj.cells c m (0,0))->v.heap[g]?=w.heap[g]?):v.ownsRow n m k x i s:=by
 refine⟨h.1,?_⟩;rcases h.2 with h|⟨g,l,b,d,e,a,f⟩
 ·exact .inl h
 ·exact .inr ⟨g,l,b,d,e,(j g b a).trans a,f⟩
theorem N8{c:Nat}{Q:Array Value}(f:w.ownsRow k i j x a s)(g:BD n m w v)(o:Qg w n h b)(p:Qg w m Q c)(q:i≠b)(r:i≠c):v.ownsRow k i j x a s:=by
 refine zqp f λl t d=>g.block l (Aj d) (λe=>?_) (λe=>?_)
 ·subst e
  rw[o] at d;injection d with d
  injection d with _ d
  exact q d.symm
 ·subst e
  rw[p] at d;injection d with d
  injection d with _ d
  exact r d.symm
theorem F9(e:w.ownsRow m k i x j s)(g:Ab n w v)(c:Qg w n h a)(d:k≠a):v.ownsRow m k i x j s:=N8 e (BD.onlyA (b:=n) g) c c d d
theorem Ze:∀(b:List Ai)(f:Nat),∀x∈DR f b,x.oneCell'=true
 | [],f=>by simp[DR]
 | p::b,f=>by
   intro x a;rw[DR,FZ] at a;rcases a with a|a
   ·simp[MN] at a
    rcases a with rfl|rfl|rfl|rfl|rfl<;>rfl
   ·exact Ze b _ x a
theorem zst(H:List HE):∀x∈BB H,x.oneCell'=true:=by
 intro x a;unfold BB at a;obtain⟨h,-,a⟩:=SB.1 a;simp[Lb] at a;rcases a with rfl|rfl|rfl<;>rfl
theorem zl0(w:World)(a:List UInt8)(L:Value)(R c:Nat)(K P:Value)(k:Nat)(t:List Ai)(Z:Au w L t)(a4:Bz t)(H:List HE)(Y:Rd w w.heap.size 3 K H.length (BB H))(b9:H.length<=64)(r:BF)(a1:Rd w w.heap.size 7 P 1 (DH r)) :
 Qk 108 #[Fl a L R c K P k] w λe Q=>∃b5 b4 b6,e=.returned (Fl a b5 R c b4 b6 k)/\Q.ownsRow w.heap.size 56 5 b5 t.length (DR 0 t)/\Q.ownsRow w.heap.size 271 3 b4 H.length (BB H)/\Q.ownsRow w.heap.size 185 7 b6 1 (DH r)/\Qb w Q:=by
 have c0:=a4.few;have o1:∀x∈DR 0 t,x.oneCell'=true:=Ze t 0;have o2:∀x∈BB H,x.oneCell'=true:=zst H;have o3:∀x∈DH r,x.oneCell'=true:=by intro x hx;simp[DH] at hx;rcases hx with rfl|rfl|rfl|rfl|rfl|rfl|rfl<;>rfl
 have S:=Aa (λ(W:World) (h:Rd W W.heap.size 5 L t.length (DR 0 t))=>zrV W L t.length (DR 0 t) h Q0 o1)
 have U:=Aa (λ(W:World) (h:Rd W W.heap.size 3 K H.length (BB H))=>zqU W K H.length (BB H) h Q0 o2)
 have a2:=Aa (λ(W:World) (h:Rd W W.heap.size 7 P 1 (DH r))=>zsD W P 1 (DH r) h Q0 o3)
 have V:=Aa Z;have a3:=Aa Y;have b7:=Aa a1;obtain⟨qi,X,rfl⟩:=Z.shape;obtain⟨O,J,rfl,-,-⟩:=Rd.isSlice Y;obtain⟨F,D,rfl,-,-⟩:=Rd.isSlice a1;obtain⟨N,a6⟩:=Qe t.length;obtain⟨M,a5⟩:=Qe H.length;unfold Au at V;rw[a6] at S V |-;rw[a5] at U a3 |-;obtain⟨T,hs⟩:=Qe ((⟨a.toArray⟩:ByteArray):ByteArray);have c1:=Aa hs;unfold Fl;rw[hs];clear Z Y a1 o1 o2 o3 a4 c0 hs b9 a6 a5;obtain⟨b,B⟩:=Qe w.heap.size;have c3:=Aa B;have b3:=Ay (Ay (Ag w.heap.size w) (.cells #[.string T,.slice qi N X,Qi (R:Nat),Qi (c:Nat),.slice O M J,.slice F 1 D,Qi (k:Nat)] 39)) (.cells #[.string ⟨#[]⟩,.slice none 0 0,Qi 0,Qi 0,.slice none 0 0,.slice none 0 0,Qi 0] 39);have f:=Aa (Bb (.cells #[.string ⟨#[]⟩,.slice none 0 0,Qi 0,Qi 0,.slice none 0 0,.slice none 0 0,Qi 0] 39) (Am w (.cells #[.string T,.slice qi N X,Qi (R:Nat),Qi (c:Nat),.slice O M J,.slice F 1 D,Qi (k:Nat)] 39) b B.symm));have d:=Aa (Am (w.alloc (.cells #[.string T,.slice qi N X,Qi (R:Nat),Qi (c:Nat),.slice O M J,.slice F 1 D,Qi (k:Nat)] 39)) (.cells #[.string ⟨#[]⟩,.slice none 0 0,Qi 0,Qi 0,.slice none 0 0,.slice none 0 0,Qi 0] 39) (b+1) (by simp[B]))
 have i:=Aa b3;clear b3
 go_enter Tryz.func108,Tryz.ntmps108
 go_upto_region 1 with(fail)
 generalize(w.alloc _).alloc _=W at*
 have q:=AA f.out
 go_wp2_with fail
 refine(S.out W (Rd.up V.out i.out)).mono ?_;rintro e w2 ⟨v1,rfl,v,g⟩;obtain⟨l,j,rfl,-,-⟩:=Rd.isSlice (Rd.own v);have G:=Aa (Al g f.out);have b0:=Aa (Al g d.out);have a7:=Aa (A9 g i.out);have u:=Aa (EY v i.out.size);clear q v g f d i S;have q:=AA G.out;have E:=Ah G.out 1
 go_upto_region 2 with(fail)
 have y:Qg (w2.setCell ⟨b,1,none⟩ (.slice l N j)) b #[.string T,.slice l N j,Qi (R:Nat),Qi (c:Nat),.slice O M J,.slice F 1 D,Qi (k:Nat)] 39:=Ak G.out 1 (.slice l N j);have m:=(Ab.refl b w2).set 1 (.slice l N j);have f:=Aa y;have d:=Aa (m.other b0.out Q0)
 have i:=Aa (Ce a7.out (show w.heap.size<=b by omega) 1 (.slice l N j))
 have u:=Aa (F9 u.out m G.out Q5)
 clear y m G b0 a7 q E;generalize w2.setCell _ _=W at*
 have q:=De f.out
 go_wp2_with fail
 refine(U.out W (Rd.up a3.out i.out)).mono ?_;rintro e w4 ⟨v1,rfl,v,g⟩;obtain⟨o,n,rfl,-,-⟩:=Rd.isSlice (Rd.own v);have C:=Aa (Al g f.out);have b1:=Aa (Al g d.out);have a8:=Aa (A9 g i.out);have A:=Aa (EY v i.out.size);have u:=Aa (Cd u.out g);clear q v g f d i U;have q:=De C.out;have E:=Ah C.out 4
 go_upto_region 3 with(fail)
 have y:Qg (w4.setCell ⟨b,4,none⟩ (.slice o M n)) b #[.string T,.slice l N j,Qi (R:Nat),Qi (c:Nat),.slice o M n,.slice F 1 D,Qi (k:Nat)] 39:=Ak C.out 4 (.slice o M n);have m:=(Ab.refl b w4).set 4 (.slice o M n);have f:=Aa y;have d:=Aa (m.other b1.out Q0)
 have i:=Aa (Ce a8.out (show w.heap.size<=b by omega) 4 (.slice o M n))
 have u:=Aa (F9 u.out m C.out Q5)
 have A:=Aa (F9 A.out m C.out Q5)
 clear y m C b1 a8 q E;generalize w4.setCell _ _=W at*
 have q:=Df f.out
 go_wp2_with fail
 refine(a2.out W (Rd.up b7.out i.out)).mono ?_;rintro e w6 ⟨v1,rfl,v,g⟩;obtain⟨s,p,rfl,-,-⟩:=Rd.isSlice (Rd.own v);have z:=Aa (Al g f.out);have b2:=Aa (Al g d.out);have a9:=Aa (A9 g i.out);have a0:=Aa (EY v i.out.size);have u:=Aa (Cd u.out g);have A:=Aa (Cd A.out g);clear q v g f d i a2;have q:=Df z.out;have E:=Ah z.out 5
 go_upto_region 4 with(fail)
 have y:Qg (w6.setCell ⟨b,5,none⟩ (.slice s 1 p)) b #[.string T,.slice l N j,Qi (R:Nat),Qi (c:Nat),.slice o M n,.slice s 1 p,Qi (k:Nat)] 39:=Ak z.out 5 (.slice s 1 p);have m:=(Ab.refl b w6).set 5 (.slice s 1 p);have f:=Aa y;have d:=Aa (m.other b2.out Q0)
 have i:=Aa (Ce a9.out (show w.heap.size<=b by omega) 5 (.slice s 1 p))
 have u:=Aa (F9 u.out m z.out Q5)
 have A:=Aa (F9 A.out m z.out Q5)
 have a0:=Aa (F9 a0.out m z.out Q5)
 clear y m z b2 a9 q E;generalize w6.setCell _ _=W at*
 have d0:=A8 f.out;have q:=AA f.out;have d2:=Bk f.out;have d3:=CY f.out;have d4:=De f.out;have d5:=Df f.out;have d6:=ES f.out;have z0:=A8 d.out;have g0:=Ah d.out 0;have z1:=AA d.out;have g1:=Ah d.out 1;have z2:=Bk d.out;have g2:=Ah d.out 2;have z3:=CY d.out;have g3:=Ah d.out 3;have z4:=De d.out;have g4:=Ah d.out 4;have z5:=Df d.out;have g5:=Ah d.out 5;have z6:=ES d.out;have g6:=Ah d.out 6
 go_wp2_with fail
 have b8:Hid (Qg (((((((W.setCell ⟨b+1,0,none⟩ (.string T)).setCell ⟨b+1,1,none⟩ (.slice l N j)).setCell ⟨b+1,2,none⟩ (Qi (R:Nat))).setCell ⟨b+1,3,none⟩ (Qi (c:Nat))).setCell ⟨b+1,4,none⟩ (.slice o M n)).setCell ⟨b+1,5,none⟩ (.slice s 1 p)).setCell ⟨b+1,6,none⟩ (Qi (k:Nat))) (b+1) #[.string T,.slice l N j,Qi (R:Nat),Qi (c:Nat),.slice o M n,.slice s 1 p,Qi (k:Nat)] 39):=Ak (Ak (Ak (Ak (Ak (Ak (Ak d.out 0 (.string T)) 1 (.slice l N j)) 2 (Qi (R:Nat))) 3 (Qi (c:Nat))) 4 (.slice o M n)) 5 (.slice s 1 p)) 6 (Qi (k:Nat));have I:Hid (Ab (b+1) W (((((((W.setCell ⟨b+1,0,none⟩ (.string T)).setCell ⟨b+1,1,none⟩ (.slice l N j)).setCell ⟨b+1,2,none⟩ (Qi (R:Nat))).setCell ⟨b+1,3,none⟩ (Qi (c:Nat))).setCell ⟨b+1,4,none⟩ (.slice o M n)).setCell ⟨b+1,5,none⟩ (.slice s 1 p)).setCell ⟨b+1,6,none⟩ (Qi (k:Nat)))):=(((((((Ab.refl (b+1) W).set 0 (.string T)).set 1 (.slice l N j)).set 2 (Qi (R:Nat))).set 3 (Qi (c:Nat))).set 4 (.slice o M n)).set 5 (.slice s 1 p)).set 6 (Qi (k:Nat));generalize((((((W.setCell ⟨b+1,0,none⟩ (.string T)).setCell ⟨b+1,1,none⟩ (.slice l N j)).setCell ⟨b+1,2,none⟩ (Qi (R:Nat))).setCell ⟨b+1,3,none⟩ (Qi (c:Nat))).setCell ⟨b+1,4,none⟩ (.slice o M n)).setCell ⟨b+1,5,none⟩ (.slice s 1 p)).setCell ⟨b+1,6,none⟩ (Qi (k:Nat))=c2 at*
 refine BV (L7 rfl _ _ _ ⟨b+1,0,none⟩ _ rfl (O9 _ _ _ _ _ _ _ _ _ b8.out)) rfl ⟨.slice l N j,.slice o M n,.slice s 1 p,rfl,?_,?_,?_,?_⟩
 ·have h:=F9 u.out I.out d.out Q5
  exact B ▸ h
 ·have h:=F9 A.out I.out d.out Q5
  exact B ▸ h
 ·have h:=F9 a0.out I.out d.out Q5
  exact B ▸ h
 ·have h:=I.out.bel i.out (show w.heap.size<=b+1 by omega) (Af _)
  exact B ▸ h
structure Ca(w:World)(iv:Value)(R c:Nat)(hv rv:Value)(dc:Nat)(ps:List Ai)(H:List HE)(r:BF):Prop where
 iv:Au w iv ps
 ix:Bz ps
 hh:Rd w w.heap.size 3 hv H.length (BB H)
 hR:1<=R/\R<=2
 hc:c<=1099511627776
 ok:A7 R c H
 held:Kx ps H
 rv:Rd w w.heap.size 7 rv 1 (DH r)
 rok:Ph ps r
 dec:dc<=1099511627776
theorem Ca.up{y z:Value}{b:List Ai}{H:List HE}{r:BF}(h:Ca w x n m y z k b H r)(a:Qb w v):Ca v x n m y z k b H r :=
 ⟨Au.up h.iv a,h.ix,Rd.up h.hh a,h.hR,h.hc,h.ok,h.held,Rd.up h.rv a,h.rok,h.dec⟩
theorem zka(w:World)(a:List UInt8)(g:Value)(R c:Nat)(f i:Value)(d:Nat)(l:List Ai)(H:List HE)(r:BF)(k:Ca w g R c f i d l H r) :
 Qk 106 #[Fl a g R c f i d,Qi 0] w λe D=>e=.returned (Qi 0)/\Qb w D:=by
 have m:=Ay (Ag w.heap.size w) (.cells #[.string ⟨a.toArray⟩,g,Qi (R:Nat),Qi (c:Nat),f,i,Qi (d:Nat)] 39);have n:=Aa (λW (h:Ca W g R c f i d l H r)=>zqP W a g R c f i d l h.iv h.ix H h.hh h.hR h.hc h.ok h.held r h.rv h.rok h.dec);have p:=Aa (k.up m);obtain⟨C,t,rfl,-,-⟩:=Rd.isSlice k.rv;obtain⟨B,s⟩:=Qe w.heap.size;have b:=Aa (Am w (.cells #[.string ⟨a.toArray⟩,g,Qi (R:Nat),Qi (c:Nat),f,.slice C 1 t,Qi (d:Nat)] 39) B s.symm);have o:=Aa m;clear k m;unfold Fl at*
 go_enter Tryz.func106,Tryz.ntmps106
 go_upto_region 1 with(fail)
 generalize w.alloc _=W at*
 have u:=A8 b.out;have v:=AA b.out;have x:=Bk b.out;have y:=CY b.out;have z:=De b.out;have q:=Df b.out;have A:=ES b.out
 go_wp2_with fail
 refine(n.out W p.out).mono ?_;rintro e G ⟨rfl,j⟩;have F:=Aa (Al j b.out);have E:=Aa (A9 j o.out);clear j u v x y z q A n p b o;have q:=Df F.out
 go_wp2_with fail
 try dsimp only[Exit.noGoto]
 go_ret
 have h:=E.out;exact⟨rfl,s ▸ h⟩
structure Dt(B db rb:Nat)(T:ByteArray)(iv:Value)(R c:Nat)(hv:Value)(cr dc:Nat)(ps:List Ai)(H:List HE)(r:BF)(more:List Value)(W:World):Prop where
 dk:Qg W db #[.string T,iv,Qi (R:Nat),Qi (c:Nat),hv,Qs rb 0 1 cr,Qi (dc:Nat)] 39
 rd:Qg W rb (DH r++more).toArray 185
 iv:W.ownsRow B 56 5 iv ps.length (DR 0 ps)
 hv:W.ownsRow B 271 3 hv H.length (BB H)
def GJ(a:Nat):Value:=.agg #[Qp a 0,Qi 0]
theorem OO(w:World)(a g:Nat)(T:ByteArray)(o:Value)(R c:Nat)(n:Value)(l m:Nat)(f:Qg w a #[.string T,o,Qi (R:Nat),Qi (c:Nat),n,Qs g 0 1 l,Qi (m:Nat)] 39) :
 Qk 220 #[GJ a] w λe q=>e=.returned (Qp g 0)/\Qb w q:=by
 unfold GJ;have b:=Ay (Ag w.heap.size w) (.cells #[Qp a 0,Qi 0] 196);have k:=Aa (Al b f);have j:=Aa b;obtain⟨p,i⟩:=Qe w.heap.size;have d:=Aa (Am w (.cells #[Qp a 0,Qi 0] 196) p i.symm);clear f b
 go_enter Tryz.func220,Tryz.ntmps220
 go_upto_region 1 with(fail)
 generalize w.alloc _=W at*
 have t:=Df k.out;have r:=A8 d.out;have s:=AA d.out
 go_quiet (fail)
 go_wp2_with fail
 go_ret
 have h:=EW j.out nq;exact⟨Q6,i ▸ h⟩
