import Derived.Test.YtoejfkeofbdalaaGreatDoorM20
import Derived.Test.YtoejfkeofbdalaaGreatDoorM10
import Derived.Laws.EntriesVeiled
import Derived.Sort.QuietIn
set_option linter.all false
set_option maxRecDepth 100000
set_option maxHeartbeats 8000000
namespace Go.Proofs.YtoejfkeofbdalaaGreatDoor
open Go.RowKit
variable {a b m:Nat} {f:List Nat} {v w:World}
def AQ(w:World)(b:Nat)(U:List Nat):Prop:=∃a,Qg w b a 3/\a.toList=C4 (ints U)
theorem AQ.cell(h:AQ w b f)(x p:Nat)(d:f[x]?=some p):Qc w b x (Qi (p:Int)):=by
 obtain⟨e,a,c⟩:=h;rw[Ae a,<-Lj,c,getElem?_intCells];simp[ints,d]
theorem AQ.frozen(h:AQ w b f)(x:Nat):w.frozen? ⟨b,x,none⟩=false:=by
 obtain⟨c,a,d⟩:=h;exact Ah a x
theorem AQ.lt(h:AQ w b f):b<w.heap.size:=by
 obtain⟨c,a,d⟩:=h;exact Aj a
theorem AQ.same{w':World}(h:AQ w b f)(e:w'.heap[b]?=w.heap[b]?):AQ w' b f:=by
 obtain⟨a,c,d⟩:=h;exact⟨a,e.trans c,d⟩
theorem AQ.set(h:AQ w b f)(x p:Nat):AQ (w.setCell ⟨b,x,none⟩ (Qi (p:Int))) b (f.set x p):=by
 obtain⟨d,a,c⟩:=h;refine⟨_,Ak a x _,?_⟩;have:C4 (ints (f.set x p))=(C4 (ints f)).set x (Qi (p:Int)):=by simp[C4,ints,PI]
 rw[this,<-c];simp
theorem AQ.kept(h:AQ w m f)(g:AF b w v)(e:m≠b):AQ v m f:=by
 obtain⟨a,c,d⟩:=h;exact⟨a,g.other m a _ Q5 e c,d⟩
theorem AQ.ints(h:AQ w b f)(n c:Nat)(j:n<=c)(g:c<=maxLen)(k:n<=f.length):Ac w w.heap.size (Qs b 0 n c) (Go.Proofs.YtoejfkeofbdalaaGreatDoor.ints (f.take n)):=by
 have d:(Go.Proofs.YtoejfkeofbdalaaGreatDoor.ints (f.take n)).length=n:=by rw[Bj,BO];omega
 have e:=h.lt;refine⟨by rw[I5,d];omega,_,c,by rw[d],by rw[d];exact j,g,λ_=>⟨b,0,rfl,e,λi u a=>?_⟩⟩
 rw[getElem?_intCells] at a;simp only[Go.Proofs.YtoejfkeofbdalaaGreatDoor.ints,EA,Lp] at a;split at a
 ·rename_i l
  cases hx:f[i]? with
  |none=>rw[hx] at a;simp at a
  | some p =>
    rw[hx] at a;rw[DC,h.cell i p hx];simpa using a
 ·simp at a
theorem Eo.numset{h:List NP}(k:Eo w b h)(j:AQ w m f)(l:m≠b)(i:Nat)(u:Value):Eo (w.setCell ⟨m,i,none⟩ u) b h:=by
 obtain⟨v,d,c⟩:=k.ex;obtain⟨o,g,_⟩:=j;refine⟨v,(Bg _ _ _ _ l.symm).trans d,Oa c (grow w m i u) (.inr λe=>?_)⟩;obtain⟨p,a⟩:=Gr c e;rw[g] at a;injection a with a
 injection a with _ a
 revert a
 decide
where
 grow (w:World) (b i:Nat) (u:Value):w.grownBy (w.setCell ⟨b,i,none⟩ u) (some b) :=
  ⟨rfl,rfl,rfl,by simp[World.setCell],λk _ hk=>Bg _ _ _ _ (λe=>hk (by rw[e]))⟩
theorem Eo.drew{h:List NP}(d:Eo w a h):Eo w.drew a h:=by
 obtain⟨v,b,c⟩:=d.ex;exact⟨v,b,c.below (Ag _ _).drew⟩
theorem Eo.alloc{h:List NP}(d:Eo w a h)(o:Obj):Eo (w.alloc o) a h:=by
 obtain⟨v,b,c⟩:=d.ex;exact⟨v,Bb o b,c.alloc o⟩
theorem AF.past(h:AF a w v)(j:a<w.heap.size)(g:w.heap.size<=b)(i:Nat)(u:Value):AF a w (v.setCell ⟨b,i,none⟩ u) :=
 ⟨h.bel.setCell (p:=⟨b,i,none⟩) Q4 u,by simpa [World.setCell] using h.size,λk d t e f c=>by
   have:k<w.heap.size:=Aj c;rw[Bg _ _ _ _ (show k≠b by omega)]
   exact h.other k d t e f c⟩
theorem AF.boxed(h:AF a w v)(b:a<w.heap.size)(o:Obj):AF a w (v.alloc o) :=
 h.trans (AF.below (by have:=h.size;omega) ((Ag _ _).alloc (Af _) o))
theorem AQ.alloc(h:AQ w b f)(o:Obj):AQ (w.alloc o) b f:=h.same (GV _ _ _ h.lt)
theorem AQ.ex(h:AQ w b f)(x:Nat)(a:x<f.length):∃p:Nat,Qc w b x (Qi (p:Int)):=⟨f[x],h.cell x f[x] (by simp[a])⟩
def Bd(w:World)(v:Value):Prop:=∀g o n c,v=Qs g o n c->∃a,Qg w g a 3
theorem Bd.below{x:Value}(h:Bd w x)(d:Qb w v):Bd v x:=λg o n c e=>by
 obtain⟨b,a⟩:=h g o n c e;exact⟨b,(d.block g (Aj a)).trans a⟩
set_option maxHeartbeats 12800000 in
theorem zvV(w:World)(v:Value)(d:List Nat)(o:Ac w w.heap.size v (ints d))(h2:2<=d.length)(hl:d.length<=258)(hw:∀x∈d,1<=x)(hs:d.sum<=2305843009213693952) :
 Qk 79 #[v] w λe w'=>∃q a7,e=.returned (.slice q d.length a7)/\(Ac w' w'.heap.size (.slice q d.length a7) (ints (Dl d))/\Bd w' (.slice q d.length a7))/\Qb w w':=by
 obtain⟨p0,ca,rfl,n1,p8⟩:=o.shape;have i0:=Bj d;obtain⟨N,X⟩:=Qe d.length;rw[i0,X] at o n1 |-;obtain⟨c,J⟩:=Qe w.heap.size;obtain⟨e4,b5⟩:=Qe (w.alloc (.cells #[.slice none 0 0,.nilFunc] 249));have O:Qg e4 c #[.slice none 0 0,.nilFunc] 249:=by rw[<-b5];exact Am _ _ _ J.symm
 have a0:=(Ae O 0).trans rfl;have a1:=(Ae O 1).trans rfl;have b0:=Ah O 0;have b1:=Ah O 1;obtain⟨G,b4⟩:=Qe ((e4.setCell ⟨c,0,none⟩ (.slice none 0 0)).setCell ⟨c,1,none⟩ (.func (.func 139) #[] #[]))
 have b3:Qb w G:=by
  rw[<-b4,<-b5];exact(((Ag _ _).alloc (Af _) _).setCell (p:=⟨c,0,none⟩) (by simp[J]) _).setCell (p:=⟨c,1,none⟩) (by simp[J]) _
 have g5:Eo G c []:=⟨.slice none 0 0,by rw[<-b4];have:=Ak (Ak O 0 (.slice none 0 0)) 1 (.func (.func 139) #[] #[]);simpa using this,Aw.nil _ _⟩
 have r8:G.heap.size=c+1:=by rw[<-b4,<-b5,<-J];simp[World.setCell]
 have d9:=o.below b3 (Af _);rw[J] at d9 b3;obtain⟨cz,Q,a3⟩:=O7 (2*N-1) Q0
 have m7:2<=N:=Q0
 have s8:N<=258:=Q0
 have j7:=Aa d9;have k2:=Aa b3;have f5:=Aa g5;have F:=Aa X;have j8:=Aa hw;have e9:=Aa Q;have f2:=Aa a3;have l3:=Aa hs;clear o X i0 d9 b3 g5 hw Q a3 hs
 go_enter Tryz.func79,Tryz.ntmps79
 go_wp2_with fail
 have l6:=Aa J;clear b4 J b5 O a0 a1 b0 b1
 go_loopw [15] (λI wr=>∃(k:Nat)(h:List NP),k<=N/\I=Qi k/\h.length=k/\Hid (Ci h)/\Hid (h.Perm ((DF d).take k))/\Hid (Eo wr c h)/\Hid (AF c G wr)) (λI _=>N+1-(intOf I).toNat)
 case atStart=>exact⟨0,[],BI _,rfl,rfl,λp1 _ hj=>by simp at hj,KL _,f5.out,AF.refl _ _⟩
 case round =>
  clear f5;obtain⟨k,h,hk,rfl,h6,E,u,y,j⟩:=hrel
  by_cases d1:k<N
  ·obtain⟨j2,j4,rfl,p9,hc⟩:=(j7.out.below j.out.bel (Af _)).at k (by rw[Bj,F.out];exact d1)
   obtain⟨x,Y⟩:∃x,d[k]?=some x:=⟨_,Az (by rw[F.out];exact d1)⟩
   rw[show(ints d)[k]?.getD 0=(x:Int) by simp[ints,Y]] at hc
   have e2:Hid (Qk 140 #[Qp c 0,.agg #[Qi (x:Int),Qi (k:Int)]] wr λe w'=>e=.returned (.tuple #[])/\∃i,Ci i/\i.Perm ((x,k)::h)/\Eo w' c i/\AF c wr w'):=zqn wr c h (x,k) y.out E.out Q0
   have j6:=Aa (zoO d k x Y);clear Y
   go_wp2_with fail
   refine e2.out.mono ?_;rintro e w1 ⟨rfl,i,h1,d2,i2,h7⟩;have c3:=Aa h1;have a9:=Aa i2;have a2:=Aa (j.out.trans h7);have h9:i.length=k+1:=by have:=d2.length_eq;simp at this;omega
   have a8:Hid (i.Perm ((DF d).take (k+1))):=by
    show List.Perm _ _
    rw[j6.out];exact d2.trans ((u.out.cons _).trans (MW (l₁:=[(x,k)])))
   clear h1 d2 i2 h7 e2 hc
   go_wp2_with fail
   go_roundw
   case rel=>exact⟨k+1,i,Q0,by go_num,h9,c3,a8,a9,a2⟩
   case measure=>simp[intOf];omega
  ·obtain rfl:k=N:=Q0
   have hp:=u.out;rw[BR (by rw[PQ,F.out];exact Af _)] at hp
   have R:=hp.trans (LC (DF d)).symm;have a8:=Aa R;have q8:IntKind.i64.wrap (2*(k:Int))=2*(k:Int):=AU _ Q0
   obtain⟨M,c2⟩:=Qe (2*k-1);have q9:IntKind.i64.wrap (2*(k:Int)-1)=(M:Int):=by rw[AU _ Q0];omega
   have a3:=f2.out;have Q:=e9.out;rw[c2] at a3 Q;clear hp R u f2 e9
   go_wp2_with fail
   have g4:AQ (wr.alloc (.cells cz 3)) wr.heap.size (List.replicate M 0):=⟨cz,Am _ _ _ rfl,by rw[Q];congr 1;simp[ints]⟩
   have c7:Qb wr (wr.alloc (.cells cz 3)):=(Ag _ _).alloc (Af _) _
   have d7:c<wr.heap.size:=by
    obtain⟨v,o,_⟩:=y.out.ex;exact Aj o
   have f6:=Aa (y.out.up c7);have Z:=Aa (j.out.trans (AF.below (KI d7) c7));have l:=Aa g4
   have g6:Ld k (DB d) (List.replicate M 0) k (Gu (DF d)) k:=by
    have:=Ld.start j8.out (List.replicate M 0) (by rw[Jg,F.out];omega)
    rw[F.out] at this;exact this
   have g0:=Aa g6
   have f9:Hid (((Gu (DF d)).map (·.1)).sum<=2305843009213693952):=by
    show _<=_
    rw[Uq (λj5:NP=>j5.1) (LC (DF d)),zrv];exact l3.out
   obtain⟨g,i5⟩:=Qe wr.heap.size;rw[i5] at l d7 |-;generalize wr.alloc (.cells cz 3)=p2 at*
   have p5:=d7;clear g4 c7 g6 y j i5 Q a3
   go_loopw [7] (λnv wr=>∃(n:Nat)(h s:List NP)(U:List Nat)(f:Nat),nv=Qi n/\k<=n/\n<=M/\h.length+n=2*k/\U.length=M/\Hid (Ci h)/\Hid (h.Perm s)/\Hid (Ld k (DB d) U f s n)/\Hid ((s.map (·.1)).sum<=2305843009213693952)/\Hid (Eo wr c h)/\Hid (AQ wr g U)/\Hid (AF c G wr)) (λnv _=>M+1-(intOf nv).toNat)
   case atStart=>exact⟨k,h,Gu (DF d),List.replicate M 0,k,rfl,Af _,Q0,Q0,Q6,E,a8,g0,f9,f6,l,Z⟩
   case round =>
    clear E a8 g0 f9 f6 l Z h6;obtain⟨n,h,s,U,f,rfl,q3,q4,h6,m8,E,u,T,e3,y,l,j⟩:=hrel
    by_cases d1:n<M
    ·have S:s.length=h.length:=u.out.length_eq.symm
     obtain⟨a,b,r,rfl⟩:∃a b r,s=a::b::r:=by
      match s,S with
      | [],S=>simp at S;omega
      | [z],S=>simp at S;omega
      |a::b::r,_=>exact⟨a,b,r,rfl⟩
     obtain⟨f,rfl⟩:∃j9,f=j9+1:=⟨f-1,by have:=T.out.fuel;simp at this;omega⟩
     have b9:=T.out.row;obtain⟨r0,g9⟩:=YL (a:=a) b9.sort u.out b9.nums Q0 E.out.least
     have ha:gP h 0=a:=by injection g9 with e _;exact e.symm
     have a6:=T.out.step
     have e6:Hid (Qk 141 #[Qp c 0] wr λe w'=>e=.returned (.agg #[Qi (a.1:Int),Qi (a.2:Int)])/\∃i,Ci i/\(a::i).Perm h/\Eo w' c i/\AF c wr w'):=by
      have:=zvO wr c h y.out E.out Q0 Q0
      rw[ha] at this;exact this
     have e1:=e3.out;have q6:a.1+b.1<=2305843009213693952:=by simp only[Dz,IL] at e1;omega
     have i4:((Eg (a.1+b.1,n) r).map (·.1)).sum<=2305843009213693952:=by
      rw[zwq];simp only[Dz,IL] at e1 |-;omega
     have l4:=Aa a6.1;have m9:=a6.2.1;have n0:=a6.2.2.1;have j1:=a6.2.2.2;have l2:=Aa i4;have i9:=Aa b9;have r3:IntKind.i64.wrap ((a.1:Int)+(b.1:Int))=(a.1:Int)+(b.1:Int):=AU _ Q0
     have r5:IntKind.i64.wrap ((n:Int)+1)=(n:Int)+1:=AU _ Q0
     clear b9 a6 e1 i4 g9 ha S
     go_wp2_with fail
     refine e6.out.mono ?_;rintro e w1 ⟨rfl,H,c9,d3,a5,h8⟩;have q0:H.length+1=h.length:=by have:=d3.length_eq;simpa using this
     have a4:H.Perm (b::r):=(d3.trans u.out).cons_inv;have d8:QE (b::r)/\Be (b::r):=⟨(IM.1 i9.out.sort).2,(Be.cons.1 i9.out.nums).2⟩;obtain⟨r1,h0⟩:=YL (a:=a) d8.1 a4 d8.2 Q0 c9.least
     have hb:gP H 0=b:=by injection h0 with e _;exact e.symm
     have e7:Hid (Qk 141 #[Qp c 0] w1 λe w'=>e=.returned (.agg #[Qi (b.1:Int),Qi (b.2:Int)])/\∃i,Ci i/\(b::i).Perm H/\Eo w' c i/\AF c w1 w'):=by
      have:=zvO w1 c H a5 c9 Q0 Q0
      rw[hb] at this;exact this
     have f4:=Aa a4;have c4:=Aa h8;clear c9 d3 a5 h8 a4 d8 h0 hb e6
     go_wp2_with fail
     refine e7.out.mono ?_;rintro e C ⟨rfl,P,h4,R,d5,b6⟩;have h9:P.length+1=H.length:=by have:=R.length_eq;simpa using this
     have l0:Hid (P.Perm r):=(R.trans f4.out).cons_inv;have c3:=Aa h4;have a9:=Aa d5;have a2:=Aa ((j.out.trans c4.out).trans b6);have c5:=Aa ((l.out.kept c4.out Q0).kept b6 Q0)
     clear h4 R d5 b6 e7 f4 y l c4
     go_wp2_with fail
     have p4:c+1<=C.heap.size:=by have:=a2.out.size;omega
     have o9:=c5.out.lt;have f7:=Aa ((a9.out.alloc (.cells #[Qi (a.1:Int),Qi (a.2:Int)] 245)).alloc (.cells #[Qi (b.1:Int),Qi (b.2:Int)] 245));have D:=Aa ((c5.out.alloc (.cells #[Qi (a.1:Int),Qi (a.2:Int)] 245)).alloc (.cells #[Qi (b.1:Int),Qi (b.2:Int)] 245));have f0:=Aa ((a2.out.boxed Q0 (.cells #[Qi (a.1:Int),Qi (a.2:Int)] 245)).boxed Q0 (.cells #[Qi (b.1:Int),Qi (b.2:Int)] 245))
     have b7:Qg ((C.alloc (.cells #[Qi (a.1:Int),Qi (a.2:Int)] 245)).alloc (.cells #[Qi (b.1:Int),Qi (b.2:Int)] 245)) C.heap.size #[Qi (a.1:Int),Qi (a.2:Int)] 245:=Bb _ (Am _ _ _ rfl);have b8:Qg ((C.alloc (.cells #[Qi (a.1:Int),Qi (a.2:Int)] 245)).alloc (.cells #[Qi (b.1:Int),Qi (b.2:Int)] 245)) (C.heap.size+1) #[Qi (b.1:Int),Qi (b.2:Int)] 245:=Am _ _ _ Q6
     generalize(C.alloc (.cells #[Qi (a.1:Int),Qi (a.2:Int)] 245)).alloc (.cells #[Qi (b.1:Int),Qi (b.2:Int)] 245)=A at*
     clear a9 c5 a2;generalize C.heap.size=B at*
     clear C;have o2:=(Ae b7 0).trans rfl;have o3:=(Ae b7 1).trans rfl;have o4:=(Ae b8 0).trans rfl;have o5:=(Ae b8 1).trans rfl;have p7:b.2<M:=Q0
     have p6:a.2<M:=Q0
     obtain⟨pa,n9⟩:=D.out.ex a.2 m9;obtain⟨pb,a4⟩:=D.out.ex b.2 n0;have l8:=D.out.frozen a.2;have l9:=D.out.frozen b.2;have m1:¬ g=B:=Q0
     have m2:¬ g=B+1:=Q0
     have m3:¬ B=g:=Q0
     have m4:¬ B+1=g:=Q0
     have m5:¬ a.2=b.2:=j1;have m6:¬ b.2=a.2:=λe=>j1 e.symm;have g1:=Aa b7;have g2:=Aa b8;clear b7 b8
     go_wp2_with fail
     go_region
     have c8:g≠c:=Q0
     have b2:Hid (Eo ((A.setCell ⟨g,a.2,none⟩ (Qi (n:Int))).setCell ⟨g,b.2,none⟩ (Qi (n:Int))).drew c P):=((f7.out.numset D.out c8 _ _).numset (D.out.set a.2 n) c8 _ _).drew;have f3:Hid (AQ ((A.setCell ⟨g,a.2,none⟩ (Qi (n:Int))).setCell ⟨g,b.2,none⟩ (Qi (n:Int))).drew g ((U.set a.2 n).set b.2 n)):=((D.out.set a.2 n).set b.2 n).same rfl
     have f1:Hid (AF c G ((A.setCell ⟨g,a.2,none⟩ (Qi (n:Int))).setCell ⟨g,b.2,none⟩ (Qi (n:Int))).drew):=by
      have k4:=(f0.out.past (b:=g) Q0 Q0 a.2 (Qi (n:Int))).past (b:=g) Q0 Q0 b.2 (Qi (n:Int))
      exact⟨k4.bel.drew,k4.size,k4.other⟩
     have i6:Qg (((A.setCell ⟨g,a.2,none⟩ (Qi (n:Int))).setCell ⟨g,b.2,none⟩ (Qi (n:Int))).drew) B #[Qi (a.1:Int),Qi (a.2:Int)] 245:=by
      show((A.setCell _ _).setCell _ _).heap[B]?=_
      rw[Bg _ _ _ _ m3,Bg _ _ _ _ m3];exact g1.out
     have i7:Qg (((A.setCell ⟨g,a.2,none⟩ (Qi (n:Int))).setCell ⟨g,b.2,none⟩ (Qi (n:Int))).drew) (B+1) #[Qi (b.1:Int),Qi (b.2:Int)] 245:=by
      show((A.setCell _ _).setCell _ _).heap[B+1]?=_
      rw[Bg _ _ _ _ m4,Bg _ _ _ _ m4];exact g2.out
     generalize((A.setCell ⟨g,a.2,none⟩ (Qi (n:Int))).setCell ⟨g,b.2,none⟩ (Qi (n:Int))).drew=c1 at*
     clear f7 D f0 g1 g2 o2 o3 o4 o5 n9 a4 l8 l9;have s1:=(Ae i6 0).trans rfl;have s2:=(Ae i7 0).trans rfl;have e8:Hid (Qk 140 #[Qp c 0,.agg #[Qi ((a.1:Int)+(b.1:Int)),Qi (n:Int)]] c1 λe w'=>e=.returned (.tuple #[])/\∃i,Ci i/\i.Perm ((a.1+b.1,n)::P)/\Eo w' c i/\AF c c1 w'):=zqn c1 c P (a.1+b.1,n) b2.out c3.out Q0
     clear i6 i7 m1 m2 m3 m4 m5 m6
     go_wp2_with fail
     refine e8.out.mono ?_;rintro e w5 ⟨rfl,h3,h5,d4,d6,d0⟩;have q1:h3.length=P.length+1:=by have:=d4.length_eq;simpa using this
     have k9:Hid (h3.Perm (Eg (a.1+b.1,n) r)):=(d4.trans (l0.out.cons _)).trans (OD _ _).symm;have k6:=Aa h5;have l1:=Aa d6;have k8:=Aa (f3.out.kept d0 c8);have k7:=Aa (f1.out.trans d0);have n4:h3.length+(n+1)=2*k:=Q0
     have o8:((U.set a.2 n).set b.2 n).length=M:=by simp[m8]
     have n7:k<=n+1:=Q0
     have n8:n+1<=M:=Q0
     clear h5 d4 d6 d0 e8 b2 f3 f1
     go_wp2_with fail
     go_roundw
     case rel=>exact⟨n+1,h3,Eg (a.1+b.1,n) r,(U.set a.2 n).set b.2 n,f,by go_num,n7,n8,n4,o8,k6,k9,l4,l2,l1,k8,k7⟩
     case measure=>simp[intOf];omega
    ·obtain rfl:n=M:=Q0
     have c0:=T.out.done c2.symm m7;obtain⟨V,g7,n6⟩:=O7 n Q0
     obtain⟨t,n5⟩:∃t,n=t+1:=⟨n-1,Q0⟩
     have i1:2*k-2=t:=Q0
     rw[i1] at c0;have k3:=Aa c0.1;have k5:=Aa c0.2;have r2:IntKind.i64.wrap ((n:Int)-2)=(t:Int)-1:=by rw[AU _ Q0];omega
     have s6:n<=t+1:=Q0
     have s7:t+1<=n:=Q0
     have s3:2*k<=n+1:=Q0
     have s4:n+1<=2*k:=Q0
     clear c0 n5 i1 c2 E u T e3 y
     go_wp2_with fail
     have f8:Hid (AQ (wr.alloc (.cells V 3)) wr.heap.size (List.replicate n 0)):=⟨V,Am _ _ _ rfl,by rw[g7];congr 1;simp[ints]⟩
     have i8:=Aa (l.out.alloc (.cells V 3));have Z:=Aa (j.out.boxed Q0 (.cells V 3))
     have o9:=l.out.lt;have q7:=j.out.size;generalize wr.alloc (.cells V 3)=p3 at*
     generalize wr.heap.size=db at*
     clear l j g7 n6 wr
     go_loopw [11] (λI wr=>∃(z:Int)(m:Nat)(K:List Nat),I=Qi z/\z=(m:Int)-1/\m<=t/\K.length=n/\Hid (∀x,m<=x->x<n->K[x]?=some (DB d x)/\DB d x+x<=n)/\Hid (AQ wr db K)/\Hid (AQ wr g U)/\Hid (AF c G wr)) (λI _=>(intOf I+1).toNat)
     case atStart =>
      refine⟨_,t,List.replicate n 0,rfl,rfl,Af _,Q6,λx H h2=>?_,f8,i8,Z⟩
      obtain rfl:x=t:=Q0
      rw[k3.out];refine⟨?_,Q0⟩
      rw[Ll,if_pos h2]
     case round =>
      clear f8 i8 Z;obtain⟨z,m,K,rfl,hz,hm,m0,c6,L,l,j⟩:=hrel
      by_cases s5:0<m
      ·obtain⟨m,rfl⟩:∃k1,m=k1+1:=⟨m-1,Q0⟩
       obtain rfl:z=(m:Int):=Q0
       obtain⟨q,a5,d5,d6,i3⟩:=k5.out m Q0
       obtain⟨g8,n3⟩:=c6.out q Q0 Q0
       have cu:=l.out.cell m q a5;have l7:=L.out.cell q _ g8;have g3:=L.out.ex m Q0
       obtain⟨cm,g3⟩:=g3;have fd:=L.out.frozen m;have b2:=Aa i3;have q5:q<n:=Q0
       have q2:m<n:=Q0
       obtain⟨v,o⟩:=Qe (DB d q);rw[o] at l7 n3;have l5:=Aa o;have r6:IntKind.i64.wrap ((v:Int)+1)=(v:Int)+1:=AU _ Q0
       have r4:IntKind.i64.wrap ((m:Int)-1)=(m:Int)-1:=AU _ Q0
       clear a5 i3 g8 o hz
       go_wp2_with fail
       have o0:db≠g:=Q0
       have e5:=L.out.set m (v+1);rw[show((v+1:Nat):Int)=(v:Int)+1 by omega] at e5
       have X:=l.out.same (w':=wr.setCell ⟨db,m,none⟩ (Qi ((v:Int)+1))) (Bg _ _ _ _ o0.symm);have k0:=j.out.past (b:=db) Q0 Q0 m (Qi ((v:Int)+1))
       refine⟨⟨(m:Int)-1,m,K.set m (v+1),rfl,rfl,Q0,by simp[m0],λx r7 o1=>?_,e5,X,k0⟩,by simp[intOf]⟩
       rcases Gb m x with Y|Y
       ·rw[Pv Q0]
        exact c6.out x Q0 o1
       ·obtain rfl:x=m:=Q0
        rw[Px Q0,b2.out,l5.out]
        exact⟨rfl,Q0⟩
      ·obtain rfl:m=0:=Q0
       have r9:z<0:=Q0
       have s0:¬ (0<=z):=Q0
       clear hz;have b6:k<=n:=Q0
       have j0:K.take k=Dl d:=by
        apply KF
        intro j3;rw[Lp];split
        ·rename_i hi
         rw[(c6.out j3 (BI _) Q0).1,O5 _ _ (by rw[F.out];exact hi)]
        ·rename_i hi
         symm;rw[EU];simp[Dl,F.out];omega
       have e0:=L.out.ints k k (Af _) (by simp[maxLen];omega) Q0
       rw[j0] at e0;have o7:=Aa e0
       have o6:Hid (Qb w wr):=by
        have:=k2.out.trans j.out.bel;rw[l6.out];exact this
       clear e0 j0
       go_wp2_with fail
       go_ret
       exact⟨_,_,rfl,⟨o7.out,λj2 j4 n a7 e=>by
        injection e with W
        injection W with W
        injection W with W
        subst W;obtain⟨cs,n2,_⟩:=L.out;exact⟨cs,n2⟩⟩,o6.out⟩
end Go.Proofs.YtoejfkeofbdalaaGreatDoor
namespace Go.Proofs.YtoejfkeofbdalaaGreatDoor
open Go.RowKit Go.Shelf
attribute [local go_sem] Oper.semAt_some
variable {w:World}
def Cs(n:Nat):Nat:=(n+9)/ 10
def Cv(m:List Int)(i:Nat):List Int:=(m.take (10*i+10)).drop (10*i)
theorem RC(m:List Int)(i:Nat):(Cv m i).length=min (10*i+10) m.length-10*i:=by simp[Cv]
abbrev Ch:=Nat × Value
def Pq(x:Ch):Array Value:=#[x.2]
def NS(m:List Int)(a:Nat)(x:Ch)(W:World):Prop:=x.1<Cs m.length/\Ac W W.heap.size x.2 (Cv m x.1)/\∃q,x.2=.slice q (Cv m x.1).length (Cv m x.1).length
theorem Ac.cut3{B n k:Nat}{A:Option Addr}{a:List Int}(f:Ac w B (.slice A n k) a)(l h:Nat)(v:l<h)(p:h<=n) :
 ∃q,Ac w B (.slice q (h-l) (h-l)) ((a.take h).drop l)/\∀W,(Instr.slice 67 (.slice A n k) (some (Qi (l:Int))) (some (Qi (h:Int))) (some (Qi (h:Int)))).run Tryz.prog W=.ok (.slice q (h-l) (h-l)) W:=by
 obtain⟨q,c,e,z,C⟩:=f.shape;injection e with g i j
 subst g i j;have d:=Rd.cut (l:=l) (h:=h) (show Rd w B 1 (.slice A a.length k) a.length (C4 a) from f) Q0 p
 have m:((C4 a).take (h*1)).drop (l*1)=C4 ((a.take h).drop l):=by simp[C4]
 have o:((a.take h).drop l).length=h-l:=by rw[D9,BO];omega
 rw[m] at d;obtain⟨r,u,F,b,x,y,s⟩:=d;unfold sliced at b;rw[if_neg (show ¬ k=l by omega)] at b
 injection b with t D E
 subst t;refine⟨A.map (·.add (l*1)),?_,λW=>?_⟩
 ·unfold Ac
  rw[o];exact⟨r,_,_,rfl,Af _,Q0,s⟩
 ·rw[run_slice_lhm W _ _ _ _ R9 _ _ _ _ _ _ Q0 Q0 Q0 Q0,RJ,TP]
  simp only[sliced,EM,KH];rw[if_neg (show ¬ h=l by omega)]
theorem Ac.keepC{b:Nat->Prop}{v:World}{a:Nat}{x:Value}{l:List Int}(h:Ac w a x l)(q:∀k,b k->a<=k)(t:Ao b w v):Ac v a x l:=by
 obtain⟨d,A,z,f,j,m,p⟩:=h
 exact⟨d,A,z,f,j,m,λu=>by
  obtain⟨g,o,e,s,r⟩:=p u;exact⟨g,o,e,s,λi c y=>t.cell (λB=>by have:=q g B;omega) (r i c y)⟩⟩
theorem zyI(m:List Int)(k i H:Nat)(b:10*k=i)(a:H=min (10*k+10) m.length):(m.take H).drop i=Cv m k:=by
 subst b a;unfold Cv;congr 1
 rcases Nat.le_total (10*k+10) m.length with h|h
 ·rw[Fs h]
 ·rw[PE h,Gp,BR h]
theorem Qv(n k:Nat):10*k<n↔k<Cs n:=by unfold Cs;omega
theorem zvo(w:World)(A:Option Addr)(n c:Nat) :
 Qk 122 #[.slice A n c,Qi 10] w λe a=>e=.returned (.func (.func 172) #[] #[.pointer (some ⟨w.heap.size,0,none⟩),.pointer (some ⟨w.heap.size+1,0,none⟩)])/\(w.alloc (.cells #[.slice A n c] 67)).alloc (.cells #[Qi 10] 3)=a:=by
 have Cw:=Cw
 go_enter Tryz.func122,Tryz.ntmps122
 go_wp2
 go_ret
 exact⟨rfl,rfl⟩
theorem zme:Enters Tryz.prog 172:=enters_of Tryz.func172 Q2 rfl
theorem zxe(n:Nat)(hn:3<=n)(a7 g j q:Nat)(m:List Int)(hm:m.length<=1000000)(a0:Nat->Prop)(J a9:List Ch->World->Prop)(v:Value)(W:World)(Q:Ac W q v m)(a3:Qc W g 0 v)(b2:Qc W j 0 (Qi 10))
 (b5:∀k,a0 k->q<=k/\k≠g/\k≠j) (c6:q<=W.heap.size)
 (f:∀a6 A a5,J a6 A->Qb A a5->J a6 a5)
 (b0:∀a x B,J a B->a.length<Cs m.length->NS m q x B->YieldAt Fence.wide (n-1) Tryz.prog a7 (Pq x) B λe c=>(e=.returned (.bool true)/\J (a++[x]) c/\Ao a0 B c/\B.heap.size<=c.heap.size)\/(e=.returned (.bool false)/\a9 (a++[x]) c))
 (h0:J [] W) :
 CallsIn Fence.wide n Tryz.prog 172 #[.func (.yield a7) #[] #[],.pointer (some ⟨g,0,none⟩),.pointer (some ⟨j,0,none⟩)] W λe c=>(∃v,e=.returned v)/\((∃xs,xs.map (·.1)=List.range (Cs m.length)/\J xs c)\/(∃a,True/\a9 a c)):=by
 obtain⟨A,ca,rfl,b9,c5⟩:=Q.shape;obtain⟨N,D⟩:=Qe m.length;rw[D] at Q a3 b9 hm;have y:=Aa D;have b7:=Aa Q;have Y:=Aa a3;have Z:=Aa b2;have w:=Aa b5;have a8:=Aa f;have T:=Aa b0;rw[D];rw[D] at T;clear Q a3 b2 b5 f b0 D;refine Mw Tryz.func172 rfl trivial ?_ rfl;simp only[Tryz.ntmps172,F6,Bt,D4,Nat.reduceAdd,Nat.reduceSub,GM,GL,GQ,GN,C6,Di];have c4:1<=n:=Q0
 gi_wp2_with fail
 gi_loopw [4] (λV wr=>∃(k i:Nat)(a:List Ch),Hid (10*k=i)/\Hid (k<=Cs N)/\i<=N+9/\V=Qi i/\a.map (·.1)=List.range k/\J a wr/\Ao a0 W wr/\W.heap.size<=wr.heap.size) (λV _=>N+20-(intOf V).toNat)
 case atStart=>exact⟨0,0,[],rfl,BI _,Q0,rfl,rfl,h0,Ao.refl _ _,Af _⟩
 case round =>
  obtain⟨k,i,a,O,b8,hi,rfl,b6,f,l,b3⟩:=hrel;have S:=Aa b6;have k1:=l.cell (b:=g) (λh=>(w.out g h).2.1 rfl) Y.out;have k2:=l.cell (b:=j) (λh=>(w.out j h).2.2 rfl) Z.out;clear h0 b6
  by_cases c7:i<N
  ·have G:=b7.out.keepC (λk h=>(w.out k h).1) l
   obtain⟨R,a2⟩:=Qe (N-i);obtain⟨v1,-,⟨q1,d1,e1⟩,-,X,-⟩:=G.cut i N Q0 (Af _)
   subst e1;have X:=X rfl;rw[a2] at X;have z:=O.out;have b1:Hid (k+1<=Cs N):=(Qv N k).1 Q0
   have b4:Hid (a.length<Cs N):=by
    have:=Co List.length S.out;rw[Da,Gn] at this
    show _<_
    rw[this];exact(Qv N k).1 Q0
   by_cases c9:i+10<=N
   ·have c1:10<=R:=Q0
    clear a2;obtain⟨d,p,P⟩:=G.cut3 i (i+10) Q0 Q0
    have F:(m.take (i+10)).drop i=Cv m k:=zyI m k i (i+10) z (by rw[y.out];omega)
    rw[F] at p;have u:=RC m k;rw[y.out,z] at u;obtain⟨E,C⟩:=Qe (i+10-i);rw[C] at p P;have K:NS m q (k,.slice d E E) wr:=⟨by rw[y.out];exact(Qv N k).1 Q0,p.mono Q0,d,by rw[u,show min (i+10) N-i=E by omega]⟩
    have o:=Aa K;rw[show((i+10:Nat):Int)=(i:Int)+10 from by omega] at P
    clear K F u G p z C
    gi_wp2_with fail
    gi_quiet (fail)
    have H:=a8.out a wr (wr.drewN nq) f (EW (Ag _ _) nq);have M:NS m q (k,.slice d E E) (wr.drewN nq):=⟨o.out.1,o.out.2.1.below (EW (Ag _ _) nq) (Af _),o.out.2.2⟩;obtain⟨fn,c2,c3,c0,s,r⟩:=T.out a (k,.slice d E E) (wr.drewN nq) H b4.out M;simp only[Pq] at s;clear H M o
    gi_wp2_with fail
    refine r.mono ?_;rintro e c (⟨rfl,a1,I,L⟩|⟨rfl,a4⟩)
    ·have t:=Aa ((l.below (EW (Ag _ _) nq)).trans I)
     have k1:=t.out.cell (b:=g) (λh=>(w.out g h).2.1 rfl) Y.out;have k2:=t.out.cell (b:=j) (λh=>(w.out j h).2.2 rfl) Z.out;have U:Hid (W.heap.size<=c.heap.size):=BU b3 L;clear r s I f l L
     gi_wp2_with fail
     go_roundw
     case rel=>exact⟨k+1,i+10,a++[(k,.slice d E E)],by show _=_;have:=O.out;omega,b1,Q0,by go_num,by rw[D3,S.out,Fh];rfl,a1,t.out,U.out⟩
     case measure=>simp[intOf];omega
    ·clear r s f l
     gi_wp2_with fail
     exact BV (Dw rfl _ _ _) rfl ⟨⟨_,rfl⟩,.inr ⟨_,trivial,a4⟩⟩
   ·have c1:R<10:=Q0
    have c8:IntKind.i64.wrap ((i:Int)+(R:Int))=(N:Int):=by rw[AU _ Q0];omega
    clear a2;obtain⟨d,p,P⟩:=G.cut3 i (N) Q0 Q0
    have F:(m.take (N)).drop i=Cv m k:=zyI m k i (N) z (by rw[y.out];omega)
    rw[F] at p;have u:=RC m k;rw[y.out,z] at u;obtain⟨E,C⟩:=Qe (N-i);rw[C] at p P;have K:NS m q (k,.slice d E E) wr:=⟨by rw[y.out];exact(Qv N k).1 Q0,p.mono Q0,d,by rw[u,show min (i+10) N-i=E by omega]⟩
    have o:=Aa K;clear K F u G p z C
    gi_wp2_with fail
    gi_quiet (fail)
    have H:=a8.out a wr (wr.drewN nq) f (EW (Ag _ _) nq);have M:NS m q (k,.slice d E E) (wr.drewN nq):=⟨o.out.1,o.out.2.1.below (EW (Ag _ _) nq) (Af _),o.out.2.2⟩;obtain⟨fn,c2,c3,c0,s,r⟩:=T.out a (k,.slice d E E) (wr.drewN nq) H b4.out M;simp only[Pq] at s;clear H M o
    gi_wp2_with fail
    refine r.mono ?_;rintro e c (⟨rfl,a1,I,L⟩|⟨rfl,a4⟩)
    ·have t:=Aa ((l.below (EW (Ag _ _) nq)).trans I)
     have k1:=t.out.cell (b:=g) (λh=>(w.out g h).2.1 rfl) Y.out;have k2:=t.out.cell (b:=j) (λh=>(w.out j h).2.2 rfl) Z.out;have U:Hid (W.heap.size<=c.heap.size):=BU b3 L;clear r s I f l L
     gi_wp2_with fail
     go_roundw
     case rel=>exact⟨k+1,i+10,a++[(k,.slice d E E)],by show _=_;have:=O.out;omega,b1,Q0,by go_num,by rw[D3,S.out,Fh];rfl,a1,t.out,U.out⟩
     case measure=>simp[intOf];omega
    ·clear r s f l
     gi_wp2_with fail
     exact BV (Dw rfl _ _ _) rfl ⟨⟨_,rfl⟩,.inr ⟨_,trivial,a4⟩⟩
  ·have hk:k=Cs N:=by
    have h1:=O.out;have h2:=b8.out;have h3:=(Qv N k).2;rcases Gb k (Cs N) with h|h
    ·have:=h3 h;omega
    ·omega
   subst hk;have hx:=S.out
   gi_wp2_with fail
   exact Fu (Dw rfl _ _ _) rfl ⟨⟨_,rfl⟩,.inl ⟨_,hx,f⟩⟩
theorem zv6(n:Nat)(w:3<=n)(b c d:Nat)(m:List Int)(u:m.length<=1000000)(g:Nat->Prop)(v:Value)(a:World)(x:Ac a d v m)(j:d<=a.heap.size)(h:Qc a b 0 v)(i:Qc a c 0 (Qi 10))
 (D:∀k,g k->d<=k/\k≠b/\k≠c) :
 XM n 172 #[.pointer (some ⟨b,0,none⟩),.pointer (some ⟨c,0,none⟩)] Pq (NS m d) (Ao g) (λA=>A.map (·.1)=List.range (Cs m.length)) (λ_=>True) (Cs m.length) a :=
 λy J l W e s E t r=>by
  have B:b<a.heap.size:=by
   obtain⟨o,z,q,f⟩:=Qm h;exact Aj f
  have C:c<a.heap.size:=by
   obtain⟨o,z,q,f⟩:=Qm i;exact Aj f
  exact zxe n w y b c d m u g J l v W (x.below e j) ((e.cell (p:=⟨b,0,none⟩) B).trans h) ((e.cell (p:=⟨c,0,none⟩) C).trans i) D (BU j e.size) s t r
end Go.Proofs.YtoejfkeofbdalaaGreatDoor
namespace Go.Proofs.YtoejfkeofbdalaaGreatDoor
open Go.RowKit Go.Shelf
attribute [local go_sem] Oper.semAt_some
variable {T:TypeId->Bool} {c d f i k m n:Nat} {o:Obj} {s:List Value} {u v w:World} {x:Value}
def AZ(T:TypeId->Bool)(W d:World):Prop:=∀(b:Nat)(a:Array Value)(t:TypeId)(c:Nat × Nat),T t=true->Qh W b (Obj.cells a t c)->Qh d b (Obj.cells a t c)
theorem AZ.refl(T:TypeId->Bool)(W:World):AZ T W W:=λ_ _ _ _ _ h=>h
theorem AZ.trans(h:AZ T w v)(k:AZ T v u):AZ T w u:=λb a t c d e=>k b a t c d (h b a t c d e)
theorem AZ.put{r:Nat}(d:Obj)(h:Qh w r o)(c:o.isCells=false):AZ T w (w.putObj r d):=λb f t g _ a=>by
 by_cases e:b=r
 ·subst e
  rw[h] at a;cases a
  cases c
 ·rw[GK e];exact a
theorem AZ.below(h:AZ T w v)(g:Qb v u):AZ T w u:=λb c t d e f=>by
 have a:=h b c t d e f;exact(g.block b (Aj a)).trans a
theorem AZ.of(a:Qb w v):AZ T w v:=(AZ.refl T w).below a
theorem AZ.set(d:AZ T w v){q:Addr}{h:Array Value}{t:TypeId}{f:Nat × Nat}(i:Qh v q.block (Obj.cells h t f))(j:T t=false)(u:Value):AZ T w (v.setCell q u):=λb l k m a g=>by
 have c:=d b l k m a g;refine(Bg v q u b λe=>?_).trans c;rw[e,i] at c;cases c
 rw[j] at a;cases a
theorem AZ.grown{q:Nat}(h:AZ T w v)(o:v.ownsRow q m k x n s)(p:T m=false)(l:v.grownBy u x.ownBlock):AZ T w u:=λb f t i a j=>by
 have d:=h b f t i a j;refine(l.block b (Aj d) λg=>?_).trans d;obtain⟨c,e⟩:=Gr o g.symm;rw[d] at e;cases e
 rw[p] at a;cases a
structure AB(n0:Nat)(T:TypeId->Bool)(A B:World):Prop where
 os:B.os=A.os
 tape:B.tape=A.tape
 output:B.output=A.output
 size:A.heap.size<=B.heap.size
 low:∀(b:Nat),b<n0->b<A.heap.size->B.heap[b]?=A.heap[b]?
 kept:∀(b:Nat)(o:Obj),Qh A b o->(∀(cs:Array Value)(t:TypeId)(fz:Nat × Nat),o=Obj.cells cs t fz->T t=false)->Qh B b o
theorem AB.refl(a:Nat)(T:TypeId->Bool)(A:World):AB a T A A:=⟨rfl,rfl,rfl,Af _,λ_ _ _=>rfl,λ_ _ h _=>h⟩
theorem AB.trans(h:AB d T w v)(k:AB d T v u):AB d T w u :=
 ⟨k.os.trans h.os,k.tape.trans h.tape,k.output.trans h.output,BU h.size k.size,λb c a=>(k.low b c (Iy a h.size)).trans (h.low b c a),λb o c a=>k.kept b o (h.kept b o c a) a⟩
theorem AB.of(h:Qb w v):AB d T w v:=⟨h.os,h.tape,h.output,h.size,λb _ c=>h.block b c,λb o a _=>(h.block b (Aj a)).trans a⟩
theorem AB.set(d:AB c T w v){q:Addr}{h:Array Value}{t:TypeId}{f:Nat × Nat}(i:Qh v q.block (Obj.cells h t f))(j:T t=true)(k:c<=q.block)(u:Value):AB c T w (v.setCell q u) :=
 d.trans ⟨rfl,rfl,rfl,by simp[World.setCell],λb a _=>Bg _ _ _ _ Q0,λb o a g=>by
  refine(Bg v q u b λe=>?_).trans a;rw[e,i] at a;cases a
  have:=g _ _ _ rfl;rw[j] at this;cases this⟩
theorem AB.grown{g:Nat}(h:AB g T w v)(l:v.ownsRow m k i x n s)(p:T k=true)(q:g<=m)(a:v.grownBy u x.ownBlock):AB g T w u :=
 h.trans ⟨a.os,a.tape,a.output,a.size,λb d f=>a.block b f λe=>by have:=Dm l e.symm;omega,λb o d f=>by
  refine(a.block b (Aj d) λe=>?_).trans d;obtain⟨c,j⟩:=Gr l e.symm;rw[d] at j;cases j
  have:=f _ _ _ rfl;rw[p] at this;cases this⟩
theorem AB.below(h:AB c T w v)(a:Below m u w)(d:m<=c)(e:m<=u.heap.size):Below m u v :=
 a.trans ⟨h.os,h.tape,h.output,h.size,λb f=>h.low b Q0 (by have:=a.size;omega)⟩
theorem AB.box(b:AB f T w v){m:Nat}{h:Array Value}{t:TypeId}{a:Nat × Nat}(c:Qh w m (Obj.cells h t a))(d:T t=false):Qh v m (Obj.cells h t a) :=
 b.kept m _ c λi g j e=>by cases e;exact d
theorem Bf.iter(h:Bf m o w)(a:o.isCells=false)(b:AB f T w v):Bf m o v :=
 ⟨b.kept _ _ h.1 (λc t d e=>by rw[e] at a;cases a),b.kept _ _ h.2 (λc t d e=>by cases e)⟩
theorem AB.row{l:Nat}(j:AB l T w v)(a:w.ownsRow m k i x n s)(h:T k=false):v.ownsRow m k i x n s:=by
 refine⟨a.1,?_⟩;rcases a.2 with f|⟨g,o,p,b,c,d,e⟩
 ·exact .inl f
 ·exact .inr ⟨g,o,p,b,c,j.box d h,e⟩
def zyx{d:Type}(h:Nat)(T:TypeId->Bool)(n:Nat)(g:Nat)(m:Array Value)(p:d->Array Value)(j:d->World->Prop)(S k:List d->Prop)(N:Nat)(o:World):Prop :=
 ∀(l:Nat)(J f:List d->World->Prop)(W:World),Qb o W->(∀s A B,J s A->AB h T A B->J s B)->(∀s A B,f s A->AB h T A B->f s B)->
  (∀b x c,J b c->b.length<N->j x c->YieldAt Fence.wide (n-1) Tryz.prog l (p x) c λe a=>(e=.returned (.bool true)/\J (b++[x]) a/\AZ T c a/\c.heap.size<=a.heap.size)\/(e=.returned (.bool false)/\f (b++[x]) a))->
  J [] W->CallsIn Fence.wide n Tryz.prog g (#[.func (.yield l) #[] #[]]++m) W λe a=>(∃v,e=.returned v)/\((∃i,S i/\J i a)\/(∃b,k b/\f b a))
variable {n:Nat}
theorem zuC{f:Type}{k:FuncId}{tmps:Array Value}{h:Array Tmp}{j i:Go.Code}{D:Nat}{E:f->Array Value}(Y:∀x,(E x).size=h.size)(F:f->World->Prop)(T:TypeId->Bool)
 (I:List f->World->Prop) (y:Go.Code->List f->World->Prop) (G:OwnFrom D I) (C:∀c,OwnFrom D (y c)) (w:f->Act->World->Prop) (O:∀x g,OwnFrom D (λ(_:Unit) W=>w x g W)) (N:Nat)
 (a4:∀(b:List f)(x:f)(W:World)(K:Act->World->Prop),I b W->F x W->D+1<W.heap.size->(∀g d,KeepsFrom D W d->AZ T W d->I b d->w x g d->K g d)->
   j.wpIn (Fence.wide.inRound (D+1)) n Tryz.prog (Exit.then K (λ_ _ _=>False)) { tmps:=(h.zip (E x)).foldl (λt (p,v)=>t.setIfInBounds p v) tmps,defers:=[] } W)
 (a2:∀(b:List f)(x:f)(g:Act)(W:World),I b W->w x g W->D+1<W.heap.size->b.length<N->i.wpIn (Fence.wide.inRound (D+1)) n Tryz.prog (ownPostG D (AZ T) I y (b++[x]) W) g W)
 (b:List f) (x:f) (W:World) (L:I b W/\Bf D (DT k tmps h j i D .ready none) W) (a0:b.length<N) (X:F x W) :
 YieldAt Fence.wide n Tryz.prog (D+1) (E x) W λe d=>(e=.returned (.bool true)/\(I (b++[x]) d/\Bf D (DT k tmps h j i D .ready none) d)/\AZ T W d/\W.heap.size<=d.heap.size) \/
  (e=.returned (.bool false)/\∃c,y c (b++[x]) d/\Bf D (DT k tmps h j i D .done (some c)) d):=by
 obtain⟨M,A⟩:=L;have V:=Aj A.1;refine⟨k,_,j,i,run_yield A.1 (Y x),roundIn_of_wpIn trivial (a4 b x W _ M X V ?_)⟩;intro g z H Q U P;have r:=A.from rfl H
 have a5:=Aj r.1;refine⟨_,run_beginRound r.1 rfl,?_⟩;have J:=r.put (DT k tmps h j i D .busy none);refine wpIn_mono (a2 b x g _ (G.putObj _ U Q0 r.1 rfl) ((O x g).putObj (s:=()) _ P Q0 r.1 rfl) (Aj J.1) a0) ?_
 have S:AZ T W (z.putObj (D+1) (DT k tmps h j i D .busy none)):=Q.trans (AZ.put _ r.1 rfl);have Z:W.heap.size<=(z.putObj (D+1) (DT k tmps h j i D .busy none)).heap.size:=by simp only[World.putObj,MV];exact H.size
 have u:∀(a1:Option Go.Code)(l:World),KeepsFrom D (z.putObj (D+1) (DT k tmps h j i D .busy none)) l ->
  Bf D (DT k tmps h j i D .busy none) l:=λa1 l a=>J.from rfl a
 rintro e a3 l q;cases e with
 | normal =>
   obtain⟨m,R,o⟩:=q;have a:=u none l m;exact⟨_,_,M0 none a.1,.inl ⟨rfl,⟨G.putObj _ o Q0 a.1 rfl,a.put _⟩,(S.trans R).trans (AZ.put _ a.1 rfl),BU Z (BU m.size (by simp[World.putObj]))⟩⟩
 | ret =>
   obtain⟨m,o⟩:=q;have a:=u (some .ret) l m;exact⟨_,_,M0 (some .ret) a.1,.inr ⟨rfl,.ret,(C _).putObj _ o Q0 a.1 rfl,a.put _⟩⟩
 | exit B =>
   obtain⟨m,o⟩:=q;have a:=u (some (.exit B)) l m;exact⟨_,_,M0 (some (.exit B)) a.1,.inr ⟨rfl,.exit B,(C _).putObj _ o Q0 a.1 rfl,a.put _⟩⟩
 | goto t =>
   obtain⟨m,o⟩:=q;have a:=u (some (.goto t)) l m;exact⟨_,_,M0 (some (.goto t)) a.1,.inr ⟨rfl,.goto t,(C _).putObj _ o Q0 a.1 rfl,a.put _⟩⟩
 |panic ch=>exact q.elim
 |outgrown=>exact q.elim
theorem zv2{b:Type}{n0:Nat}{g:Operand}{i:Array Tmp}{q m:Go.Code}{Q:Exit->Act->World->Prop}{o:Act}(X:1<=n)
 {gf:Nat} {lb:Array Value} (hg:o.eval g=.func (.func gf) #[] lb) (U:Enters Tryz.prog gf) {encs:b->Array Value} (a6:∀x,(encs x).size=i.size) (F:b->World->Prop) (T:TypeId->Bool) {S M:List b->Prop} {k:Nat} {v:World}
 (a9:zyx n0 T (n-1) gf lb encs F S M k v) (P:Qb v w)
 (I:List b->World->Prop) (d:Go.Code->List b->World->Prop) (G:OwnFrom w.heap.size I) (O:∀c,OwnFrom w.heap.size (d c)) (a2:∀s A B,I s A->AB n0 T A B->I s B) (a7:∀c s A B,d c s A->AB n0 T A B->d c s B) (V:I [] w) (y:b->Act->World->Prop) (a1:∀x e,OwnFrom w.heap.size (λ(_:Unit) W=>y x e W))
 (b3:∀(l:Nat)(a:List b)(x:b)(W:World)(K:Act->World->Prop),I a W->F x W->w.heap.size+1<W.heap.size->(∀e r,KeepsFrom w.heap.size W r->AZ T W r->I a r->y x e r->K e r)->
   q.wpIn (Fence.wide.inRound l) (n-1-1) Tryz.prog (Exit.then K (λ_ _ _=>False)) { tmps:=(i.zip (encs x)).foldl (λt (p,L)=>t.setIfInBounds p L) o.tmps,defers:=[] } W)
 (b0:∀(l:Nat)(a:List b)(x:b)(e:Act)(W:World),I a W->y x e W->w.heap.size+1<W.heap.size->a.length<k->m.wpIn (Fence.wide.inRound l) (n-1-1) Tryz.prog (ownPostG w.heap.size (AZ T) I d (a++[x]) W) e W)
 (b1:∀(D:Nat)(E:List b)(W:World),w.heap.size<=D->S E->I E W->Qh W D (.deferred (some []))->Q .normal { o with defers:={ target:=.collected D,args:=#[] }::o.defers } W)
 (b2:∀(D:Nat)(c:Go.Code)(a:List b)(W:World),w.heap.size<=D->M a->d c a W->Qh W D (.deferred (some []))->c.wpIn Fence.wide n Tryz.prog Q { o with defers:={ target:=.collected D,args:=#[] }::o.defers } W) :
 (Code.rangeFunc g i q m).wpIn Fence.wide n Tryz.prog Q o w:=by
 refine wpIn_rangeFunc ?_;intro z b7;obtain⟨j,J⟩:=Qe ((w.alloc (.deferred (some []))).alloc (DT z o.tmps i q m w.heap.size .ready none));have N:Qb w j:=by rw[<-J];exact((Ag _ w).alloc (Af _) _).alloc Q6 _
 have a3:Bf w.heap.size (DT z o.tmps i q m w.heap.size .ready none) j:=by
  rw[<-J];exact⟨Am _ _ _ Q6,Bb _ (Am _ _ _ rfl)⟩
 refine⟨w.heap.size+1,[{ target:=.collected w.heap.size,args:=#[] }],j,{ target:=.fn (.func gf) lb,args:=#[.func (.yield (w.heap.size+1)) #[] #[]] },j,gf,
  #[.func (.yield (w.heap.size+1)) #[] #[]]++lb,j,?_,?_,?_,?_,λ_=>X,?_⟩
 ·rw[<-J];exact SS _ _ _ _ _
 ·simp only[resolve,hg]
  simp[go_sem]
 ·intro b6 R;simp[Target.leads] at R;subst R;trivial
 ·have:=U
  unfold Enters at this;simp[invoke,go_sem,this]
 ·refine(a9 (w.heap.size+1) (λa W=>I a W/\Bf w.heap.size (DT z o.tmps i q m w.heap.size .ready none) W)
   (λa W=>∃c,d c a W/\Bf w.heap.size (DT z o.tmps i q m w.heap.size .done (some c)) W) j (P.trans (N.mono P.size))
   (λs A C h u=>⟨a2 s A C h.1 u,h.2.iter rfl u⟩) (λs A C ⟨c,h,Y⟩ u=>⟨c,a7 c s A C h u,Y.iter rfl u⟩)
   (λa x W Z a8 a5=>zuC a6 F T I d G O y a1 k (b3 _) (b0 _) a x W Z a8 a5) ⟨Nr G V N,a3⟩).mono ?_
  rintro b4 b5 ⟨⟨L,rfl⟩,(⟨E,a0,H,f⟩|⟨a,a4,c,H,f⟩)⟩
  ·exact⟨none,_,Ox f.1 Q6,b1 _ E _ (Af _) a0 (G.putObj _ H Q0 f.1 rfl) ((GK Q0).trans f.2)⟩
  ·exact⟨some c,_,Ox f.1 Q6,b2 _ c a _ (Af _) a4 ((O c).putObj _ H Q0 f.1 rfl) ((GK Q0).trans f.2)⟩
