import Derived.Test.YtoejfkeofbdalaaGreatDoorM33
import Derived.Maps.OwnOps
set_option linter.all false
set_option maxRecDepth 100000
set_option maxHeartbeats 8000000
namespace Go.Proofs.YtoejfkeofbdalaaGreatDoor
open Go.RowKit Go.Shelf
open Go.Maps (Keyed)
variable {m n:Nat}
def FM(w:World)(a k:Nat)(H:List HE):Prop:=∃D:DataW Value,w.ownsMap Tryz.prog 3 EO a k D/\∀s:Int,(∀i x,i<k->H[i]?=some x->(x.st:Int)≠s)->Maps.has D (Gh s)=false
theorem FM.look{w:World}{H:List HE}(h:FM w n m H)(s:Int)(q:0<=s/\s<=1099511627776)(l:∀i x,i<m->H[i]?=some x->(x.st:Int)≠s){W:World}(k:W.heap[n]?=w.heap[n]?) :
 (Instr.lookup 327 (.map (some n)) (.int .i64 s) false).run Tryz.prog W=.ok (.bool false) W:=by
 obtain⟨D,⟨d,c,f,g⟩,j⟩:=h;have o:W.ownsMap Tryz.prog 3 EO n m D:=⟨d,c,k.trans f,g⟩;obtain⟨v,r,p,b⟩:=o.lookup (t:=327) (e:=4) KQ Tryz.underlying327 (z:=.bool false) Q2 (rfl:EO _=some (.held _,[])) (P9 (a:=s) J4 (PG Q0))
 rw[show Lit.int .i64 s=Gh s from rfl,Maps.atKey_of_not_has (j s l)] at b
 injection b with b
 injection b with b _
 injection b with b
 rw[p,b]
theorem RA(w:World)(R c:Nat)(P:Value)(H:List HE)(r:Rd w w.heap.size 3 P H.length (BB H))(b9:1<=R/\R<=64)(hc:c<=1099511627776)(K:A7 R c H) :
 Qk 153 #[.agg #[.int .i64 R,.int .i64 c,P]] w λe a4=>e=.returned (.bool true)/\Qb w a4:=by
 obtain⟨q,j,rfl,a8,c0⟩:=r.isSlice;obtain⟨N,z⟩:=Qe H.length;have a6:=K.room;rw[z] at r a8 a6;obtain⟨b,L⟩:=Qe w.heap.size;have d:=Aa (Am w (.cells #[.int .i64 (R:Nat),.int .i64 (c:Nat),.slice q N j] 36) b L.symm);have Q:=Aa (Ay (Ag w.heap.size w) (.cells #[.int .i64 (R:Nat),.int .i64 (c:Nat),.slice q N j] 36));have a1:=Aa r;have C:=Aa K;have a3:=Aa z;have E:=Aa L;have t:=(Ae d.out 0).trans rfl;have h:=(Ae d.out 1).trans rfl;have u:=(Ae d.out 2).trans rfl;have d1:decide ((R:Int)<1)=false:=AV Q0
 have d2:decide (64<(R:Int))=false:=AV Q0
 have d3:decide ((c:Int)<0)=false:=AV Q0
 have d4:decide (1099511627776<(c:Int))=false:=AV Q0
 have d5:decide ((R:Int)<(N:Int))=false:=AV Q0
 have d6:decide (R<N)=false:=AV Q0
 have c5:=@run_makeMap Tryz.prog;simp only[JM,Lh,Me] at t h u;rw[z];clear r K L
 go_enter Tryz.func153,Tryz.ntmps153
 go_upto_region 4 with(fail)
 rw[E.out];have X:(w.alloc (.cells #[.int .i64 (R:Nat),.int .i64 (c:Nat),.slice q N j] 36)).heap.size=b+1:=by simp[E.out]
 generalize w.alloc (.cells #[.int .i64 (R:Nat),.int .i64 (c:Nat),.slice q N j] 36)=W at*
 have T:Hid (FM (W.alloc (.map #[] 0)) (b+1) 0 H):=by
  refine⟨.map [],?_,λs _=>rfl⟩;rw[<-X];exact World.ownsMap_made _ _ _ _
 have G:=Ay (Ag W.heap.size W) (.map #[] 0);have f:=Aa (Al G d.out);have v:=Aa (A9 G Q.out);clear G t h u d Q;generalize a7:W.alloc (.map #[] 0)=b7 at*
 clear X;have t:=A8 f.out;have h:=AA f.out;have u:=Bk f.out
 go_wp2_with fail
 clear t h u a7
 go_loopw [37,4] (λA lv wr=>∃k:Nat,k<=N/\A=.int .i64 k/\(∃l:Int,lv=.int .i64 l/\Hid (∀x,H[k]?=some x->l<(x.b:Int)))/\Hid (FM wr (b+1) k H)/\Hid (Qh wr b (Obj.cells #[.int .i64 (R:Nat),.int .i64 (c:Nat),.slice q N j] 36 (0,0)))/\Hid (Qb w wr)) (λA _ _=>N+1-(intOf A).toNat)
 case atStart=>exact⟨0,Q0,rfl,⟨-1,rfl,λx g=>by omega⟩,T,f,v⟩
 case round =>
  clear T f v;obtain⟨k,hk,rfl,⟨l,rfl,a2⟩,p,d,o⟩:=hrel
  by_cases a9:k<N
  ·have hd:decide ((k:Int)<(N:Int))=true:=Bl Q0
   obtain⟨b4,b6,x,rfl,hg,g,e0,e1,e2⟩:=Sw (Rd.below a1.out o.out (Af _)) a3.out k a9;have c3:(k:Int)<(N:Int):=Q0
   have c1:(0:Int)<=(k:Int):=Q0
   have c6:=C.out.one x (Cn g);have c4:=a2.out x g;have f1:decide ((x.b:Int)<=l)=false:=AV Q0
   have f2:decide ((x.st:Int)<1)=false:=AV Q0
   have f3:decide ((c:Int)<(x.st:Int))=false:=AV Q0
   have n:=Ay (Ag wr.heap.size wr) (.cells #[.int .i64 (x.b:Nat),.int .i64 (x.st:Nat),.string ⟨x.t.toArray⟩] 271)
   have b2:b+1<wr.heap.size:=by
    obtain⟨D,h1,-⟩:=p.out;exact h1.lt
   have b3:=p.out.look (x.st:Int) Q0 (λi y M m e=>C.out.apart i k y x M m g Q0) (n.block (b+1) b2)
   have h:=AA (Al n d.out);obtain⟨D,Z,V⟩:=p.out;have S:=Aa V;have Y:=Aa (Z.alloc (.cells #[.int .i64 (x.b:Nat),.int .i64 (x.st:Nat),.string ⟨x.t.toArray⟩] 271));have F:=Aa (Al n d.out);have B:=Aa (A9 n o.out);have U:=Aa g;have c2:k<1000:=Q0
   clear g n Z V p d o;have I:=Am wr (.cells #[.int .i64 (x.b:Nat),.int .i64 (x.st:Nat),.string ⟨x.t.toArray⟩] 271) _ rfl;have b0:=A8 I;have b1:=AA I;clear I
   go_upto_region 8 with(fail)
   generalize wr.alloc (.cells #[.int .i64 (x.b:Nat),.int .i64 (x.st:Nat),.string ⟨x.t.toArray⟩] 271)=b8 at*
   go_wp2_with (first
    |(at_mapUpdate;refine wpList_mapUpdate_own _ rfl _ _ _ 327 rfl 3 4 KQ Tryz.underlying327 EO (b+1) k D rfl Y.out (by unfold maxLen;omega) _ _ _ rfl rfl (P9 (a:=(x.st:Int)) J4 (PG Q0)) _ [] rfl ?_;intro w1 a0 J)
    |go_in)
   have v:=Aa (B.out.grown J B.out.size (λb5 e=>by cases e;have:=E.out;omega))
   have f:=Aa ((J.block b (Aj F.out) Q6).trans F.out)
   have a5:Hid (FM w1 (b+1) (k+1) H):=⟨_,a0,λs O=>by
    rw[Tc (by
     intro e;injection e with _ e
     exact O k x Q0 U.out e.symm)]
    exact S.out s λi y M m=>O i y Q0 m⟩
   clear a0 J b3 b0 b1 h F B Y S
   go_wp2_with fail
   go_roundw
   case rel=>exact⟨k+1,Q0,by go_num,⟨(x.b:Nat),rfl,λy m=>by have:=C.out.up k x y U.out m;omega⟩,a5,f,v⟩
   case measure=>simp[intOf];omega
  ·obtain rfl:k=N:=Q0
   go_wp2_with fail
   go_ret
   exact⟨rfl,o.out⟩
theorem Fp.has_iff{H:List HE}{D:DataW Value}(h:Fp H D)(b:Nat):Maps.has D (Gh b)=H.any λx=>decide (x.b=b):=by
 cases hb:Maps.has D (Gh b) with
 | true =>
   obtain⟨x,a,d⟩:=h.only _ hb;exact(J8.2 ⟨x,a,Bl Q0⟩).symm
 | false =>
   refine(GR.2 λx c e=>?_).symm;have a:=(h.at0 x c).1;rw[Kk e,hb] at a;cases a
theorem Fp.put{H g:List HE}{D:DataW Value}{e:HE}(c:Fp H D)(i:Maps.Tidy D)(j:∀h,h∈g↔h=e\/(h∈H/\h.b≠e.b))(o:g.length=if H.any (λx=>decide (x.b=e.b)) then H.length else H.length+1) :
 Fp g (D.put (Gh e.b) (.held (G5 e))):=by
 have m:∀b:Int,b≠(e.b:Int)->Gh b≠Gh e.b:=λb f a=>by injection a with _ a;exact f a
 refine⟨?_,?_,?_⟩
 ·rw[Maps.size_put i,c.has_iff,c.size,o]
 ·intro h n
  rcases(j h).1 n with rfl|⟨d,k⟩
  ·exact⟨Maps.has_put_same i.isMap (show WideAt.IsKeyLit (Gh _) from trivial) _,λz=>Maps.atKey_put_same i.isMap (show WideAt.IsKeyLit (Gh _) from trivial) _ z⟩
  ·have l:=m h.b Q0
   exact⟨by rw[Tc l];exact(c.at0 h d).1,λz=>by rw[Maps.atKey_put_other l];exact(c.at0 h d).2 z⟩
 ·intro b f
  by_cases a:b=(e.b:Int)
  ·exact⟨e,(j e).2 (.inl rfl),a.symm⟩
  ·rw[Tc (m b a)] at f
   obtain⟨x,d,k⟩:=c.only b f;exact⟨x,(j x).2 (.inr ⟨d,Q0⟩),k⟩
theorem A7.lt{H:List HE}(h:A7 n m H):∀(d i:Nat)(x y:HE),H[i]?=some x->H[i+d+1]?=some y->x.b<y.b
 |0,i,x,y,hx,hy=>h.up i x y hx hy
 | d+1,i,x,y,hx,hy=>by
   have e:=(Cc.1 hy).1;have a:H[i+d+1]?=some (H[i+d+1]'(by omega)):=Az Q0
   have b:=h.lt d i x _ hx a;have c:=h.up (i+d+1) _ y a hy;omega
theorem A7.nil(R c:Nat):A7 R c []:=⟨BI _,λi x y h=>by simp at h,λx h=>by simp at h,λx h=>by simp at h,λi j x y _ h=>by simp at h⟩
theorem zwE(w:World)(R:Nat)(j:1<=R/\R<=64) :
 Qk 105 #[Qi R] w λe m=>e=.returned (.tuple #[.agg #[Qi R,Qi 0,.slice none 0 0],Qi 0])/\Qb w m:=by
 have g:=Aa (λW=>RA W R 0 (.slice none 0 0) [] (Rd.nil W _ 3) j Q0 (A7.nil R 0))
 obtain⟨z,f⟩:=Qe w.heap.size;have k:=Aa (Ay (Ay (Ag w.heap.size w) (.cells #[Qi 0,Qi 0,.slice none 0 0] 36)) (.cells #[Qi (R:Nat),Qi 0,.slice none 0 0] 36));have h:=Aa (Bb (.cells #[Qi (R:Nat),Qi 0,.slice none 0 0] 36) (Am w (.cells #[Qi 0,Qi 0,.slice none 0 0] 36) z f.symm));have i:=Aa (Am (w.alloc (.cells #[Qi 0,Qi 0,.slice none 0 0] 36)) (.cells #[Qi (R:Nat),Qi 0,.slice none 0 0] 36) (z+1) (by simp[f]))
 have d:Hid (w.heap.size<=z):=EV f;clear j
 go_enter Tryz.func105,Tryz.ntmps105
 go_wp2_with fail
 refine(g.out _).mono ?_;rintro e u ⟨rfl,b⟩;have a:=Al b h.out;have c:=Al b i.out;have v:=A8 c;have x:=AA c;have y:=Bk c;have r:=A8 a;have s:=AA a;have t:=Bk a;have o:=Ah a 0;have p:=Ah a 1;have q:=Ah a 2;have n:=Aa (Ak (Ak (Ak a 0 (Qi (R:Nat))) 1 (Qi 0)) 2 (.slice none 0 0));have l:=Aa (Ce (Ce (Ce (A9 b k.out) d.out 0 (Qi (R:Nat))) d.out 1 (Qi 0)) d.out 2 (.slice none 0 0));clear b a c h i k g
 go_wp2_with fail
 exact BV (zqR rfl _ _ _ ⟨z,0,none⟩ _ rfl (PR _ _ _ _ _ n.out)) rfl ⟨rfl,l.out⟩
theorem ztO(w:World)(R c:Nat)(J:Value)(H:List HE)(b:Rd w w.heap.size 3 J H.length (BB H))(b7:R<=64)(A:A7 R c H) :
 Qk 256 #[.agg #[.int .i64 R,.int .i64 c,J]] w λe K=>∃v,e=.returned (.map (some v))/\w.heap.size<=v/\DN K v H.length H/\Qb w K:=by
 obtain⟨q,l,rfl,a5,b8⟩:=b.isSlice;obtain⟨N,r⟩:=Qe H.length;have a3:=A.room;rw[r] at b a5 a3;obtain⟨f,B⟩:=Qe w.heap.size;have G:=Aa (Am w (.cells #[.int .i64 (R:Nat),.int .i64 (c:Nat),.slice q N l] 36) f B.symm);have L:=Aa (Ay (Ag w.heap.size w) (.cells #[.int .i64 (R:Nat),.int .i64 (c:Nat),.slice q N l] 36));have a1:=Aa b;have O:=Aa A;have F:=Aa r;have n:=Aa B;have c2:=@run_makeMap Tryz.prog;rw[r];clear b A B
 go_enter Tryz.func256,Tryz.ntmps256
 go_upto_region 2 with(fail)
 rw[n.out];have U:(w.alloc (.cells #[.int .i64 (R:Nat),.int .i64 (c:Nat),.slice q N l] 36)).heap.size=f+1:=by simp[n.out]
 generalize w.alloc (.cells #[.int .i64 (R:Nat),.int .i64 (c:Nat),.slice q N l] 36)=W at*
 have M:Hid (∃D:DataW Value,(W.alloc (.map #[] 0)).ownsMap Tryz.prog 3 EO (f+1) 0 D/\Fp (H.take 0) D):=by
  refine⟨.map [],?_,Q7,λh b=>by simp at b,λa8 hb=>by cases hb⟩
  rw[<-U];exact World.ownsMap_made _ _ _ _
 have z:=Ay (Ag W.heap.size W) (.map #[] 0);have P:=Aa (Al z G.out);have m:=Aa (A9 z L.out);clear z G L;generalize a4:W.alloc (.map #[] 0)=b5 at*
 clear U;have x2:=Bk P.out
 go_wp2_with fail
 clear x2 a4 P
 go_loopw [10] (λu wr=>∃k:Nat,k<=N/\u=.int .i64 k/\Hid (∃D:DataW Value,wr.ownsMap Tryz.prog 3 EO (f+1) k D/\Fp (H.take k) D)/\Hid (Qb w wr)) (λu _=>N+1-(intOf u).toNat)
 case atStart=>exact⟨0,Q0,rfl,M,m⟩
 case round =>
  clear M m;obtain⟨k,hk,rfl,j,g⟩:=hrel
  by_cases a7:k<N
  ·have hd:decide ((k:Int)<(N:Int))=true:=Bl Q0
   obtain⟨a9,b4,x,rfl,hg,t,e0,e1,e2⟩:=Sw (Rd.below a1.out g.out (Af _)) F.out k a7;have c1:(k:Int)<(N:Int):=Q0
   have b9:(0:Int)<=(k:Int):=Q0
   have S:=Ay (Ag wr.heap.size wr) (.cells #[.int .i64 (x.b:Nat),.int .i64 (x.st:Nat),.string ⟨x.t.toArray⟩] 271);obtain⟨D,Z,I⟩:=j.out
   have X:-9223372036854775808<=(x.b:Int)/\(x.b:Int)<=9223372036854775807:=by
    have:=O.out.small x (Cn t);omega
   have E:=Aa I;have C:=Aa (Z.alloc (.cells #[.int .i64 (x.b:Nat),.int .i64 (x.st:Nat),.string ⟨x.t.toArray⟩] 271));have y:=Aa (A9 S g.out);have Q:=Aa t;have Y:=Aa (P9 (a:=(x.b:Int)) J4 (PG X));have c0:k<1000:=Q0
   have o:=Am wr (.cells #[.int .i64 (x.b:Nat),.int .i64 (x.st:Nat),.string ⟨x.t.toArray⟩] 271) _ rfl;have b0:=A8 o;have b1:=AA o;have b2:=Bk o;clear o t S Z I j g X
   go_upto_region 5 with(fail)
   generalize wr.alloc (.cells #[.int .i64 (x.b:Nat),.int .i64 (x.st:Nat),.string ⟨x.t.toArray⟩] 271)=b6 at*
   go_wp2_with (first
    |(at_mapUpdate;refine wpList_mapUpdate_own _ rfl _ _ _ 371 rfl 3 271 KQ PD EO (f+1) k D rfl C.out (by unfold maxLen;omega) _ _ _ rfl rfl Y.out _ [] rfl ?_;intro w1 a0 T)
    |go_in)
   have m:=Aa (y.out.grown T y.out.size (λb3 e=>by cases e;have:=n.out;omega))
   have a2:Hid (∃D:DataW Value,w1.ownsMap Tryz.prog 3 EO (f+1) (k+1) D/\Fp (H.take (k+1)) D):=by
    have p:H.take (k+1)=H.take k++[x]:=by rw[G7,Q.out];rfl
    have V:∀h∈H.take k,h.b≠x.b:=λh b=>by
     obtain⟨i,s⟩:=List.mem_iff_getElem?.1 b;have a6:i<k:=by have:=(Cc.1 s).1;rw[BO] at this;omega
     rw[Lp,if_pos a6] at s;have:=O.out.lt (k-i-1) i h x s (by rw[show i+(k-i-1)+1=k by omega];exact Q.out)
     omega
    refine⟨_,a0,E.out.put (C.out.tidy KQ) (λh=>?_) ?_⟩
    ·rw[p]
     simp only[FZ,Li]
     constructor
     ·rintro(d|rfl)
      ·exact .inr ⟨d,V h d⟩
      ·exact .inl rfl
     ·rintro(rfl|⟨d,-⟩)
      ·exact .inr rfl
      ·exact .inl d
    ·rw[if_neg,p]
     ·simp
     ·intro d
      obtain⟨h,h2,h3⟩:=J8.1 d;exact V h h2 (Kk h3)
   clear a0 T b0 b1 b2 y C Y E
   go_wp2_with fail
   go_roundw
   case rel=>exact⟨k+1,Q0,by go_num,a2,m⟩
   case measure=>simp[intOf];omega
  ·obtain rfl:k=N:=Q0
   have p:H.take k=H:=BR (by rw[F.out];exact Af _)
   rw[p] at j
   go_wp2_with fail
   go_ret
   exact⟨_,rfl,by have:=n.out;omega,j.out,g.out⟩
