import Derived.Test.YtoejfkeofbdalaaGreatDoorM04
set_option linter.all false
set_option maxRecDepth 100000
set_option maxHeartbeats 8000000
namespace Go.Proofs.YtoejfkeofbdalaaGreatDoor
open Go.RowKit
variable {G g:Int} {l:List Int} {n:Nat}
def NQ(l:List Int):Int:=l.tail.foldl min (l.headD 0)
def K8(l:List Int):Int:=l.tail.foldl max (l.headD 0)
theorem zl1(l:List Int)(b:Int):∀a,l.foldl min a<b↔a<b\/∃x∈l,x<b:=by
 induction l with
 |nil=>intro a;simp
 | cons y l e =>
   intro a;rw[PH,e]
   constructor
   ·rintro(h|⟨x,c,h⟩)
    ·by_cases d:a<b
     ·exact .inl d
     ·exact .inr ⟨y,Q6,Q0⟩
    ·exact .inr ⟨x,by simp[c],h⟩
   ·rintro(h|⟨x,c,h⟩)
    ·exact .inl Q0
    ·rcases CZ.1 c with rfl|c
     ·exact .inl Q0
     ·exact .inr ⟨x,c,h⟩
theorem YN(l:List Int)(b:Int):∀a,b<l.foldl max a↔b<a\/∃x∈l,b<x:=by
 induction l with
 |nil=>intro a;simp
 | cons y l e =>
   intro a;rw[PH,e]
   constructor
   ·rintro(h|⟨x,c,h⟩)
    ·by_cases d:b<a
     ·exact .inl d
     ·exact .inr ⟨y,Q6,Q0⟩
    ·exact .inr ⟨x,by simp[c],h⟩
   ·rintro(h|⟨x,c,h⟩)
    ·exact .inl Q0
    ·rcases CZ.1 c with rfl|c
     ·exact .inl Q0
     ·exact .inr ⟨x,c,h⟩
theorem zux(l:List Int)(h:l≠[]):Pd l↔1<=NQ l/\K8 l<=20:=by
 have e:l=l.headD 0::l.tail:=by
  cases l with
  |nil=>exact absurd rfl h
  |cons a l=>rfl
 have i:=zl1 l.tail 1 (l.headD 0);have j:=YN l.tail 20 (l.headD 0);unfold NQ K8
 constructor
 ·intro f
  rw[e] at f
  constructor
  ·rcases(show l.tail.foldl min (l.headD 0)<1\/1<=l.tail.foldl min (l.headD 0) by omega) with d|d
   ·rcases i.1 d with g|⟨x,b,g⟩
    ·have:=f (l.headD 0) Q6;omega
    ·have:=f x (by simp[b]);omega
   ·exact d
  ·rcases(show 20<l.tail.foldl max (l.headD 0)\/l.tail.foldl max (l.headD 0)<=20 by omega) with d|d
   ·rcases j.1 d with g|⟨x,b,g⟩
    ·have:=f (l.headD 0) Q6;omega
    ·have:=f x (by simp[b]);omega
   ·exact d
 ·rintro⟨d,g⟩ x b
  rw[e] at b
  constructor
  ·rcases(show x<1\/1<=x by omega) with c|c
   ·have:=i.2 (by
     rcases CZ.1 b with rfl|b
     ·exact .inl c
     ·exact .inr ⟨x,b,c⟩)
    omega
   ·exact c
  ·rcases(show 20<x\/x<=20 by omega) with c|c
   ·have:=j.2 (by
     rcases CZ.1 b with rfl|b
     ·exact .inl c
     ·exact .inr ⟨x,b,c⟩)
    omega
   ·exact c
theorem ZV(f:Int->Int->Int)(l:List Int)(a:Int)(k:Nat)(h:k<l.length):(l.take (k+1)).foldl f a=f ((l.take k).foldl f a) (l[k]?.getD 0):=by
 rw[Ep h,Te,Az h];rfl
theorem zz3(w:World)(v:Value)(l:List Int)(a:Ac w w.heap.size v l)(J:l.length<=1000000)(f:l≠[]) :
 Qk 93 #[v] w λe L=>e=.returned (Qi (NQ l))/\w=L:=by
 obtain⟨A,R,rfl,r,O⟩:=a.shape;obtain⟨N,h⟩:∃N,l.length=N+1:=⟨l.length-1,by have:=Ga.2 f;omega⟩
 obtain⟨g,o,H,X,B⟩:=a.at 0 Q0
 obtain rfl:=H
 have C:∀i,i<N+1->Qc w g (o+i) (Qi (l[i]?.getD 0)):=λi I=>by
  obtain⟨S,V,b,_,n⟩:=a.at i Q0
  injection b with b
  injection b with E F
  rw[<-E,<-F] at n;exact n
 have s:l[0]?.getD 0=l.headD 0:=by cases l<;>rfl
 have y:l.tail.length=N:=by rw[List.length_tail];omega
 have u:∀i,i<N->l[i+1]?.getD 0=l.tail[i]?.getD 0:=λi I=>by
  rw[Az Q0,Az Q0]
  simp
 rw[Ic,s] at B;have D:NQ l=l.tail.foldl min (l.headD 0):=rfl;generalize l.headD 0=z at*
 generalize l.tail=T at*
 rw[h] at r |-;have P:=Aa C;have Q:=Aa D;have M:=Aa u;have q:=Aa y;have W:N<=1000000:=Q0
 clear a C D s u y f h J r O
 go_enter Tryz.func93,Tryz.ntmps93
 go_wp2
 go_loop [3,4] (λK c=>∃k:Nat,k<=N/\c=Qi ((k+1:Nat):Int)/\K=Qi ((T.take k).foldl min z)) (λ_ c=>N+2-(intOf c).toNat)
 case atStart=>exact⟨0,BI _,rfl,rfl⟩
 case round =>
  obtain⟨k,U,rfl,rfl⟩:=hrel;clear B
  by_cases t:k<N
  ·have G:=P.out (k+1) Q0
   have d:=ZV min T z k (by rw[q.out];exact t)
   rw[M.out k t] at G;generalize T[k]?.getD 0=x at*
   obtain⟨m,j⟩:=Qe ((T.take k).foldl min z);rw[j] at d |-;have p:=Aa d;clear d j
   by_cases Y:x<m
   ·go_wp2
    go_round
    case rel=>exact⟨k+1,Q0,by go_num,by rw[p.out,Int.min_eq_right Q0]⟩
    case measure=>simp[intOf];omega
   ·go_wp2
    go_round
    case rel=>exact⟨k+1,Q0,by go_num,by rw[p.out,Int.min_eq_left Q0]⟩
    case measure=>simp[intOf];omega
  ·obtain rfl:k=N:=Q0
   go_wp2
   go_ret
   exact⟨JD (by rw[Q.out,BR (by rw[q.out];exact Af _)]),rfl⟩
theorem zs9(w:World)(v:Value)(l:List Int)(a:Ac w w.heap.size v l)(J:l.length<=1000000)(f:l≠[]) :
 Qk 80 #[v] w λe L=>e=.returned (Qi (K8 l))/\w=L:=by
 obtain⟨A,R,rfl,r,O⟩:=a.shape;obtain⟨N,h⟩:∃N,l.length=N+1:=⟨l.length-1,by have:=Ga.2 f;omega⟩
 obtain⟨g,o,H,X,B⟩:=a.at 0 Q0
 obtain rfl:=H
 have C:∀i,i<N+1->Qc w g (o+i) (Qi (l[i]?.getD 0)):=λi I=>by
  obtain⟨S,V,b,_,n⟩:=a.at i Q0
  injection b with b
  injection b with E F
  rw[<-E,<-F] at n;exact n
 have s:l[0]?.getD 0=l.headD 0:=by cases l<;>rfl
 have y:l.tail.length=N:=by rw[List.length_tail];omega
 have u:∀i,i<N->l[i+1]?.getD 0=l.tail[i]?.getD 0:=λi I=>by
  rw[Az Q0,Az Q0]
  simp
 rw[Ic,s] at B;have D:K8 l=l.tail.foldl max (l.headD 0):=rfl;generalize l.headD 0=z at*
 generalize l.tail=T at*
 rw[h] at r |-;have P:=Aa C;have Q:=Aa D;have M:=Aa u;have q:=Aa y;have W:N<=1000000:=Q0
 clear a C D s u y f h J r O
 go_enter Tryz.func80,Tryz.ntmps80
 go_wp2
 go_loop [3,4] (λK c=>∃k:Nat,k<=N/\c=Qi ((k+1:Nat):Int)/\K=Qi ((T.take k).foldl max z)) (λ_ c=>N+2-(intOf c).toNat)
 case atStart=>exact⟨0,BI _,rfl,rfl⟩
 case round =>
  obtain⟨k,U,rfl,rfl⟩:=hrel;clear B
  by_cases t:k<N
  ·have G:=P.out (k+1) Q0
   have d:=ZV max T z k (by rw[q.out];exact t)
   rw[M.out k t] at G;generalize T[k]?.getD 0=x at*
   obtain⟨m,j⟩:=Qe ((T.take k).foldl max z);rw[j] at d |-;have p:=Aa d;clear d j
   by_cases Y:m<x
   ·go_wp2
    go_round
    case rel=>exact⟨k+1,Q0,by go_num,by rw[p.out,Int.max_eq_right Q0]⟩
    case measure=>simp[intOf];omega
   ·go_wp2
    go_round
    case rel=>exact⟨k+1,Q0,by go_num,by rw[p.out,Int.max_eq_left Q0]⟩
    case measure=>simp[intOf];omega
  ·obtain rfl:k=N:=Q0
   go_wp2
   go_ret
   exact⟨JD (by rw[Q.out,BR (by rw[q.out];exact Af _)]),rfl⟩
def Ia(l:List Nat):Array Value:=((List.range 21).map λk=>Value.int .i64 (l.count k:Nat)).toArray
theorem WM(l:List Nat):(Ia l).size=21:=by simp[Ia]
theorem Uw(l:List Nat)(c:Nat)(h:c<21):(Ia l)[c]?=some (Qi (l.count c:Nat)):=by simp[Ia,h]
theorem zmX(l:List Nat)(c:Nat)(h:¬ c<21):(Ia l)[c]?=none:=IK (by rw[WM];omega)
theorem zx0(l:List Nat):(Ia l).all (·.oneCell')=true:=by simp[Ia,Value.oneCell']
theorem zxb(l:List Nat)(x:Nat)(b:x<21):(Ia l).setIfInBounds x (Qi ((l.count x+1:Nat):Int))=Ia (l++[x]):=by
 apply KK
 intro i;rw[MU]
 by_cases a:i<21
 ·rw[Uw _ _ a,Uw _ _ a,Oo,WM]
  by_cases h:x=i
  ·subst h;simp[b]
  ·rw[if_neg h]
   simp[h]
 ·rw[zmX _ _ a,zmX _ _ a,if_neg Q0]
theorem zyb:(Tryz.prog.info? 163).map (·.size)=some 21:=Q2
theorem zxS:∀W,(zeroValue 163).run Tryz.prog W=.ok (.agg (Ia [])) W:=λ_=>by kernel_rfl
theorem zk2(a:Array Value)(k:Nat)(v:Value)(c:k<21)(h:a[k]?=some v)(W:World):(Instr.index 163 (.agg a) (Qi (k:Int))).run Tryz.prog W=.ok v W:=by
 have b:(sizeOf 3).run Tryz.prog W=.ok 1 W:=Q2
 simp[Instr.index,Kl Tryz.underlying163,asIntOf,part,b,c,h,go_sem]
theorem zof(w:World)(v:Value)(l:List Nat)(h:Ac w w.heap.size v (ints l))(R:l.length<=1000000)(y:∀x∈l,x<21) :
 Qk 94 #[v] w λe U=>e=.returned (.agg (Ia l))/\Qb w U:=by
 obtain⟨a4,ca,rfl,Y,a6⟩:=h.shape;have r:=Bj l;obtain⟨N,c⟩:=Qe l.length;rw[r,c] at Y;rw[r,c] at h |-;have O:=Aa h;have b:=Aa c;have M:=Aa y;have T:=zxS;obtain⟨Z,n⟩:=Qe (Ia []);rw[n] at T;have L:=Aa n;rw[c] at R;clear h y n c r
 go_enter Tryz.func94,Tryz.ntmps94
 go_wp2
 have D:Qg (w.alloc (.cells Z 163)) w.heap.size Z 163:=Am _ _ _ rfl
 go_loopw [7] (λi wr=>∃k:Nat,k<=N/\i=Qi k/\Qg wr w.heap.size (Ia (l.take k)) 163/\Qb w wr) (λi _=>N+1-(intOf i).toNat)
 case atStart=>exact⟨0,BI _,rfl,by rw[Nh,L.out];exact D,(Ag _ _).alloc (Af _) _⟩
 case round =>
  obtain⟨k,hk,rfl,z,m⟩:=hrel;have a:=Aa z;clear z D
  by_cases d:k<N
  ·obtain⟨g,o,rfl,Q,q⟩:=O.out.at k (by rw[Bj,b.out];exact d)
   have H:(ints l)[k]?.getD 0=((l[k]?.getD 0:Nat):Int):=by simp[ints,Az (show k<l.length by rw[b.out];exact d)]
   rw[H] at q;have a3:=(m.cell (p:=⟨g,o+k,none⟩) Q).trans q
   have t:l[k]?.getD 0<21:=by
    rw[Az (show k<l.length by rw[b.out];exact d)]
    exact M.out _ (Et _)
   have s:l.take (k+1)=l.take k++[l[k]?.getD 0]:=by
    rw[Ep (show k<l.length by rw[b.out];exact d),Az (show k<l.length by rw[b.out];exact d)]
    rfl
   obtain⟨x,I⟩:=Qe (l[k]?.getD 0);rw[I] at a3 t s;have a0:(l.take k).count x<=k:=BU Mq (List.length_take_le _ _);have P:=(Ae a.out x).trans (Uw _ _ t);have a7:=Ah a.out x
   have u:Hid (Ia (l.take (k+1))=(Ia (l.take k)).setIfInBounds x (Qi (((l.take k).count x+1:Nat):Int))):=by
    show _=_
    rw[zxb _ _ t,s]
   have J:=Aa (Ak a.out x (Qi (((l.take k).count x+1:Nat):Int)));obtain⟨a5,F⟩:=Qe ((l.take k).count x);rw[F] at P J u a0;have a8:(0:Int)<=(x:Int):=Q0
   have a9:(x:Int)<21:=Q0
   clear I s q H F
   go_wp2
   go_roundw
   case rel=>exact⟨k+1,Q0,by go_num,by rw[u.out];exact J.out,m.setCell (p:=⟨w.heap.size,_,none⟩) (Af _) _⟩
   case measure=>simp[intOf];omega
  ·obtain rfl:k=N:=Q0
   have a:Hid (Qg wr w.heap.size (Ia l) 163):=by
    show _=_
    have:=a.out;rw[BR (by rw[b.out];exact Af _)] at this
    exact this
   generalize f:Ia l=S at*
   have C:S.size=21:=by rw[<-f];exact WM _
   have B:S.all (·.oneCell')=true:=by rw[<-f];exact zx0 _
   have A:(Tryz.prog.info? 163).map (·.size)=some S.size:=by rw[C];exact zyb
   have K:=Aa f;have j:=Aa A;have W:=Aa B;clear f C A B
   go_wp2_with
    (first
      |(refine Ot rfl 163 _ rfl w.heap.size rfl _ S _ _ a.out Tryz.underlying163 rfl j.out ?_)
      |(refine Rq rfl 163 _ _ rfl w.heap.size S S _ rfl rfl a.out rfl j.out W.out ?_
        intro w2 G a2 a1 E;have X:=Aa G;have V:=Aa (E _ _ (Af _) m);clear G a2 a1 E))
   refine BV (Tk rfl _ _ w.heap.size _ S _ _ rfl X.out Tryz.underlying163 rfl j.out) rfl ⟨by rw[K.out],V.out⟩
def Ik(l:List Nat):Nat->Int
 |0=>1
 |k+1=>2 ^ k-(Cg l k:Int)
theorem TU(l:List Nat)(k:Nat):Ik l (k+1)=2 ^ k-(Cg l k:Int):=rfl
theorem zsu(l:List Nat)(k:Nat):Ik l (k+2)=Ik l (k+1)*2-(l.count (k+1):Nat):=by
 rw[TU,TU,Cg,Int.pow_succ];omega
theorem zpm(l:List Nat)(k:Nat)(a:k<=21)(h:0<=Ik l k):Ik l k<=1048576:=by
 cases k with
 |zero=>simp[Ik]
 | succ k =>
   rw[TU] at*
   have:(2:Int)^ k<=2 ^ 20:=by
    rw[WB,WB];exact Int.ofNat_le.2 (Jj Q0 Q0)
   have e:(2:Int)^ 20=1048576:=Q5
   omega
theorem RI(w:World)(v:Value)(l:List Int)(f:Ac w w.heap.size v l)(hl:l.length<=1000000) :
 Qk 31 #[v] w λe o=>e=.returned (Qi (KV l))/\Qb w o:=by
 by_cases p:l.length<2\/258<l.length
 ·have d:KV l=1:=by unfold KV;rw[if_pos Q0]
  rw[d];obtain⟨A,Z,rfl,y,a3⟩:=f.shape;clear f d;obtain⟨N,g⟩:=Qe l.length;rw[g] at p y |-;clear g;rcases p with p|p
  ·go_enter Tryz.func31,Tryz.ntmps31
   go_wp2_with fail
   go_ret
   exact⟨rfl,Ag _ _⟩
  ·go_enter Tryz.func31,Tryz.ntmps31
   go_wp2_with fail
   go_ret
   exact⟨rfl,Ag _ _⟩
 ·have E:2<=l.length:=Q0
  have b0:l.length<=258:=Q0
  have B:l≠[]:=λe=>by rw[e] at E;simp at E
  have s:Hid (Qk 93 #[v] w λe o=>e=.returned (Qi (NQ l))/\w=o):=zz3 w v l f Q0 B
  have r:Hid (Qk 80 #[v] w λe o=>e=.returned (Qi (K8 l))/\w=o):=zs9 w v l f Q0 B
  have K:=zux l B
  by_cases i:Pd l
  ·have L:=zsk l λx Q=>by have:=i x Q;omega
   obtain⟨m,H⟩:=Qe (l.map Int.toNat)
   have d:KV l=if 1048576<I7 m then 6 else 0:=by
    unfold KV;rw[if_neg (by simp only[i,not_true,or_false];omega),H]
   rw[d];obtain⟨R,F⟩:=Qe ((if 1048576<I7 m then 6 else 0):Int)
   rw[F];have b6:Hid (1048576<I7 m->R=6):=λh=>by rw[<-F,if_pos h]
   have b5:Hid (I7 m<=1048576->R=0):=λh=>by rw[<-F,if_neg Q0]
   clear F;rw[H] at L;have Cw:JX m:=(Ws m).1 (by rw[L];exact i)
   have c6:m.length=l.length:=by rw[<-H];simp
   have O:Hid (Qk 94 #[v] w λe o=>e=.returned (.agg (Ia m))/\Qb w o) :=
    zof w v m (by rw[L];exact f) Q0 λx Q=>by have:=Cw x Q;omega
   have u:=Zh m Cw;have b1:=λj hj=>ZX m (j:=j) (k:=20) hj
   have a6:∀k,k<=20->Ik m (k+1)<0->1048576<I7 m:=λk c7 M=>by
    have h3:2 ^ k<Cg m k:=by
     rw[TU,WB] at M;omega
    have h4:=b1 k c7 h3;rw[u] at h4;have e:(2:Nat)^ 20=1048576:=Q5
    omega
   have a5:0<=Ik m 21->I7 m<=1048576:=λh=>by
    show I7 m<=1048576
    have h5:Ik m 21=2 ^ 20-(Cg m 20:Int):=rfl;rw[u] at h5;have e:(2:Int)^ 20=1048576:=Q5
    omega
   have z:∀k,m.count k<=258:=λk=>BU Mq Q0
   have a8:=zsu m;have a1:m.count 0=0:=List.count_eq_zero.2 λh=>by have:=Cw 0 h;omega
   have a7:Ik m 1=1:=rfl;have q:=zpm m;have n:Ik m 0=1:=rfl;obtain⟨d0,d1⟩:=K.1 i;generalize NQ l=T at*
   generalize K8 l=mx at*
   obtain⟨A,Z,rfl,y,a3⟩:=f.shape;obtain⟨N,g⟩:=Qe l.length;have a4:=Uw m;generalize Ia m=C at*
   have c0:=Aa a6;have b9:=Aa a5;have b8:=Aa z;have c3:=Aa a8;have b4:=Aa a1;have c2:=Aa q;have b7:=Aa a4;have U:=Aa n;have c1:=Aa a7;generalize b3:I7 m=b2 at*
   rw[g] at E b0 s r O y |-;clear f p B K i L H d Cw c6 u b1 a6 a5 z a8 a1 q a4 n a7 b3 g hl
   go_enter Tryz.func31,Tryz.ntmps31
   go_wp2_with fail
   refine s.out.mono ?_;rintro e J ⟨rfl,rfl⟩
   go_wp2_with fail
   refine r.out.mono ?_;rintro e J ⟨rfl,rfl⟩
   go_wp2_with fail
   refine O.out.mono ?_;rintro e w1 ⟨rfl,a2⟩;clear s r O
   go_wp2_with fail
   go_loopw [3,26] (λlv S wr=>∃k:Nat,k<=21/\S=Qi k/\lv=Qi (Ik m k)/\0<=Ik m k/\Hid (wr=w1)) (λ_ S _=>21-(intOf S).toNat)
   case atStart=>exact⟨0,BI _,rfl,by rw[U.out],by rw[U.out];omega,Aa rfl⟩
   case round =>
    obtain⟨k,u,rfl,rfl,n,I⟩:=hrel;have q:=c2.out k u n
    by_cases M:k<21
    ·have t:=zk2 C k _ M (b7.out k M)
     have z:=b8.out k;rcases IP k with rfl|d2
     ·rw[b4.out] at t
      have d3:∀W,(Instr.index 163 (.agg C) (Qi 0)).run Tryz.prog W=.ok (Qi 0) W:=t;clear t;have e0:Ik m 0=1:=U.out;have e1:Ik m 1=1:=c1.out;rw[e0];have a0:=Aa e1;clear e0 e1 n q z
      go_wp2_with fail
      go_roundw
      case rel=>exact⟨1,Q0,rfl,by rw[a0.out],by rw[a0.out];omega,I⟩
      case measure=>simp[intOf]
     ·obtain⟨j,rfl⟩:∃j,k=j+1:=⟨k-1,Q0⟩
      have D:=c3.out j;have X:=c0.out (j+1) Q0
      obtain⟨a,P⟩:=Qe (Ik m (j+1));obtain⟨c,d⟩:=Qe (m.count (j+1));obtain⟨b,G⟩:=Qe (Ik m (j+1+1));rw[P,d] at D;rw[show Ik m (j+2)=b from G] at D
      rw[G] at X;rw[d] at t z;rw[P] at n q |-;have Y:=Aa G;have V:=Aa D;have c5:b=a*2-(c:Int):=D;have c4:=Aa X;have c9:decide ((0:Int)<(j:Int)+1)=true:=by rw[Fj];omega
      have d4:∀W,(Instr.index 163 (.agg C) (Qi ((j:Int)+1))).run Tryz.prog W=.ok (Qi (c:Int)) W:=t;clear P d G D X c5 t
      by_cases c8:a*2-(c:Int)<0
      ·have h6:Hid (1048576<b2):=c4.out (by rw[V.out];exact c8)
       go_wp2_with fail
       go_ret
       exact⟨JD (b6.out h6.out).symm,by rw[I.out];exact a2⟩
      ·go_wp2_with fail
       go_roundw
       case rel=>exact⟨j+1+1,Q0,by go_num,by rw[Y.out,V.out],by rw[Y.out,V.out];omega,I⟩
       case measure=>simp[intOf];omega
    ·obtain rfl:k=21:=Q0
     have h7:=Aa (b9.out n);clear n q
     go_wp2_with fail
     go_ret
     exact⟨JD (b5.out h7.out).symm,by rw[I.out];exact a2⟩
  ·have d:KV l=1:=by unfold KV;rw[if_pos (.inr (.inr i))]
   rw[d];have a9:¬ (1<=NQ l/\K8 l<=20):=λh=>i (K.2 h);generalize NQ l=T at*
   generalize K8 l=mx at*
   obtain⟨A,Z,rfl,y,a3⟩:=f.shape;obtain⟨N,g⟩:=Qe l.length;rw[g] at E b0 s r y |-;clear f p B K i d g hl
   by_cases h1:T<1
   ·clear r a9
    go_enter Tryz.func31,Tryz.ntmps31
    go_wp2_with fail
    refine s.out.mono ?_;rintro e J ⟨rfl,rfl⟩
    go_wp2_with fail
    go_ret
    exact⟨rfl,Ag _ _⟩
   ·have h3:20<mx:=Q0
    have h4:1<=T:=Q0
    clear a9 h1
    go_enter Tryz.func31,Tryz.ntmps31
    go_wp2_with fail
    refine s.out.mono ?_;rintro e J ⟨rfl,rfl⟩
    go_wp2_with fail
    refine r.out.mono ?_;rintro e J ⟨rfl,rfl⟩
    go_wp2_with fail
    go_ret
    exact⟨rfl,Ag _ _⟩
def DA(n:Nat):List Int:=if h:n=0 then[] else(((n-1)%2:Nat):Int)::DA ((n-1)/ 2)
termination_by n
decreasing_by omega
theorem Uf:DA 0=[]:=by rw[DA];rfl
theorem U6(h:0<n):DA n=(((n-1)%2:Nat):Int)::DA ((n-1)/ 2):=by rw[DA,dif_neg Q0]
def Pp(d:List Int):Prop:=∀x∈d,x=0\/x=1
theorem Uz(n:Nat):Pp (DA n):=by
 induction n using Nat.strongRecOn with
 | ind n b =>
   rcases IP n with rfl|h
   ·rw[Uf];intro x a;simp at a
   ·rw[U6 h]
    intro x a;rcases CZ.1 a with rfl|a
    ·omega
    ·exact b _ Q0 x a
theorem zjM(n:Nat):∀k,n+1<2 ^ (k+1)->(DA n).length<=k:=by
 induction n using Nat.strongRecOn with
 | ind n b =>
   intro k a;rcases IP n with rfl|h
   ·rw[Uf];simp
   ·rw[U6 h]
    cases k with
    |zero=>omega
    | succ k =>
      have:=b ((n-1)/ 2) Q0 k (by rw[Jk] at a;omega)
      simp only[Bt];omega
theorem VD(n:Nat)(h:n<9223372036854775808):(DA n).length<=63:=zjM n 63 Q0
def FW(d:List Int):Nat:=d.foldr (λx n=>2*n+x.toNat+1) 0
theorem zm4(x:Int)(d:List Int):FW (x::d)=2*FW d+x.toNat+1:=rfl
theorem Ul(n:Nat):FW (DA n)=n:=by
 induction n using Nat.strongRecOn with
 | ind n a =>
   rcases IP n with rfl|h
   ·rw[Uf];rfl
   ·rw[U6 h,zm4,a _ Q0];omega
theorem Yw(d:List Int):d.length<=FW d:=by
 induction d with
 |nil=>exact Af _
 |cons x d a=>rw[zm4,Bt];omega
def IC:Nat->List Int->List Int
 |n,[]=>DA n
 |n,x::t=>if x<=0 then IC (n+1) t else DA n++(x+1)::IC 0 t
def enc(l:List Int):List Int:=IC 0 l
def EH(a:Int)(l:List Int):Nat:=(l.takeWhile λx=>decide (x<=a)).length
theorem zkO(a:Int):EH a []=0:=rfl
theorem Rv(h:G<=g):EH g (G::l)=EH g l+1:=by simp[EH,h]
theorem Rw(h:¬ G<=g):EH g (G::l)=0:=by simp[EH,h]
theorem Ud(a:Int)(l:List Int):EH a l<=l.length:=by
 induction l with
 |nil=>exact Af _
 | cons x l b =>
   by_cases h:x<=a
   ·rw[Rv h,Bt];omega
   ·rw[Rw h];omega
theorem Z6{i:Nat}(h:i<EH g l)(a:l[i]?=some G):G<=g:=by
 induction l generalizing i with
 |nil=>simp at a
 | cons y l c =>
   by_cases b:y<=g
   ·rw[Rv b] at h
    cases i with
    |zero=>simp at a;omega
    |succ i=>exact c (i:=i) Q0 (by simpa using a)
   ·rw[Rw b] at h;omega
theorem zsT(a:l[EH g l]?=some G):g<G:=by
 induction l with
 |nil=>simp at a
 | cons y l c =>
   by_cases b:y<=g
   ·rw[Rv b] at a;exact c (by simpa using a)
   ·rw[Rw b] at a;simp at a;omega
theorem zvw(d:n<=l.length)(b:∀i x,i<n->l[i]?=some x->x<=g)(c:∀x,l[n]?=some x->g<x):EH g l=n:=by
 rcases KJ (EH g l) n with h|h|h
 ·have a:l[EH g l]?=some l[EH g l]:=Az Q0
  have:=zsT a;have:=b _ _ h a;omega
 ·exact h
 ·have e:=Ud g l
  have a:l[n]?=some l[n]:=Az Q0
  have:=Z6 h a;have:=c _ a;omega
def OP:List Int->List Int
 | []=>[]
 |x::t=>(x+1)::enc t
theorem zwL(l:List Int):∀n,IC n l=DA (n+EH 0 l)++OP (l.drop (EH 0 l)):=by
 induction l with
 |nil=>intro n;simp[IC,zkO,OP]
 | cons x l a =>
   intro n
   by_cases h:x<=0
   ·rw[Rv h,IC,if_pos h,a]
    rw[show n+1+EH 0 l=n+(EH 0 l+1) by omega,List.drop_succ_cons]
   ·rw[Rw h,IC,if_neg h];rfl
theorem ztM(l:List Int):enc l=DA (EH 0 l)++OP (l.drop (EH 0 l)):=by
 have:=zwL l 0;rw[DC] at this;exact this
theorem zyn(l:List Int):∀n,(IC n l).length<=n+l.length:=by
 induction l with
 |nil=>intro n;have:=Yw (DA n);rw[Ul] at this;simpa [IC] using this
 | cons x l a =>
   intro n;rw[IC];split
   ·have:=a (n+1);simp only[Bt];omega
   ·have:=a 0
    have b:=Yw (DA n);rw[Ul] at b;simp only[AJ,Bt];omega
theorem XA(l:List Int):(enc l).length<=l.length:=by have:=zyn l 0;unfold enc;omega
def Fa(n:Nat):List Int:=List.replicate n 0
def K3:List Int->List Int->List Int
 |d,[]=>Fa (FW d)
 |d,x::t=>if x<=1 then K3 (d++[x]) t else Fa (FW d)++(x-1)::K3 [] t
def dec(m:List Int):List Int:=K3 [] m
def Nz:List Int->List Int
 | []=>[]
 |x::t=>(x-1)::dec t
theorem zxZ(l:List Int):∀d,K3 d l=Fa (FW (d++l.take (EH 1 l)))++Nz (l.drop (EH 1 l)):=by
 induction l with
 |nil=>intro d;simp[K3,zkO,Nz]
 | cons x l a =>
   intro d
   by_cases h:x<=1
   ·rw[Rv h,K3,if_pos h,a]
    simp
   ·rw[Rw h,K3,if_neg h];simp[Nz,dec]
theorem zzF(l:List Int):dec l=Fa (FW (l.take (EH 1 l)))++Nz (l.drop (EH 1 l)):=by
 have:=zxZ l [];rw[C6] at this;exact this
theorem OA(n:Nat):(Fa n).length=n:=by simp[Fa]
theorem zur(a b:Nat):Fa (a+b)=Fa a++Fa b:=by unfold Fa;exact(List.replicate_append_replicate).symm
def MS(n:Int)(s:Int):Bool:=decide (s<0) ||decide (n<=s)
theorem zwU(s n:Int)(b:Nat)(W:World)(c:Qc W b 0 (Qi n)):Qk 171 #[Qi s,Qp b 0] W λe a=>e=.returned (.bool (MS n s))/\W=a:=by
 unfold MS;rcases h1:decide (s<0) with _|_<;>rcases h2:decide (n<=s) with _|_<;>
 ·go_enter Tryz.func171,Tryz.ntmps171
  go_wp2
  go_ret
  exact⟨rfl,rfl⟩
theorem zoZ:Enters Tryz.prog 171:=enters_of Tryz.func171 Q2 rfl
theorem zvj(w:World)(v:Value)(l:List Int)(n:Int)(d:Ac w w.heap.size v l)(j:l.length<=1000000) :
 Qk 118 #[v,Qi n] w λe k=>e=.returned (.bool (l.any (MS n)))/\Qb w k:=by
 obtain⟨a,f⟩:=Qe (w.alloc (.cells #[Qi n] 3));have h:Qb w a:=by rw[<-f];exact(Ag _ _).alloc (Af _) _
 have g:Qc a w.heap.size 0 (Qi n):=by rw[<-f];exact Ae (Am _ _ _ rfl) 0
 have s:a.heap.size=w.heap.size+1:=by rw[<-f];simp
 have C:=Aa (O1 a v l (MS n) 171 #[.pointer (some ⟨w.heap.size,0,none⟩)] zoZ (DS d h) Q0 (λx _ i c=>zwU x n w.heap.size i ((c.cell (p:=⟨w.heap.size,0,none⟩) Q4).trans g)))
 obtain⟨A,m,rfl,q,r⟩:=d.shape;generalize l.any (MS n)=b at*
 have Cw:=Cw;clear d j g
 go_enter Tryz.func118,Tryz.ntmps118
 go_wp2_with fail
 refine C.out.mono ?_;rintro e o ⟨rfl,c⟩
 go_wp2_with fail
 go_ret
 exact⟨rfl,h.trans (c.mono Q0)⟩
def IZ(l:List Nat)(m:List Nat):Nat:=(m.map λs=>l[s]?.getD 0).sum
theorem zrx(l m:List Nat)(k s:Nat)(h:m[k]?=some s):IZ l (m.take (k+1))=IZ l (m.take k)+l[s]?.getD 0:=by
 unfold IZ;rw[G7,h];simp
theorem zyg(l m:List Nat)(a:JX l):IZ l m<=20*m.length:=by
 unfold IZ
 induction m with
 |nil=>simp
 | cons s m b =>
   rw[Dz,IL,Bt]
   have:l[s]?.getD 0<=20:=by
    cases h:l[s]? with
    |none=>simp
    |some x=>exact(a x (Cn h)).2
   omega
theorem zql(w:World)(v u:Value)(l m:List Nat)(d:Ac w w.heap.size v (ints l))(c:Ac w w.heap.size u (ints m))(h:Code l)(C:m.length<=1000000)(a:∀s∈m,s<l.length) :
 Qk 119 #[v,u] w λe t=>e=.returned (.tuple #[Qi (IZ l m:Nat),Qi 0])/\Qb w t:=by
 have f:=Aa (RI w v (ints l) d (by rw[Bj];have:=h.most;omega))
 rw[h.ok] at f
 have K:(ints m).any (MS (l.length:Nat))=false:=by
  rw[GR];intro x b;simp only[ints,C8] at b;obtain⟨s,X,rfl⟩:=b;have:=a s X;simp[MS];omega
 have g:Hid (∀W,Qb w W->Qk 118 #[u,Qi (l.length:Nat)] W λe t=>e=.returned (.bool false)/\Qb W t):=λW R=>by
  have:=zvj W u (ints m) (l.length:Nat) (DS c R) (by rw[Bj];exact C)
  rw[K] at this;exact this
 have J:=h.fits;have Z:=h.most;obtain⟨A,ca,rfl,E,F⟩:=d.shape;obtain⟨a2,a3,rfl,G,a4⟩:=c.shape;rw[Bj] at d E f G c g |-;rw[Bj] at*
 obtain⟨N,q⟩:=Qe l.length;obtain⟨M,p⟩:=Qe m.length;rw[q] at d E f g a Z |-;rw[p] at G c g C |-;have B:=Aa q;have n:=Aa p;have Q:=Aa d;have P:=Aa c;have y:=Aa J;have L:=Aa a;clear d c q p J a K h
 go_enter Tryz.func119,Tryz.ntmps119
 go_wp2_with fail
 refine f.out.mono ?_;rintro e w1 ⟨rfl,i⟩
 go_wp2_with fail
 refine(g.out _ i).mono ?_;rintro e V ⟨rfl,D⟩;have j:=Aa (i.trans (D.mono i.size));clear i D f g
 go_wp2_with fail
 go_loopw [4,20] (λU r wr=>V=wr/\∃k z:Nat,k<=M/\r=Qi k/\U=Qi z/\Hid (IZ l (m.take k)=z)) (λ_ r _=>M+1-(intOf r).toNat)
 case atStart=>exact⟨rfl,0,0,BI _,rfl,rfl,rfl⟩
 case round =>
  obtain⟨rfl,k,z,hk,rfl,rfl,o⟩:=hrel
  by_cases H:k<M
  ·obtain⟨s,a⟩:∃s,m[k]?=some s:=⟨_,Az (by rw[n.out];exact H)⟩
   have I:=L.out s (Cn a);obtain⟨x,b⟩:∃x,l[s]?=some x:=⟨_,Az (by rw[B.out];exact I)⟩
   have a6:=(y.out x (Cn b)).2;obtain⟨a0,a1,rfl,hg,S⟩:=(Q.out.below j.out (Af _)).at s (by rw[Bj,B.out];exact I)
   obtain⟨g2,o2,rfl,a5,F⟩:=(P.out.below j.out (Af _)).at k (by rw[Bj,n.out];exact H)
   rw[show(ints l)[s]?.getD 0=(x:Int) by simp[ints,b]] at S
   rw[show(ints m)[k]?.getD 0=(s:Int) by simp[ints,a]] at F
   have Y:=zyg l (m.take k) y.out;rw[o.out,BO] at Y
   have O:Hid (IZ l (m.take (k+1))=z+x):=by
    show _=_
    rw[zrx l m k s a,o.out,b];rfl
   clear a b
   go_wp2_with fail
   go_roundw
   case rel=>exact⟨trivial,k+1,z+x,Q0,by go_num,by go_num,O⟩
   case measure=>simp[intOf];omega
  ·obtain rfl:k=M:=Q0
   have T:Hid (IZ l m=z):=by
    have:=o.out;rw[BR (by rw[n.out];exact Af _)] at this
    exact this
   go_wp2_with fail
   go_ret2
   exact⟨by rw[T.out];rfl,j.out⟩
