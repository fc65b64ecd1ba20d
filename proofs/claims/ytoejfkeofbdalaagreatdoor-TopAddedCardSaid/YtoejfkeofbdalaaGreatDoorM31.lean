import Derived.Test.YtoejfkeofbdalaaGreatDoorM28
set_option linter.all false
set_option maxRecDepth 100000
set_option maxHeartbeats 8000000
namespace Go.Proofs.YtoejfkeofbdalaaGreatDoor
open Go.RowKit
variable {A:Option Addr} {T t:ByteArray} {a b i j k m n:Nat} {e:List UInt8} {l:List Int} {u v w:World} {x y:Value}
theorem zjQ(w:World)(v:Value)(b:List Int)(p:Int->Bool)(k:Nat)(z:Array Value)(J:Enters Tryz.prog k)(d:Ac w w.heap.size v b)(Q:b.length<=281474976710656)
 (s:∀x∈b,∀W,Qb w W->Qk k (#[Qi x]++z) W λe H=>e=.returned (.bool (p x))/\Qb W H) :
 Qk 142 #[v,.func (.func k) #[] z] w λe L=>e=.returned (Qi (JK p b))/\Qb w L:=by
 obtain⟨A,R,rfl,O,U⟩:=d.shape;obtain⟨N,n⟩:=Qe b.length;rw[n] at d O |-;have G:=Aa d;have F:=Aa s;have m:=Aa n;have V:N<=281474976710656:=Q0
 clear d s n Q;have P:=J;unfold Enters at P
 go_enter Tryz.func142,Tryz.ntmps142
 go_wp2
 go_loopw [8] (λi wr=>∃j:Nat,j<=N/\i=Qi j/\Hid (∀i y,i<j->b[i]?=some y->p y=false)/\Qb w wr) (λi _=>N+1-(intOf i).toNat)
 case atStart=>exact⟨0,BI _,rfl,λi y h=>by omega,Ag _ _⟩
 case round =>
  obtain⟨j,T,rfl,r,c⟩:=hrel
  by_cases E:j<N
  ·obtain⟨g,o,rfl,I,f⟩:=G.out.at j (by rw[m.out];exact E)
   obtain⟨x,l⟩:∃x,b[j]?=some x:=⟨_,Az (by rw[m.out];exact E)⟩
   rw[l] at f;simp only[Es] at f;have X:Qc wr g (o+j) (Qi x):=(c.cell (p:=⟨g,o+j,none⟩) I).trans f;have C:=Aa (F.out x (Cn l) wr c);have u:=Aa l;obtain⟨K,q⟩:=Qe (p x);rw[q] at C;have t:=Aa q;clear f l q
   go_wp2_with fail
   refine C.out.mono ?_;rintro e M ⟨rfl,B⟩;have D:Qb w M:=c.trans (B.mono c.size);clear B;cases K with
   | true =>
     go_wp2_with fail
     go_ret
     exact⟨JD (zks u.out t.out r).symm,D⟩
   | false =>
     go_wp2_with fail
     go_roundw
     case rel=>exact⟨j+1,Q0,by go_num,λi y S a=>(by
      by_cases e:i=j
      ·subst e;rw[u.out] at a;injection a with a;subst a;exact t.out
      ·exact r i y Q0 a),D⟩
     case measure=>simp[intOf];omega
  ·obtain rfl:j=N:=Q0
   go_wp2
   go_ret
   refine⟨JD (znr λi y a=>r i y ?_ a).symm,c⟩;rw[<-m.out];exact(Cc.1 a).1
theorem zhc(w:World)(v:Value)(a:List Int)(p:Int->Bool)(k:Nat)(b:Array Value)(j:Enters Tryz.prog k)(f:Ac w w.heap.size v a)(m:a.length<=281474976710656)
 (c:∀x∈a,∀W,Qb w W->Qk k (#[Qi x]++b) W λe h=>e=.returned (.bool (p x))/\Qb W h) :
 Qk 82 #[v,.func (.func k) #[] b] w λe l=>e=.returned (.bool (a.any p))/\Qb w l:=by
 have C:=Aa (zjQ w v a p k b j f m c);have d:=zvP p a;generalize JK p a=z at*
 have g:=Aa d;clear c f d
 go_enter Tryz.func82,Tryz.ntmps82
 go_wp2_with fail
 refine C.out.mono ?_;rintro e n ⟨rfl,i⟩
 go_wp2_with fail
 go_ret
 exact⟨RT g.out,i⟩
def AX(w:World)(b:Nat)(A:ByteArray)(o:Nat)(d:Value)(e:Nat)(c:Value)(a:ByteArray):Prop:=w.heap[b]?=some (.cells #[.string A,Qi (o:Nat),d,Qi (e:Nat),c,.string a] 438 (0,0))
theorem AX.below(h:AX w n t m x k y T)(a:Qb w v):AX v n t m x k y T:=(a.block n (Aj h)).trans h
theorem WU(a:Int)(w:World):Qk 316 #[Qi a] w λe b=>e=.returned (Qi a)/\w=b:=by
 go_enter Tryz.func316,Tryz.ntmps316
 go_wp2_with fail
 go_ret
 exact⟨rfl,rfl⟩
theorem znm(w:World):Qk 320 #[Qi 0] w λe a=>e=.returned (Qi 0)/\w=a:=by
 go_enter Tryz.func320,Tryz.ntmps320
 go_wp2_with fail
 go_ret
 exact⟨rfl,rfl⟩
theorem zse(w:World)(b o u:Nat)(A i:ByteArray)(n m:Value)(h:AX w b A o n u m i)(c:A.data.toList≠[])(d:Bq A.data.toList=A.data.toList)(l:A.size<=1000000) :
 Qk 315 #[Qp b 0] w λe a=>e=.returned (Qi 0)/\Qb w a:=by
 have g:Hid (∀W,Qk 32 #[.string A] W λe a=>e=.returned (.string A)/\Qb W a):=λW=>by
  have:=VJ W A l;rw[d] at this;exact this
 have v:(A.toList.isEmpty)=false:=by rw[SH];intro e;exact c (by simpa [SX] using e)
 have k:=Aj h;have j:=(Ae h 0).trans rfl;have r:Hid (∀a:World,Qb w a->Qb w a/\Qc a b 0 (.string A)):=λa f=>⟨f,(f.cell (p:=⟨b,0,none⟩) k).trans j⟩;have x:Qb w w:=Ag _ _;clear h c d
 go_enter Tryz.func315,Tryz.ntmps315
 go_wp2_with fail
 go_region_held3 (λa=>Qb w a/\Qc a b 0 (.string A))
  ((refine r.out _ ?_;first|assumption|exact Cq Q3|exact Bh Q3|exact A9 Q3 (Bh Q3)|fail))
  ((first
    |(go_at_call 32
      refine(g.out _).mono ?_;rintro e q ⟨rfl,s⟩;have t:Qb w q:=A9 s (Bh Q3))
    |fail))
 go_wp2_with fail
 go_ret
 exact⟨rfl,t⟩
theorem zkn{u z:Value}(h:Ac w n x l)(B:Qc w m k z)(t:∀b,z≠Qi b):Ac (w.setCell ⟨m,k,none⟩ u) n x l:=by
 obtain⟨f,A,C,v,j,p,q⟩:=h;refine⟨f,A,C,v,j,p,λD=>?_⟩;obtain⟨g,o,r,s,d⟩:=q D;refine⟨g,o,r,s,λi y a=>?_⟩;rw[SI]
 ·exact d i y a
 ·intro e
  have c:=d i y a;rw[<-e,B] at c;cases c
  rw[getElem?_intCells] at a;cases hz:l[i]? with
  |none=>rw[hz] at a;simp at a
  | some b =>
    rw[hz] at a;exact t b (by simpa using a.symm)
theorem zn2(h:Ac w n x l):Ac w.drew n x l:=h
def Qz(n:Nat)(x:Int):Bool:=decide (x<0) ||decide (((n+1:Nat):Int)<=x)
theorem zq3(w:World)(k b o B:Nat)(A q:ByteArray)(l y:Value)(x:Int)(h:AX w b A o l B y q)(C:Qc w k 0 (Qp b 0))(v:A.size<=1000000) :
 Qk 338 #[Qi x,Qp k 0] w λe m=>e=.returned (.bool (Qz A.size x))/\Qb w m:=by
 have d:=Aa λW=>Ui A o l W v;have s:=(Ae h 0).trans rfl;have t:=(Ae h 1).trans rfl;have u:=(Ae h 2).trans rfl;obtain⟨r,a⟩:=Qe (Qz A.size x);rw[a];unfold Qz at a;obtain⟨z,n⟩:=Qe (A.size+1);rw[n] at a d;have g:=Aa a;clear h a n
 go_enter Tryz.func338,Tryz.ntmps338
 by_cases c:x<0
 ·have f:decide (x<0)=true:=Bl c
  have j:r=true:=by rw[<-g.out,f];rfl
  subst j;clear c
  go_wp2_with fail
  go_ret
  exact⟨rfl,Ag _ _⟩
 ·have f:decide (x<0)=false:=AV c
  have j:decide ((z:Int)<=x)=r:=by rw[<-g.out,f];rfl
  clear c
  go_wp2_with fail
  refine(d.out _).mono ?_;rintro e m ⟨rfl,i⟩;have p:=Aa i;clear i d s t u
  go_wp2_with fail
  go_ret
  exact⟨rfl,p.out⟩
theorem zlp:Enters Tryz.prog 338:=enters_of Tryz.func338 Q2 rfl
theorem zxm(w:World)(b o J n m c:Nat)(q:Option Addr)(A y:ByteArray)(q0:Option Addr)(l0 c0:Nat)(k:List Int)(h:AX w b A o (.slice q m c) J (.slice q0 l0 c0) y)(T:Ac w w.heap.size (.slice q m c) (k++[((A.size+1:Nat):Int)]))(M:k.length=n)(hm:n+1=m)
 (V:∀x∈k,0<=x/\x<=A.size) (U:A.size<=1000000) (c9:n<=1000000) :
 Qk 317 #[Qp b 0] w λe a=>e=.returned (Qi 0)/\∃f d,AX a b A o (.slice q m c) J (.slice f n d) y/\Ac a a.heap.size (.slice f n d) k/\Ab b w a:=by
 have Cw:=Cw;have hb:=Aj h;have F:Qb w (w.alloc (.cells #[Qp b 0] 441)):=(Ag _ _).alloc (Af _) _;have H:Qg (w.alloc (.cells #[Qp b 0] 441)) w.heap.size #[.pointer (some ⟨b,0,none⟩)] 441:=Am _ _ _ rfl;have t:=h.below F;have O:=DS T F;have a4:=O;obtain⟨v2,I,⟨f,d,a9⟩,-,-,hcut⟩:=O.cut 0 n (BI _) Q0
 rw[Nat.sub_zero] at a9;subst a9;have hcut:=hcut rfl;have a5:((k++[((A.size+1:Nat):Int)]).take n).drop 0=k:=by rw[Ni,List.take_left' M]
 rw[a5] at I;obtain⟨l,r,rfl,b8,K⟩:=a4.at n Q4
 rw[F7 Q0,M,Ow,Lh,Es] at K
 have L:=Aa λW=>Ui A o (Qs l r m c) W U;obtain⟨X,a8⟩:=Qe (A.size+1);rw[a8] at K L
 have a6:k.any (Qz A.size)=false:=by
  rw[GR];intro x c1;have:=V x c1;simp only[Qz,J5,Fj];omega
 generalize b5:w.alloc (.cells #[Qp b 0] 441)=i at*
 obtain⟨s,Q⟩:=Qe w.heap.size;rw[Q] at H;have P:=Aj t;have b9:=Aj H;have D:Hid (∀W,Qb i W->Qc W s 0 (Qp b 0)):=λW g=>(g.cell (p:=⟨s,0,none⟩) b9).trans (Ae H 0)
 have R:Hid (∀W,Qb i W->Qk 82 #[.slice f n d,.func (.func 338) #[] #[.pointer (some ⟨s,0,none⟩)]] W λe a=>e=.returned (.bool false)/\Qb W a):=λW g=>by
  have:=zhc W (.slice f n d) k (Qz A.size) 338 #[.pointer (some ⟨s,0,none⟩)] zlp (DS I g) Q0 (λx _ S a0=>zq3 S s b o J A y _ _ x (t.below (g.trans (a0.mono g.size))) (D.out S (g.trans (a0.mono g.size))) U)
  rw[a6] at this;exact this
 have z:=(Ae t 0).trans rfl;have B:=(Ae t 1).trans rfl;have C:=(Ae t 2).trans rfl;have N:=D.out i (Ag _ _)
 have E:Hid (∀a:World,Qb i a->Qb i a/\Qc a s 0 (Qp b 0)/\Qc a b 0 (.string A)/\Qc a b 1 (Qi (o:Nat))/\Qc a b 2 (Qs l r m c)/\Qc a l (r+n) (Qi (X:Nat))):=λa g =>
  ⟨g,D.out a g,(g.cell (p:=⟨b,0,none⟩) P).trans z,(g.cell (p:=⟨b,1,none⟩) P).trans B,(g.cell (p:=⟨b,2,none⟩) P).trans C,(g.cell (p:=⟨l,r+n,none⟩) b8).trans K⟩
 have b7:Qb i i:=Ag _ _;have b3:=Aa t;have b2:=Aa I;have Y:=Aa F;have c6:=Aa a8;have w1:IntKind.i64.wrap ((m:Int)-1)=(n:Int):=by rw[AU _ Q0];omega
 have d0:n<m:=Q0
 have hd:decide ((n:Int)<0)=false:=AV Q0
 have c3:=Aa hcut;clear h T a4 O V a5 a6 t I F M H z B C D hcut;have hcut:=c3.out;clear hm;clear K N;obtain⟨-,N,z,B,C,kl⟩:=E.out i b7
 go_enter Tryz.func317,Tryz.ntmps317
 go_wp2_with fail
 clear b5;have c7:=Aa Q;clear Q
 go_region_held3 (λa=>Qb i a/\Qc a s 0 (Qp b 0)/\Qc a b 0 (.string A)/\Qc a b 1 (Qi (o:Nat))/\Qc a b 2 (Qs l r m c)/\Qc a l (r+n) (Qi (X:Nat)))
  ((refine E.out _ ?_;first|assumption|exact Cq Q3|exact Bh Q3|exact A9 Q3 (Bh Q3)|fail))
  ((first
    |(go_at_call 117
      refine(L.out _).mono ?_;rintro e w8 ⟨rfl,a1⟩;have b6:Qb i w8:=A9 a1 (Bh Q3))
    |(go_at_call 82
      refine(R.out _ (Bh Q3)).mono ?_
      rintro e j ⟨rfl,a2⟩;have G:Qb i j:=A9 a2 (Bh Q3))
    |fail))
 rename_i c4
 clear c4;have v:=b3.out.below G;have d1:=(E.out j G).2.1;have j2:=(Ae v 2).trans rfl;have j4:=(Ae v 4).trans rfl;have f4:=Ah v 4;have c8:=Aj v;have b4:=Aa v;have Z:=Aa G;clear v G b6 N z B C kl E R L a2 a1
 go_wp2_with fail
 go_region
 have a7:=Ak b4.out 4 (.slice f n d);have a3:Ab b w j:=Ab.of (Y.out.trans (Z.out.mono Y.out.size))
 have c2:Hid (AX (j.setCell ⟨b,4,none⟩ (.slice f n d)).drew b A o (Qs l r m c) J (.slice f n d) y):=by
  show AX _ _ _ _ _ _ _ _
  have e:(j.setCell ⟨b,4,none⟩ (.slice f n d)).drew.heap=(j.setCell ⟨b,4,none⟩ (.slice f n d)).heap:=rfl;unfold AX;rw[e];simpa using a7
 have b1:Hid (Ab b w (j.setCell ⟨b,4,none⟩ (.slice f n d)).drew):=by
  have:=a3.set 4 (.slice f n d);exact⟨this.os,this.tape,this.output,this.size,this.block⟩
 have b0:Hid (Ac (j.setCell ⟨b,4,none⟩ (.slice f n d)).drew (j.setCell ⟨b,4,none⟩ (.slice f n d)).drew.heap.size (.slice f n d) k):=by
  have h1:=zkn (u:=.slice f n d) (DS b2.out Z.out) j4 (λc5 e=>by cases e)
  have h2:(j.setCell ⟨b,4,none⟩ (.slice f n d)).drew.heap.size=j.heap.size:=by simp[World.setCell,World.drew]
  show Ac _ _ _ _
  rw[h2];exact zn2 h1
 clear a7 a3
 go_wp2_with fail
 go_ret
 exact⟨rfl,_,_,c2.out,b0.out,b1.out⟩
theorem zpd(h:Ac v w.heap.size x l)(e:v.heap.size=w.heap.size):Ac v v.heap.size x l:=by rw[e];exact h
theorem ztP(h:AX v n t m x k (.slice A i j) T)(c:Ac v v.heap.size y l)(b:Qb w v) :
 AX (v.setCell ⟨n,4,none⟩ y) n t m x k y T/\Ac (v.setCell ⟨n,4,none⟩ y) (v.setCell ⟨n,4,none⟩ y).heap.size y l/\Ab n w (v.setCell ⟨n,4,none⟩ y):=by
 refine⟨?_,?_,(Ab.of b).set 4 _⟩
 ·have a:=Ak h 4 y
  unfold AX;simpa using a
 ·exact zpd (zkn c ((Ae h 4).trans rfl) (λz e=>by cases e)) (by simp[World.setCell])
theorem znS(a:ByteArray)(h:AX v n t m x k y T)(c:Qb w v) :
 AX (v.setCell ⟨n,5,none⟩ (.string a)) n t m x k y a/\Ab n w (v.setCell ⟨n,5,none⟩ (.string a)):=by
 refine⟨?_,(Ab.of c).set 5 _⟩;have b:=Ak h 5 (.string a);unfold AX;simpa using b
theorem zs5(w:World)(b o d n c:Nat)(q:Option Addr)(A m:ByteArray)(y:Value)(f g:List Int)(h:AX w b A o y d (.slice q n c) m)(v:Ac w w.heap.size (.slice q n c) f)(O:f.length<=1000000)(K:JL f)(P:d<=1000000)
 (x:K5 f d=g) (t:K4 f d=0) :
 Qk 318 #[Qp b 0] w λe a=>e=.returned (Qi 0)/\∃l j,AX a b A o y d (.slice l g.length j) m/\Ac a a.heap.size (.slice l g.length j) g/\Ab b w a:=by
 have D:Hid (∀W,Qb w W->Qk 339 #[.slice q n c,Qi (d:Nat)] W λe a=>∃u,e=.returned (.tuple #[u,Qi 0])/\Ad a W.heap.size u g/\Qb W a):=λW J=>by
  have:=zrF W (.slice q n c) f (d:Nat) (DS v J) Q0 K Q0 Q0
  rw[x,t] at this;exact this
 have R:=(Ae h 3).trans rfl;have S:=(Ae h 4).trans rfl;have I:=Aa h;clear h v x t
 go_enter Tryz.func318,Tryz.ntmps318
 go_wp2_with fail
 have C:Qb w w:=Ag _ _
 go_region_with ((go_at_call 339
                  refine(D.out _ C.drew).mono ?_;rintro e L ⟨u,rfl,k,B⟩;obtain⟨l,j,rfl⟩:=k.shape;have H:=Aa k;have z:Hid (Qb w L):=A9 B C.drew;have i:=I.out.below z.out;have Q:=(Ae i 4).trans rfl;have N:=Ah i 4;have T:=Aj i;have M:=Aa i;clear k B i))
 all_goals
  obtain⟨p,r,s⟩:=ztP M.out (Ad.is H.out) z.out;have E:=Aa p;have F:=Aa r;have G:=Aa s;clear p r s
  go_wp2_with fail
  go_ret
  exact⟨rfl,_,_,E.out,F.out,G.out⟩
theorem zy4(w:World)(b o s n c:Nat)(q:Option Addr)(A y T:ByteArray)(l:Value)(a:List Int)(h:AX w b A o l s (.slice q n c) y)(j:Ac w w.heap.size (.slice q n c) a)(D:a.length=n)(N:0<n)(C:a.length<=1000000)(G:0<A.size)(z:A.size<=1000000)
 (k:Kw A.data.toList a=(T.data.toList,0)) :
 Qk 319 #[Qp b 0] w λe f=>e=.returned (Qi 0)/\AX f b A o l s (.slice q n c) T/\Ab b w f:=by
 have t:Hid (∀W,Qb w W->Qk 29 #[.string A,.slice q n c] W λe f=>e=.returned (.tuple #[.string T,Qi 0])/\Qb W f):=λW B=>by
  have:=zl7 A (.slice q n c) a W (DS j B) G z C;rw[k] at this;exact this
 have K:=(Ae h 0).trans rfl;have L:=(Ae h 4).trans rfl;have H:((n:Int)==0)=false:=by simp;omega
 have x:=Aa h;clear h j k D
 go_enter Tryz.func319,Tryz.ntmps319
 go_wp2_with fail
 have r:Qb w w:=Ag _ _
 go_region_with ((go_at_call 29
                  refine(t.out _ r.drew).mono ?_;rintro e E ⟨rfl,p⟩;have m:Hid (Qb w E):=A9 p r.drew;have d:=x.out.below m.out;have J:=(Ae d 5).trans rfl;have I:=Ah d 5;have M:=Aj d;have F:=Aa d;clear p d))
 all_goals
  obtain⟨g,i⟩:=znS T F.out m.out;have u:=Aa g;have v:=Aa i;clear g i
  go_wp2_with fail
  go_ret
  exact⟨rfl,u.out,v.out⟩
theorem zxs(w:World)(b o p:Nat)(A a:ByteArray)(l k:Value)(h:AX w b A o l p k a)(u:a.size<=1000000)(t:o<max a.size 1) :
 Qk 321 #[Qp b 0] w λe d=>e=.returned (Qi 0)/\AX d b A o l p k ⟨(JI (DE a) o).toArray⟩/\Ab b w d:=by
 have f:Hid (∀W,Qk 30 #[.string a,Qi (o:Nat)] W λe d=>e=.returned (.tuple #[.string ⟨(JI (DE a) o).toArray⟩,Qi 0])/\Qb W d):=λW=>zni a o W u t;obtain⟨T,j⟩:=Qe (⟨(JI (DE a) o).toArray⟩:ByteArray);rw[j] at f |-;have C:=(Ae h 1).trans rfl;have D:=(Ae h 5).trans rfl;have s:=Aa h;clear h j
 go_enter Tryz.func321,Tryz.ntmps321
 go_wp2_with fail
 have y:Qb w w:=Ag _ _
 go_region_with ((go_at_call 30
                  refine(f.out _).mono ?_;rintro e v ⟨rfl,n⟩;have m:Hid (Qb w v):=A9 n y.drew;have c:=s.out.below m.out;have B:=(Ae c 5).trans rfl;have z:=Ah c 5;have E:=Aj c;have x:=Aa c;clear n c))
 all_goals
  obtain⟨g,i⟩:=znS T x.out m.out;have q:=Aa g;have r:=Aa i;clear g i
  go_wp2_with fail
  go_ret
  exact⟨rfl,q.out,r.out⟩
theorem zAl(t:Value)(w:World):Qk 322 #[.nilIface,t] w λe a=>e=.returned (.bool false)/\w=a:=by
 go_enter Tryz.func322,Tryz.ntmps322
 go_wp2_with fail
 go_ret
 exact⟨rfl,rfl⟩
abbrev Fq(k:Nat):Value:=.func (.func k) #[] #[]
structure NW(b sb:Nat)(P:Nat->World->Prop)(i F G:Nat):Prop where
 f:Enters Tryz.prog F
 g:Enters Tryz.prog G
 fs:∀W,P i W->Qk F #[Qp b 0] W λe w'=>e=.returned (Qi 0)/\P (i+1) w'/\Ab b W w'
 gs:∀W,Qk G #[Qi 0] W λe w'=>e=.returned (Qi 0)/\W=w'
 c0:∀W,P i W->Qc W sb (i*2) (Fq F)
 c1:∀W,P i W->Qc W sb (i*2+1) (Fq G)
theorem zAA(w:World)(b H n a1:Nat)(P:Nat->World->Prop)(p:List (Nat × Nat))(R:p.length=n)(hn:n<=1000)(z:∀i W,P i W->b<W.heap.size)(S:∀(i:Nat)(s:Nat × Nat),p[i]?=some s->NW b H P i s.1 s.2)(m:∀i W u,P i W->Qb W u->P i u)(v:P 0 w) :
 Qk 314 #[Qp b 0,Qs H 0 n a1] w λe a=>e=.returned .nilIface/\P n a:=by
 have a0:=Aa R;have T:=Aa S;have t:=Aa m;have c:=Aa v;have Y:=Aa z;clear R S m v z
 go_enter Tryz.func314,Tryz.ntmps314
 go_wp2_with fail
 go_loopw [10] (λo wr=>∃i:Nat,i<=n/\o=Qi (i:Nat)/\Hid (P i wr)) (λo _=>n+1-(intOf o).toNat)
 case atStart=>exact⟨0,BI _,rfl,c⟩
 case round =>
  clear c;obtain⟨i,hi,rfl,c⟩:=hrel
  by_cases a3:i<n
  ·obtain⟨⟨F,G⟩,C⟩:∃s,p[i]?=some s:=⟨_,Az (by rw[a0.out];exact a3)⟩
   have d:=T.out i _ C;have D:=d.c0 wr c.out;have E:=d.c1 wr c.out;have x:=d.f;have y:=d.g;simp only at D E x y;unfold Enters at x y;have J:=Aa d;have a2:=Y.out i wr c.out;clear d C;have w1:IntKind.i64.wrap ((i:Int)+1)=((i+1:Nat):Int):=by rw[AU _ Q0];omega
   have L:Qb wr (wr.alloc (.cells #[Fq F,Fq G] 445)):=(Ag _ _).alloc (Af _) _;have j:Qg (wr.alloc (.cells #[Fq F,Fq G] 445)) wr.heap.size #[Fq F,Fq G] 445:=Am _ _ _ rfl;have M:=t.out i wr _ c.out L;obtain⟨l,N⟩:=Qe wr.heap.size;have K:=Aa M;clear M L
   go_wp2_with fail
   rw[N] at j a2;generalize wr.alloc (.cells #[Fq F,Fq G] 445)=f at*
   clear N c;have U:=(Ae j 0).trans rfl;have V:=(Ae j 1).trans rfl;have q:Hid (∀W,Qb f W->Qk F #[Qp b 0] W λe a=>e=.returned (Qi 0)/\P (i+1) a/\Ab b W a):=λW m=>J.out.fs W (t.out i _ _ K.out m);have r:=Aa J.out.gs;have I:=Aa j;have g:Qb f f:=Ag _ _
   have A:∀a,Ab b f a->Qc a l 0 (Fq F)/\Qc a l 1 (Fq G):=λa h=>by
    have:=h.other I.out Q0
    exact⟨(Ae this 0).trans rfl,(Ae this 1).trans rfl⟩
   have k:=Aa A;clear j D E A
   go_region_held3 (λa=>Qc a l 0 (Fq F)/\Qc a l 1 (Fq G))
    ((first|exact k.out _ (Ab.of g.drew)|exact k.out _ (Ab.of g)|exact k.out _ O|fail))
    ((first
      |(with_reducible show Qk F _ _ _
        refine(q.out _ g.drew).mono ?_;rintro e X ⟨rfl,Q,B⟩;have O:Ab b f X:=(Ab.of g.drew).trans B;have Z:=Aa Q;clear B Q)
      |(with_reducible show Qk G _ _ _
        refine(r.out _).mono ?_;rintro e w9 ⟨rfl,rfl⟩)
      |fail))
   clear U V I k q r K g O
   go_wp2_with fail
   go_roundw
   case rel=>exact⟨i+1,Q0,by go_num,Z⟩
   case measure=>simp[intOf];omega
  ·obtain rfl:i=n:=Q0
   go_wp2_with fail
   go_ret
   exact⟨rfl,c.out⟩
def Sn:Array Value:=#[Fq 315,Fq 316,Fq 317,Fq 316,Fq 318,Fq 316,Fq 319,Fq 320,Fq 321,Fq 320]
def zyA:List (Nat × Nat):=[(315,316),(317,316),(318,316),(319,320),(321,320)]
def Jn(W:World)(b:Nat)(A:ByteArray)(o:Nat)(q:Option Addr)(m c a:Nat)(p:List UInt8):Nat->Prop
 |0=>AX W b A o (.slice q m c) a (.slice none 0 0) ⟨#[]⟩/\Ac W W.heap.size (.slice q m c) (ints (BJ p))
 |1=>AX W b A o (.slice q m c) a (.slice none 0 0) ⟨#[]⟩/\Ac W W.heap.size (.slice q m c) (ints (BJ p))
 |2=>∃e d,AX W b A o (.slice q m c) a (.slice e (F4 p).length d) ⟨#[]⟩/\Ac W W.heap.size (.slice e (F4 p).length d) (ints (F4 p))
 |3=>∃e d,AX W b A o (.slice q m c) a (.slice e p.length d) ⟨#[]⟩/\Ac W W.heap.size (.slice e p.length d) (ints (FY p))
 |4=>∃f,AX W b A o (.slice q m c) a f (D5 (Gx p))
 |_=>∃f,AX W b A o (.slice q m c) a f (D5 p)
structure El(w W:World)(b sb:Nat)(A:ByteArray)(o:Nat)(q:Option Addr)(m c most:Nat)(p:List UInt8)(i:Nat):Prop where
 bel:Qb w W
 st:Qg W sb Sn 445
 at_:Jn W b A o q m c most p i
theorem Jn.below(h:Jn w n t m A k i j e a)(b:Qb w v):Jn v n t m A k i j e a:=by
 match a,h with
 |0,h=>exact⟨h.1.below b,DS h.2 b⟩
 |1,h=>exact⟨h.1.below b,DS h.2 b⟩
 |2,⟨q2,c2,h1,h2⟩=>exact⟨q2,c2,h1.below b,DS h2 b⟩
 |3,⟨q2,c2,h1,h2⟩=>exact⟨q2,c2,h1.below b,DS h2 b⟩
 |4,⟨lv,h⟩=>exact⟨lv,h.below b⟩
 |(a+5),⟨lv,h⟩=>exact⟨lv,h.below b⟩
theorem Jn.lt(h:Jn w n t m A k i j e a):n<w.heap.size:=by
 match a,h with
 |0,h=>exact Aj h.1
 |1,h=>exact Aj h.1
 |2,⟨q2,c2,h1,h2⟩=>exact Aj h1
 |3,⟨q2,c2,h1,h2⟩=>exact Aj h1
 |4,⟨lv,h⟩=>exact Aj h
 |(a+5),⟨lv,h⟩=>exact Aj h
theorem El.below(h:El w v n m t k A i j a e b)(c:Qb v u):El w u n m t k A i j a e b :=
 ⟨h.bel.trans (c.mono h.bel.size),(c.block m (Aj h.st)).trans h.st,h.at_.below c⟩
theorem El.only{c:Nat}(h:El w v n m t k A i j a e b)(d:Ab n v u)(f:w.heap.size<=n)(l:m≠n)(g:Jn u n t k A i j a e c):El w u n m t k A i j a e c :=
 ⟨d.bel h.bel f (Af _),d.other h.st l,g⟩
theorem zrm(w:World)(p:List UInt8)(a m c:Nat)(q:Option Addr)(s:p≠[])(hp:p.length<=60000)(hm:p.length<=a)(a5:a<=1000000)(a6:(BJ p).length=m)(N:Ac w w.heap.size (.slice q m c) (ints (BJ p))) :
 Qk 288 #[Vx (D5 (Bq p)) (EP p:Nat) (.slice q m c),Qi (a:Nat)] w λe l=>e=.returned (.tuple #[.string (D5 p),Qi 0])/\Qb w l:=by
 obtain⟨A,F⟩:=Qe (D5 (Bq p));have B:A.data.toList=Bq p:=by rw[<-F,JP]
 have Q:A.size=(Bq p).length:=by rw[<-F,Jo]
 have a7:=O3 p;have P:0<(Bq p).length:=Ga.2 (Nu s);obtain⟨o,O⟩:=Qe (EP p);rw[F,O];have Y:(F4 p).length+1=m:=by rw[<-a6,BJ];simp
 have Z:ints (BJ p)=ints (F4 p)++[((A.size+1:Nat):Int)]:=by rw[Q];simp[BJ,ints]
 obtain⟨t,z⟩:=Qe (((((w.alloc (.cells #[.string A,Qi (o:Nat),.slice q m c] 110)).alloc (.cells #[.string A,Qi (o:Nat),.slice q m c,Qi (a:Nat),.slice none 0 0,.string ⟨#[]⟩] 438)).alloc (.cells #[Qi 0] 439)).alloc (.cells Sn 445)));have I:Qb w t:=by rw[<-z];exact Ay (Ay (Ay (Ay (Ag _ _) _) _) _) _
 have T:AX t (w.heap.size+1) A o (.slice q m c) a (.slice none 0 0) ⟨#[]⟩:=by rw[<-z];exact Bb _ (Bb _ (Am _ _ _ Q6))
 have S:Qg t (w.heap.size+1+1+1) Sn 445:=by rw[<-z];exact Am _ _ _ Q6
 have R:El w t (w.heap.size+1) (w.heap.size+1+1+1) A o q m c a p 0:=⟨I,S,T,DS N I⟩;have K:(Gx p).length=p.length:=TA p;have V:0<p.length:=Ga.2 s
 have L:Hid (Qk 314 #[Qp (w.heap.size+1) 0,Qs (w.heap.size+1+1+1) 0 5 5] t λe l=>e=.returned .nilIface/\El w l (w.heap.size+1) (w.heap.size+1+1+1) A o q m c a p 5):=by
  refine zAA t (w.heap.size+1) (w.heap.size+1+1+1) 5 5 (λi W=>El w W (w.heap.size+1) (w.heap.size+1+1+1) A o q m c a p i) zyA rfl Q0 (λi W h=>h.at_.lt) ?_ (λi W a9 h r=>h.below r) R
  have f:∀(i j:Nat)(v:Value),Sn[j]?=some v->∀W,El w W (w.heap.size+1) (w.heap.size+1+1+1) A o q m c a p i->Qc W (w.heap.size+1+1+1) j v:=λi j v hv W h=>(Ae h.st j).trans hv;have C:w.heap.size<=w.heap.size+1:=M3 _;have D:w.heap.size+1+1+1≠w.heap.size+1:=Q0
  intro i a8 b
  match i,b with
  | 0,b =>
    cases b
    refine⟨enters_of Tryz.func315 Q2 rfl,enters_of Tryz.func316 Q2 rfl,λW h=>?_,λW=>WU 0 W,f 0 0 _ rfl,f 0 1 _ rfl⟩
    refine(zse W _ o a A _ _ _ h.at_.1 (by rw[B];exact Vn P) (by rw[B];exact Y8 p) Q0).mono ?_
    rintro e l ⟨rfl,r⟩;exact⟨rfl,⟨h.bel.trans (r.mono h.bel.size),(r.block _ (Aj h.st)).trans h.st,h.at_.1.below r,DS h.at_.2 r⟩,Ab.of r⟩
  | 1,b =>
    cases b
    refine⟨enters_of Tryz.func317 Q2 rfl,enters_of Tryz.func316 Q2 rfl,λW h=>?_,λW=>WU 0 W,f 1 2 _ rfl,f 1 3 _ rfl⟩
    refine(zxm W _ o a (F4 p).length m c q A _ none 0 0 (ints (F4 p)) h.at_.1 (by rw[<-Z];exact h.at_.2) (Bj _) Y (λa1 H=>?_) Q0 (by have:=R3 p;omega)).mono ?_
    ·obtain⟨k,G,rfl⟩:=C8.1 H
     have:=Sd p s k G;omega
    ·rintro e l ⟨rfl,y,u,n,x,d⟩
     exact⟨rfl,h.only d C D ⟨y,u,n,x⟩,d⟩
  | 2,b =>
    cases b
    refine⟨enters_of Tryz.func318 Q2 rfl,enters_of Tryz.func316 Q2 rfl,λW h=>?_,λW=>WU 0 W,f 2 4 _ rfl,f 2 5 _ rfl⟩
    obtain⟨y,u,n,x⟩:=h.at_;have X:=zvn p s a Q0
    refine(zs5 W _ o a _ u y A _ _ (ints (F4 p)) (ints (FY p)) n x (by rw[Bj];have:=R3 p;omega) (λa1 H=>?_) a5 X.1 X.2).mono ?_
    ·obtain⟨k,G,rfl⟩:=C8.1 H
     have:=Sd p s k G;omega
    ·rintro e l ⟨rfl,q3,c3,d,M,g⟩
     rw[Bj,PV] at d M;exact⟨rfl,h.only g C D ⟨q3,c3,d,M⟩,g⟩
  | 3,b =>
    cases b
    refine⟨enters_of Tryz.func319 Q2 rfl,enters_of Tryz.func320 Q2 rfl,λW h=>?_,λW=>znm W,f 3 6 _ rfl,f 3 7 _ rfl⟩
    obtain⟨y,u,n,x⟩:=h.at_;refine(zy4 W _ o a _ u y A _ (D5 (Gx p)) _ (ints (FY p)) n x (by rw[Bj,PV]) V (by rw[Bj,PV];omega) Q0 Q0 (by rw[B,JP];exact ztV p)).mono ?_
    rintro e l ⟨rfl,d,g⟩;exact⟨rfl,h.only g C D ⟨_,d⟩,g⟩
  | 4,b =>
    cases b
    refine⟨enters_of Tryz.func321 Q2 rfl,enters_of Tryz.func320 Q2 rfl,λW h=>?_,λW=>znm W,f 4 8 _ rfl,f 4 9 _ rfl⟩
    obtain⟨lv,n⟩:=h.at_;have b0:=Sb p s;refine(zxs W _ o a A _ _ _ n (by rw[Jo,K];omega) (by rw[Jo,K];omega)).mono ?_
    rintro e l ⟨rfl,d,g⟩
    have e1:(⟨(JI (DE (D5 (Gx p))) o).toArray⟩:ByteArray)=D5 p:=by
     unfold DE;rw[JP,<-O,zxv p s];rfl
    rw[e1] at d;exact⟨rfl,h.only g C D ⟨_,d⟩,g⟩
  |(i+5),b=>simp[zyA] at b
 have a2:=Aa λa0 W=>zAl a0 W;clear R S T I N Z K V B Q a7 P Y;have a4:=Aa z;clear z
 go_enter Tryz.func288,Tryz.ntmps288
 go_wp2_with fail
 have E:=a4.out;unfold Sn Fq at E;rw[E];clear E;refine L.out.mono ?_;rintro e w5 ⟨rfl,J⟩;obtain⟨lv,U⟩:=J.at_;have k5:=(Ae U 5).trans rfl;have a3:=Aa J.bel;clear J U L
 go_wp2_with fail
 refine(a2.out _ _).mono ?_;rintro e w6 ⟨rfl,rfl⟩
 go_wp2_with fail
 go_ret2
 exact⟨rfl,a3.out⟩
end Go.Proofs.YtoejfkeofbdalaaGreatDoor
namespace Go.Proofs.YtoejfkeofbdalaaGreatDoor
open Go.RowKit Go.Shelf
attribute [local go_sem] Oper.semAt_some
theorem zqM(s:ByteArray)(most:Int)(w:World)(hs:s.size<=1000000)(hm:((D8 s.data.toList 0 0).1.length:Int)<=most)(hm1:most<=100000000)(h4:(D8 s.data.toList 0 0).2≠4) :
 Qk 290 #[.string s,Qi most] w λe w'=>e=.returned (.tuple #[.string ⟨(D8 s.data.toList 0 0).1.toArray⟩,Qi 0])/\Qb w w':=by
 obtain⟨tot,htot⟩:=Qe (D8 s.data.toList 0 0);rw[htot] at hm h4 |-;have HT:=Aa htot;clear htot;have Cw:=Cw
 go_enter Tryz.func290,Tryz.ntmps290
 go_wp2_with fail
 obtain⟨q,hq⟩:=Qe w.heap.size;have hW0:Qg ((w.alloc (.cells #[Qi most] 3)).alloc (.cells #[.pointer none,.slice none 0 0] 134)) q #[Qi most] 3:=Bb _ (Am _ _ _ hq.symm);have hW1:Qg ((w.alloc (.cells #[Qi most] 3)).alloc (.cells #[.pointer none,.slice none 0 0] 134)) (q+1) #[.pointer none,.slice none 0 0] 134:=Am _ _ _ (by simp[hq])
 have hBW:Below q w ((w.alloc (.cells #[Qi most] 3)).alloc (.cells #[.pointer none,.slice none 0 0] 134)):=by
  rw[<-hq];exact((Ag _ w).alloc (Af _) _).alloc Q6 _
 rw[hq];generalize(w.alloc (.cells #[Qi most] 3)).alloc (.cells #[.pointer none,.slice none 0 0] 134)=W0 at*
 obtain⟨v0,hv0⟩:∃v0:Value,v0=.func (.func 323) #[] #[.pointer (some ⟨q+1,0,none⟩),.pointer (some ⟨q,0,none⟩)]:=⟨_,rfl⟩
 go_loopw [8,9,14] (λrv lv iv wr=>∃(i run:Nat)(last:UInt8)(out:List UInt8),i<=s.size/\run<=4/\rv=Qi run/\lv=.int .u8 last.toNat/\iv=Qi i/\Hid (out++(D8 (s.data.toList.drop i) run last).1=tot.1/\(D8 (s.data.toList.drop i) run last).2=tot.2)/\Hid (Lib.IsBuilderF 134 5 (q+1) (q+1) (Lib.byteCells out) wr)/\Hid (Qg wr q #[Qi most] 3)/\Hid (Below q w wr)) (λ_ _ iv _=>s.size+1-(intOf iv).toNat)
 case atStart=>exact⟨0,0,0,[],BI _,BI _,rfl,rfl,rfl,by show _/\_;rw[Ni,HT.out];exact⟨rfl,rfl⟩,.inl ⟨Af _,_,hW1,⟨rfl,.inl ⟨rfl,rfl⟩⟩,by simp[Value.ownBlock]⟩,hW0,hBW⟩
 case round =>
  obtain⟨i,run,last,out,hi,hrun,rfl,rfl,rfl,HX,HB,HQ,HW⟩:=hrel
  by_cases hlt:i<s.size
  ·obtain⟨c,hc⟩:=Qe (s[i]'hlt:UInt8)
   have hdr:s.data.toList.drop i=c::s.data.toList.drop (i+1):=by
    have h1:=OT s i hlt;rw[hc] at h1;exact(List.drop_eq_getElem?_toList_append).trans (by rw[h1];rfl)
   have hx:=HX.out;rw[hdr,D8] at hx;have hcl:c.toNat<256:=c.toNat_lt;have hll:last.toNat<256:=last.toNat_lt;have hz:=HW.out.size;have hqz:q+1<=wr.heap.size:=Aj HQ.out;have hofc:UInt8.ofNat c.toNat=c:=Ta;have hofl:UInt8.ofNat last.toNat=last:=Ta;obtain⟨cn,hcn⟩:=Qe c.toNat;obtain⟨ln,hln⟩:=Qe last.toNat;have hcell:(s[i]'hlt).toNat=cn:=by rw[hc,hcn]
   have HCN:=Aa hcn;have HLN:=Aa hln
   by_cases h4:run=4
   ·subst h4
    rw[if_pos rfl] at hx;rw[hcn] at hx
    have hlen:out.length+cn<=tot.1.length:=by
     have:=Co List.length hx.1;simp only[AJ,Jg] at this;omega
    rw[hcn] at hcl;rw[hln] at hll hofl;have CT:=Aa (WF (q+1) q ln cn most out wr hll Q0 Q0 Q0 Q0 HB.out HQ.out Q0)
    rw[hofl] at CT;have HX2:Hid ((out++List.replicate cn last)++(D8 (s.data.toList.drop (i+1)) 0 last).1=tot.1/\(D8 (s.data.toList.drop (i+1)) 0 last).2=tot.2):=⟨by rw[BN];exact hx.1,hx.2⟩
    clear hx hdr HX HB HQ hc hcn hofc hofl;rw[hln];clear hln
    go_wp2_with fail
    refine CT.out.mono ?_;rintro e W2 ⟨rfl,hb2,hq2,hB2⟩;have HB2:=Aa hb2;have HQ2:=Aa hq2;have HW2:=Aa (HW.out.trans (hB2.mono (M3 _)));clear hb2 hq2 hB2 CT HW
    go_wp2_with fail
    go_roundw
    case rel=>exact⟨i+1,0,last,_,Q0,Q0,rfl,by rw[HLN.out],by go_num,HX2,HB2,HQ2,HW2⟩
    case measure=>simp[intOf];omega
   ·rw[if_neg h4] at hx
    have hr4:((run:Int)==4)=false:=by simp;omega
    by_cases h2:0<run/\c=last
    ·rw[if_pos h2] at hx
     obtain⟨hr0,rfl⟩:=h2
     have hlen:out.length+1<=tot.1.length:=by
      have:=Co List.length hx.1;simp only[AJ,Bt] at this;omega
     have CT:=Aa (WF (q+1) q c.toNat 1 most out wr hcl Q0 Q0 Q0 Q0 HB.out HQ.out Q0)
     rw[hofc,hcn,show((1:Nat):Int)=1 from rfl] at CT
     have HX2:Hid ((out++List.replicate 1 c)++(D8 (s.data.toList.drop (i+1)) (run+1) c).1=tot.1/\(D8 (s.data.toList.drop (i+1)) (run+1) c).2=tot.2):=⟨by rw[BN];exact hx.1,hx.2⟩
     have hd:decide ((0:Int)<(run:Int))=true:=Bl Q0
     clear hx hdr HX HB HQ hc hofc hofl hln hll hcl;rw[hcn];clear hcn HLN
     go_wp2_with fail
     refine CT.out.mono ?_;rintro e W2 ⟨rfl,hb2,hq2,hB2⟩;have HB2:=Aa hb2;have HQ2:=Aa hq2;have HW2:=Aa (HW.out.trans (hB2.mono (M3 _)));clear hb2 hq2 hB2 CT HW
     go_wp2_with fail
     go_roundw
     case rel=>exact⟨i+1,run+1,c,_,Q0,Q0,by go_num,by rw[HCN.out],by go_num,HX2,HB2,HQ2,HW2⟩
     case measure=>simp[intOf];omega
    ·rw[if_neg h2] at hx
     have hlen:out.length+1<=tot.1.length:=by
      have:=Co List.length hx.1;simp only[AJ,Bt] at this;omega
     have CT:=Aa (WF (q+1) q c.toNat 1 most out wr hcl Q0 Q0 Q0 Q0 HB.out HQ.out Q0)
     rw[hofc,hcn,show((1:Nat):Int)=1 from rfl] at CT
     have HX2:Hid ((out++List.replicate 1 c)++(D8 (s.data.toList.drop (i+1)) 1 c).1=tot.1/\(D8 (s.data.toList.drop (i+1)) 1 c).2=tot.2):=⟨by rw[BN];exact hx.1,hx.2⟩
     have hcase:(decide (0<run)=false)\/(decide (0<run)=true/\(cn ==ln)=false):=by
      by_cases hr0:0<run
      ·right
       refine⟨Bl Q0,?_⟩
       have:c≠last:=λe=>h2 ⟨hr0,e⟩;have:cn≠ln:=λe=>this (UInt8.toNat_inj.1 (by rw[hcn,hln,e]))
       simp;omega
      ·exact .inl (AV Q0)
     clear hx hdr HX HB HQ hc hofc hofl hll hcl h2;rw[hln];clear hcn hln HLN;rcases hcase with hd|⟨hd,he⟩
     all_goals
      go_wp2_with fail
      refine CT.out.mono ?_;rintro e W2 ⟨rfl,hb2,hq2,hB2⟩;have HB2:=Aa hb2;have HQ2:=Aa hq2;have HW2:=Aa (HW.out.trans (hB2.mono (M3 _)));clear hb2 hq2 hB2 CT HW
      go_wp2_with fail
      go_roundw
     ·exact⟨i+1,1,c,_,Q0,Q0,by go_num,by rw[HCN.out],by go_num,HX2,HB2,HQ2,HW2⟩
     ·simp[intOf];omega
     ·exact⟨i+1,1,c,_,Q0,Q0,by go_num,by rw[HCN.out],by go_num,HX2,HB2,HQ2,HW2⟩
     ·simp[intOf];omega
  ·obtain rfl:i=s.size:=Q0
   have hdr:s.data.toList.drop s.size=[]:=Gm Q6
   have hx:=HX.out;rw[hdr,D8,Eu] at hx;obtain⟨hx1,hx2⟩:=hx;subst hx1;have hrun4:run≠4:=λh=>h4 (hx2.symm.trans h);have hz:=HW.out.size;have hqz:q+1<=wr.heap.size:=Aj HQ.out;have hlen:(Lib.byteCells tot.1).length=tot.1.length:=Mr _;obtain⟨m,rfl⟩:=Mf (show 0<=most by omega)
   have CL:Hid (∀W,W.heap=wr.heap->Qk 324 #[Qp (q+1) 0] W λe w'=>e=.returned (Qi (tot.1.length:Nat))/\W=w'):=λW hW=>by
    have:=Tryz.Builder_Len_f (q+1) (q+1) _ W (Nw HB.out λj c t fz _ _=>by rw[hW])
    rw[hlen] at this;exact this.mono λe w' ⟨h1,h2⟩=>⟨h1,h2.symm⟩
   have hgt2:decide (m<tot.1.length)=false:=AV Q0
   have hgt:decide ((m:Int)<((tot.1.length:Nat):Int))=false:=AV Q0
   have kq:=(Ae HQ.out 0).trans rfl
   have CS:Hid (∀W,W.heap=wr.heap->Qk 71 #[Qp (q+1) 0] W λe w'=>e=.returned (.string ⟨tot.1.toArray⟩)/\Below (q+1) W w'):=λW hW=>by
    have:=Tryz.Builder_String_any_k (q+1) (q+1) tot.1 W (Nw HB.out λj c t fz _ _=>by rw[hW]) (by rw[hW];exact hqz)
    exact this.mono λe w' ⟨h1,h2⟩=>⟨h1,h2.2.1⟩
   clear hx2 hdr hlen hz HX;have HBQ:=Aa (λ(w':World) (h:Below (q+1) wr w')=>HW.out.trans (h.mono (M3 q)));obtain⟨tl,htl⟩:=Qe tot.1.length;rw[htl] at CL hgt hgt2;obtain⟨T,hT⟩:=Qe tot.1;rw[hT] at CS |-;have hr5:((run:Int)==4)=false:=by simp;omega
   have HTT:=Aa hT;clear htl hT
   go_wp2_with fail
   go_quiet ((go_at_call 324;exact zu3 (CL.out _ rfl)))
   go_wp2_with fail
   refine(CS.out (wr.drewN nq) rfl).mono ?_;rintro e W2 ⟨rfl,hB2⟩;have HBB:=Aa (HBQ.out W2 ((EW (Ag _ wr) nq |>.mono hqz).trans hB2));clear hB2
   go_wp2_with fail
   go_ret2
   exact⟨by rw[HTT.out];rfl,by rw[hq];exact HBB.out⟩
