import Derived.Test.YtoejfkeofbdalaaGreatDoorM33
set_option linter.all false
set_option maxRecDepth 100000
set_option maxHeartbeats 8000000
namespace Go.Proofs.YtoejfkeofbdalaaGreatDoor
open Go.RowKit
variable {n:Nat} {w:World} {x:Value}
def BZ(a:List Ai)(k:Nat):Nat:=(Bi (a.take k)).length
def Q9(a:List Ai):Nat->Nat
 |0=>31
 |k+1=>(a[k]?.map (·.at0)).getD 0
structure Bz(ps:List Ai):Prop where
 few:ps.length<=100000
 len:(Bi ps).length<=100000
 part:∀k p,ps[k]?=some p->1<=p.t.length/\p.t.length<=18720/\40<=p.room/\p.room<=360/\p.room%40=0/\Q9 ps k<p.at0/\p.at0<=10000000
def Au(w:World)(v:Value)(a:List Ai):Prop:=Rd w w.heap.size 5 v a.length (DR 0 a)
theorem Au.up{v:World}{a:List Ai}(h:Au w x a)(b:Qb w v):Au v x a:=Rd.up h b
theorem Au.shape{a:List Ai}(h:Au w x a):∃q c,x=.slice q a.length c:=by
 obtain⟨q,c,b,-⟩:=Rd.isSlice h;exact⟨q,c,b⟩
theorem Yk:∀(a b:List Ai)(f:Nat),DR f (a++b)=DR f a++DR (f+(Bi a).length) b
 | [],b,f=>by simp[DR,Bi]
 | p::a,b,f=>by
   rw[Di,DR,Yk a b,DR,BN];congr 3
   simp[Bi];omega
theorem WJ(a:List Ai):BZ a 0=0:=by simp[BZ,Bi]
theorem RN{a:List Ai}{p:Ai}(h:a[n]?=some p):BZ a (n+1)=BZ a n+p.t.length:=by
 obtain⟨c,b⟩:=Cc.1 h;unfold BZ;rw[Ep c,b];simp[Bi]
theorem Xd(a:List Ai):BZ a a.length=(Bi a).length:=by simp[BZ]
theorem RP(a:List Ai){n m:Nat}(h:n<=m):BZ a n<=BZ a m:=by
 unfold BZ;have b:a.take n=(a.take m).take n:=by rw[List.take_take,Fs h]
 rw[b];generalize a.take m=l
 have c:Bi l=Bi (l.take n)++Bi (l.drop n):=by
  unfold Bi;rw[<-Iw,Er]
 rw[c,AJ];omega
theorem OV(a:List Ai)(k:Nat):BZ a k<=(Bi a).length:=by
 by_cases h:k<=a.length
 ·rw[<-Xd]
  exact RP a h
 ·unfold BZ
  rw[BR Q0]
  exact Af _
theorem NB{m:Nat}{A:Option Addr}{a:List Ai}(h:Au w (.slice A n m) a)(s:a.length=n)(j:Nat)(r:j<n) :
 ∃g o p,A=some ⟨g,o,none⟩/\g<w.heap.size/\a[j]?=some p/\Qc w g (o+j*5) (Qi (p.at0:Nat))/\Qc w g (o+j*5+1) (Qi (p.room:Nat))/\Qc w g (o+j*5+2) (Qi (BZ a j:Nat))/\Qc w g (o+j*5+3) (Qi (p.t.length:Nat))/\Qc w g (o+j*5+4) (.int .u32 (BG p.t:Nat)):=by
 obtain⟨g,o,l,f,b⟩:=Rd.cellAt h Q0
 have k:a[j]?=some (a[j]'(by omega)):=Az Q0
 have c:∀i x,(MN (BZ a j) (a[j]'(by omega)))[i]?=some x->(DR 0 a)[j*5+i]?=some x:=by
  intro i x d
  have t:i<5:=by
   have:=(Cc.1 d).1;simpa [MN] using this
  have q:DR 0 a=DR 0 (a.take j)++(MN (BZ a j) (a[j]'(by omega))++DR (0+BZ a j+(a[j]'(by omega)).t.length) (a.drop (j+1))):=by
   have e:a=a.take j++(a[j]'(by omega)::a.drop (j+1)):=by simp
   conv=>lhs;rw[e,Yk,DR]
   simp only[DC];rfl
  rw[q,F7 (by rw[V6,BO];omega),V6,BO,FP (by simp[MN];omega)]
  rw[show j*5+i-min j a.length*5=i by rw[Fs Q0];omega]
  exact d
 refine⟨g,o,_,l,f,k,?_,?_,?_,?_,?_⟩
 ·exact b (j*5+0) _ (c 0 _ rfl)
 ·exact b (j*5+1) _ (c 1 _ rfl)
 ·exact b (j*5+2) _ (c 2 _ rfl)
 ·exact b (j*5+3) _ (c 3 _ rfl)
 ·exact b (j*5+4) _ (c 4 _ rfl)
theorem ZU(w:World)(v:Value)(c:List Ai)(n:Au w v c)(j:Bz c) :
 Qk 41 #[v] w λe a0=>e=.returned (.bool true)/\Qb w a0:=by
 obtain⟨a7,a4,rfl⟩:=n.shape;obtain⟨N,q⟩:=Qe c.length;have U:=j.few;have a8:=j.len;have K:=Aa j;have u:=Aa n;rw[q] at U u |-;have L:=Aa q;have D:=Aa (Ag w.heap.size w);clear q n j
 go_enter Tryz.func41,Tryz.ntmps41
 go_upto_region 3 with(fail)
 refine wp_scope_straight ?_
 go_wp2_with fail
 refine wp_label ?_
 go_wp2_with fail
 go_loopw [10,3,4,5] (λo T O rv wr=>∃k:Nat,k<=N/\o=Qi k/\rv=.bool true/\(∃f a:Nat,T=Qi f/\O=Qi a/\f<=100000/\Hid (f=BZ c k)/\Hid (a=Q9 c k))/\Hid (Qb w wr)) (λo _ _ _ _=>N+1-(intOf o).toNat)
 case atStart=>exact⟨0,Q0,rfl,rfl,⟨0,31,rfl,rfl,Q0,(WJ c).symm,rfl⟩,D⟩
 case round =>
  clear D;obtain⟨k,hk,rfl,rfl,⟨f,a,rfl,rfl,hf,t,J⟩,i⟩:=hrel
  by_cases a3:k<N
  ·have hd:decide ((k:Int)<(N:Int))=true:=Bl Q0
   have F:=Aa (Au.up u.out i.out);obtain⟨a5,a6,p,V,hg,l,x,y,z,A,B⟩:=NB F.out L.out k a3;subst V;obtain⟨W,X,Y,Z,p5,C,p7⟩:=K.out.part k p l;rw[<-t.out] at z;rw[<-J.out] at C;obtain⟨m,H⟩:=Qe (BG p.t);rw[H] at B;obtain⟨b,s⟩:=Qe p.t.length;obtain⟨g,I⟩:=Qe p.room;obtain⟨d,r⟩:=Qe p.at0;have G:Hid (f+b=BZ c (k+1)):=by show _=_;rw[RN l,t.out,s]
   have a2:Hid (d=Q9 c (k+1)):=by show _=_;simp[Q9,l,r]
   have a9:f+b<=100000:=by
    have:=OV c (k+1);have h2:=G.out;omega
   rw[s] at A W X;rw[I] at y Y Z p5;rw[r] at x C p7;have e1:((f:Int) !=(f:Int))=false:=by simp
   have e2:decide ((b:Int)<1)=false:=AV Q0
   have e3:decide (18720<(b:Int))=false:=AV Q0
   have e4:decide ((g:Int)<40)=false:=AV Q0
   have e5:decide (360<(g:Int))=false:=AV Q0
   have e6:((g:Int)%40 ==0)=true:=by simp;omega
   have e7:decide ((d:Int)<=(a:Int))=false:=AV Q0
   have w1:IntKind.i64.wrap ((f:Int)+(b:Int))=((f+b:Nat):Int):=(AU _ Q0).trans Q0
   have b1:(k:Int)<(N:Int):=Q0
   have b0:(0:Int)<=(k:Int):=Q0
   have E:=Aa (A9 (Ay (Ag wr.heap.size wr) (.cells #[Qi (d:Nat),Qi (g:Nat),Qi (f:Nat),Qi (b:Nat),.int .u32 (m:Nat)] 56)) i.out);clear l H s I r F i;have h:=Am wr (.cells #[Qi (d:Nat),Qi (g:Nat),Qi (f:Nat),Qi (b:Nat),.int .u32 (m:Nat)] 56) _ rfl;have P:=A8 h;have Q:=AA h;have R:=Bk h;have S:=CY h;clear h
   go_upto_region 6 with(fail)
   generalize wr.alloc (.cells #[Qi (d:Nat),Qi (g:Nat),Qi (f:Nat),Qi (b:Nat),.int .u32 (m:Nat)] 56)=M at*
   go_wp2_with fail
   go_quiet (fail)
   have a1:=Aa (E.out.trans (EW (Ag w.heap.size M) nq));clear P Q R S x y z A B E
   go_wp2_with fail
   go_roundw
   case rel=>exact⟨k+1,Q0,by go_num,rfl,⟨f+b,d,rfl,rfl,Q0,G,a2⟩,a1⟩
   case measure=>simp[intOf];omega
  ·obtain rfl:k=N:=Q0
   go_wp2_with fail
   dsimp only[Exit.noGoto]
   go_ret
   exact⟨rfl,i.out⟩
end Go.Proofs.YtoejfkeofbdalaaGreatDoor
namespace Go.Proofs.YtoejfkeofbdalaaGreatDoor
variable {k m n:Nat}
def Jz(a:List Ai)(b k:Nat):Prop:=k<a.length/\BZ a k<=b/\b<BZ a (k+1)
theorem Jz.uniq{a:List Ai}(h:Jz a n m)(g:Jz a n k):m=k:=by
 obtain⟨i,j,l⟩:=h;obtain⟨c,d,f⟩:=g
 by_cases e:m<k
 ·have:=RP a (show m+1<=k from e);omega
 ·by_cases b:k<m
  ·have:=RP a (show k+1<=m from b);omega
  ·omega
theorem Jz.le{a:List Ai}{i:Nat}(h:Jz a n k)(g:Jz a m i)(o:n<=m):k<=i:=by
 obtain⟨f,j,l⟩:=h;obtain⟨b,c,d⟩:=g
 by_cases e:i<k
 ·have:=RP a (show i+1<=k from e);omega
 ·omega
def Lc(T:List UInt8)(a n p:Nat):List UInt8:=(T.take (min (a+n) p)).drop a
def Kq(a n f b:Nat):Nat:=max (min (a+n-f) b) (a-f)
theorem zou{a:List Ai}{p:Ai}(h:a[n]?=some p):Bi a=Bi (a.take n)++(p.t++Bi (a.drop (n+1))):=by
 obtain⟨c,b⟩:=Cc.1 h
 conv=>lhs;rw[show a=a.take n++(p::a.drop (n+1)) by rw[<-b];simp]
 simp[Bi]
theorem zxR{c:List Ai}{p:Ai}(h:c[n]?=some p)(a b:Nat) :
 Lc (Bi c) a b (BZ c (n+1))=Lc (Bi c) a b (BZ c n)++(p.t.take (Kq a b (BZ c n) p.t.length)).drop (a-BZ c n):=by
 have g:=zou h;have i:=RN h;have j:(Bi (c.take n)).length=BZ c n:=rfl;rw[g,i];generalize Bi (c.take n)=A at*
 generalize BZ c n=P at*
 generalize Bi (c.drop (n+1))=R at*
 generalize p.t=t at*
 unfold Lc Kq
 by_cases k:a+b<=P
 ·rw[Fs k,Fs (show a+b<=P+t.length by omega),show a+b-P=0 by omega,show a-P=0 by omega]
  simp
 ·rw[PE (show P<=a+b by omega),Tf,Tf,Tf]
  rw[BR (show A.length<=min (a+b) (P+t.length) by omega),BR (show A.length<=P by omega)]
  have d:min (a+b) (P+t.length)-A.length-t.length=0:=Q0
  have e:P-A.length=0:=Q0
  have f:min (a+b) (P+t.length)-A.length=min (a+b-P) t.length:=Q0
  rw[d,e,f];simp only[Nh,Eu];rw[Th,j];congr 1
  by_cases l:a-P<=min (a+b-P) t.length
  ·rw[Nat.max_eq_left l]
  ·rw[Nat.max_eq_right Q0,Gm Q4,Gm Q4]
theorem ZR(T:List UInt8)(a n p:Nat)(b:p<=T.length):(Lc T a n p).length=min (a+n) p-a:=by
 unfold Lc;rw[D9,BO,Fs Q0]
theorem zvK(a n P b:Nat):min (a+n) (P+b)-a=(min (a+n) P-a)+(Kq a n P b-(a-P)):=by
 unfold Kq;omega
def IY(T:List UInt8)(a n:Nat):List UInt8:=(T.take (a+n)).drop a
theorem zvZ{a:List Ai}(h:BZ a k<=n):Lc (Bi a) n m (BZ a k)=[]:=by
 unfold Lc;rw[Gm];rw[BO];omega
theorem zxJ{a:List Ai}(h:Jz a (n+min m ((Bi a).length-n)-1) k)(b:n<(Bi a).length)(j:0<m):Lc (Bi a) n m (BZ a (k+1))=IY (Bi a) n m:=by
 obtain⟨c,d,f⟩:=h;have g:=OV a (k+1);unfold Lc IY
 by_cases i:n+m<=(Bi a).length
 ·rw[Fs Q0]
 ·have e:BZ a (k+1)=(Bi a).length:=Q0
  rw[e,PE Q0,Gp,BR Q0]
theorem ztz{e:List UInt8}(h:e.length<=n\/m=0):IY e n m=[]:=by
 unfold IY;rw[Gm];rw[BO];omega
def Kx(a:List Ai)(H:List HE):Prop:=∀x∈H,∃p,a[x.b]?=some p/\x.t=p.t
end Go.Proofs.YtoejfkeofbdalaaGreatDoor
namespace Go.Proofs.YtoejfkeofbdalaaGreatDoor
open Go.RowKit Go.Shelf
theorem TN(w:World)(v:Value)(a:List Ai)(b:Au w v a)(h:Bz a) :
 Qk 158 #[v] w λe H=>e=.returned (Qi ((Bi a).length:Nat))/\Qb w H:=by
 have j:=Aa (ZU w v a b h);obtain⟨q,c,rfl⟩:=b.shape;obtain⟨N,i⟩:=Qe a.length;obtain⟨T,l⟩:=Qe ((Bi a).length);have x:=h.len;have u:=h.few;have d:=Xd a;rw[l] at x d |-;rw[i] at j u d |-
 by_cases G:N=0
 ·subst G
  have J:a=[]:=Ey i;subst J;have:T=0:=by rw[<-l];rfl
  subst this;clear j b h l x u d
  go_enter Tryz.func158,Tryz.ntmps158
  go_wp2_with fail
  go_ret
  exact⟨rfl,Ag _ _⟩
 ·have O:((N:Int)==0)=false:=Ez.2 Q0
  rw[i] at b;have n:=Aa b;have B:=Aa i;have A:=Aa d;clear h b l i d;have V:IntKind.i64.wrap ((N:Int)-1)=((N-1:Nat):Int):=(AU _ Q0).trans Q0
  go_enter Tryz.func158,Tryz.ntmps158
  go_wp2_with fail
  refine j.out.mono ?_;rintro e Q ⟨rfl,k⟩;have K:=Aa k;obtain⟨g,o,p,rfl,P,s,L,M,C,D,E⟩:=NB (Au.up n.out k) B.out (N-1) Q0
  have m:=RN s;rw[show N-1+1=N by omega,A.out] at m
  obtain⟨f,r⟩:=Qe (BZ a (N-1));obtain⟨t,z⟩:=Qe p.t.length;obtain⟨F,y⟩:=Qe (BG p.t);rw[r] at C m;rw[z] at D m;rw[y] at E;have W:IntKind.i64.wrap ((f:Int)+(t:Int))=(T:Int):=(AU _ Q0).trans Q0
  have R:(0:Int)<=((N-1:Nat):Int):=Q0
  have S:((N-1:Nat):Int)<(N:Int):=Q0
  have U:N-1<N:=Q0
  have I:=Aa (Ay k (.cells #[Qi (p.at0:Nat),Qi (p.room:Nat),Qi (f:Nat),Qi (t:Nat),.int .u32 (F:Nat)] 56));clear k j s r z y m n
  go_wp2_with fail
  go_ret
  exact⟨rfl,I.out⟩
theorem zsn(w:World)(n:Nat)(G:n<=1000000)(m o:Value)(F:Nat)(z:Enters Tryz.prog F)(p:Nat->Bool)(l:∀W,Qb w W->∀i,i<n->Qk F #[Qi i,m,o] W λe d=>e=.returned (.bool (p i))/\Qb W d) :
 Qk 217 #[Qi n,.func (.func F) #[] #[m,o]] w λe d=>∃k:Nat,e=.returned (Qi k)/\k<=n/\(k=0\/p (k-1)=false)/\(k=n\/p k=true)/\Qb w d:=by
 have v:=Aa l;unfold Enters at z;have r:=Aa (Ag w.heap.size w);clear l
 go_enter Tryz.func217,Tryz.ntmps217
 go_wp2_with fail
 go_loopw [5,6] (λb c wr=>∃i j:Nat,i<=j/\j<=n/\b=Qi i/\c=Qi j/\Hid (i=0\/p (i-1)=false)/\Hid (j=n\/p j=true)/\Hid (Qb w wr)) (λb c _=>(intOf c).toNat-(intOf b).toNat)
 case atStart=>exact⟨0,n,Q0,Q0,rfl,rfl,.inl rfl,.inl rfl,r⟩
 case round =>
  clear r;obtain⟨i,j,I,u,rfl,rfl,f,g,a⟩:=hrel
  by_cases J:i<j
  ·have E:decide ((i:Int)<(j:Int))=true:=Bl Q0
   have A:IntKind.i64.wrap ((i:Int)+(j:Int))=((i+j:Nat):Int):=(AU _ Q0).trans Q0
   have B:IntKind.u64.wrap ((i+j:Nat):Int)=((i+j:Nat):Int):=P4 _ Q0
   obtain⟨h,y⟩:=Qe ((i+j)/ 2);have C:i<=h:=Q0
   have D:h<j:=Q0
   have q:=Aa (v.out wr a.out h Q0)
   have x:((i:Int)+(j:Int))/ 2=(h:Int):=Q0
   go_wp2_with fail
   refine q.out.mono ?_;rintro e H ⟨rfl,t⟩;have s:=Aa (A9 t a.out);have K:IntKind.i64.wrap ((h:Int)+1)=((h+1:Nat):Int):=(AU _ Q0).trans Q0
   clear t q a A B y x;cases hp:p h with
   | false =>
     go_wp2_with fail
     go_roundw
     case rel=>exact⟨h+1,j,Q0,u,by go_num,rfl,.inr (by simpa using hp),g,s⟩
     case measure=>simp[intOf];omega
   | true =>
     go_wp2_with fail
     go_roundw
     case rel=>exact⟨i,h,Q0,Q0,rfl,rfl,f,.inr hp,s⟩
     case measure=>simp[intOf];omega
  ·obtain rfl:i=j:=Q0
   go_wp2_with fail
   go_ret
   exact⟨i,rfl,u,f.out,g.out,a.out⟩
theorem zsy(w:World)(n r:Nat)(v:Value)(a:List Ai)(h:Nat)(b:Qg w n #[v] 29)(m:Qg w r #[Qi (h:Nat)] 3)(d:Au w v a)(z:Bz a)(i:Nat)(l:i<a.length) :
 Qk 218 #[Qi i,Qp n 0,Qp r 0] w λe C=>e=.returned (.bool (decide (h<BZ a i)))/\Qb w C:=by
 obtain⟨q,c,rfl⟩:=d.shape;obtain⟨N,j⟩:=Qe a.length;rw[j] at d b l;obtain⟨g,o,p,rfl,D,A,s,t,u,x,y⟩:=NB d j i l;obtain⟨f,k⟩:=Qe (BZ a i);rw[k] at u |-;have B:=(Ae b 0).trans rfl;have E:=A8 m;have B:=A8 b;have F:(0:Int)<=(i:Int):=Q0
 have G:(i:Int)<(N:Int):=Q0
 have H:decide ((h:Int)<(f:Int))=decide (h<f):=by simp
 clear b m d z j A k s t x y
 go_enter Tryz.func218,Tryz.ntmps218
 go_wp2_with fail
 go_quiet (fail)
 go_wp2_with fail
 go_ret
 exact⟨Q6,EW (Ag w.heap.size w) nq⟩
theorem zlJ:Enters Tryz.prog 218:=enters_of Tryz.func218 Q2 rfl
theorem zuV(w:World)(v:Value)(a:List Ai)(y:Au w v a)(m:Bz a)(d:Nat)(Z:d<(Bi a).length) :
 Qk 159 #[v,Qi (d:Nat)] w λe b=>∃k:Nat,e=.returned (Qi k)/\Jz a d k/\Qb w b:=by
 obtain⟨q,c,rfl⟩:=y.shape;obtain⟨T,s⟩:=Qe ((Bi a).length);have X:=m.len;have a1:=m.few;obtain⟨f,B⟩:=Qe w.heap.size;have A:=Ay (Ay (Ag w.heap.size w) (.cells #[.slice q a.length c] 29)) (.cells #[Qi (d:Nat)] 3);have o:=Aa (Bb (.cells #[Qi (d:Nat)] 3) (Am w (.cells #[.slice q a.length c] 29) f B.symm));have p:=Aa (Am (w.alloc (.cells #[.slice q a.length c] 29)) (.cells #[Qi (d:Nat)] 3) (f+1) (by simp[B]))
 have r:=Aa (Au.up y A);have z:=Aa A
 have x:Hid (∀W,Au W (.slice q a.length c) a->Qk 158 #[.slice q a.length c] W λe b=>e=.returned (Qi (T:Nat))/\Qb W b):=λW h=>by
  have:=TN W _ a h m;rw[s] at this;exact this
 have u:Hid (∀W,Au W (.slice q a.length c) a->Qh W f (Obj.cells #[.slice q a.length c] 29 (0,0))->Qh W (f+1) (Obj.cells #[Qi (d:Nat)] 3 (0,0))->Qk 217 #[Qi (a.length:Nat),.func (.func 218) #[] #[.pointer (some ⟨f,0,none⟩),.pointer (some ⟨f+1,0,none⟩)]] W λe b=>∃k:Nat,e=.returned (Qi ((k+1:Nat):Int))/\k<=100000/\Jz a d k/\Qb W b):=λW L M O=>by
  refine(zsn W a.length Q0 _ _ _ zlJ (λi=>decide (d<BZ a i)) (λK l i P=>zsy K f (f+1) _ a d (Al l M) (Al l O) (Au.up L l) m i P)).mono ?_
  rintro e b ⟨k,rfl,Q,t,g,l⟩;have C:=Xd a;rw[s] at C
  have a2:k≠0:=λe=>by
   subst e;rcases g with g|g
   ·rw[<-g,WJ] at C
    omega
   ·have:=Kk g
    rw[WJ] at this;omega
  obtain⟨j,rfl⟩:∃j,k=j+1:=⟨k-1,Q0⟩
  refine⟨j,rfl,Q0,⟨Q0,?_,?_⟩,l⟩
  ·rcases t with t|t
   ·omega
   ·have:=of_decide_eq_false t
    rw[show j+1-1=j by omega] at this
    omega
  ·rcases g with g|g
   ·rw[g,C];omega
   ·exact Kk g
 rw[s] at Z X;obtain⟨N,E⟩:=Qe a.length;rw[E] at o p r z x u |-;have d1:decide ((d:Int)<0)=false:=AV Q0
 have d2:decide ((T:Int)<=(d:Int))=false:=AV Q0
 have d3:decide (T<=d)=false:=AV Q0
 have a0:=Aa B;have Cw:=Cw;clear y m A s E
 go_enter Tryz.func159,Tryz.ntmps159
 go_upto_region 1 with(fail)
 generalize(w.alloc (.cells #[.slice q N c] 29)).alloc (.cells #[Qi (d:Nat)] 3)=W at*
 have H:Hid (∀b:World,Qb W b->Qb W b/\Qc b f 0 (.slice q N c)/\Qc b (f+1) 0 (Qi (d:Nat))):=λb h =>
  ⟨h,(Ae (Al h o.out) 0).trans rfl,(Ae (Al h p.out) 0).trans rfl⟩
 have Y:Qb W W:=Ag _ _
 go_region_held3 (λb=>Qb W b/\Qc b f 0 (.slice q N c)/\Qc b (f+1) 0 (Qi (d:Nat)))
  ((refine H.out _ ?_;first|assumption|exact Cq Q3|exact Bh Q3|exact Ay (Bh Q3) _|exact A9 Q3 (Bh Q3)|exact Ay Q3 _|fail))
  ((first
    |(go_at_call 158
      refine(x.out _ (Au.up r.out (Bh Q3))).mono ?_
      rintro e F ⟨rfl,I⟩;have n:Qb W F:=A9 I (Bh Q3))
    |fail))
 have G:=Aa (Al n o.out);have U:=Aa (Al n p.out);have V:=Aa (Au.up r.out n);have R:=Aa (A9 n z.out);have l0:=A8 G.out
 try clear hHeld
 clear I n Y H o p r z x
 go_wp2_with fail
 refine(u.out F V.out G.out U.out).mono ?_;rintro e w9 ⟨k,rfl,Q,D,l⟩;have S:=Aa (A9 l R.out);have J:=Aa D;have a3:IntKind.i64.wrap (((k+1:Nat):Int)-1)=(k:Int):=(AU _ Q0).trans Q0
 have a4:IntKind.i64.wrap ((k:Int)+1-1)=(k:Int):=(AU _ Q0).trans Q0
 have a5:IntKind.i64.wrap (k:Int)=(k:Int):=AU _ Q0
 clear l D u
 go_wp2_with fail
 go_ret
 exact⟨k,Q6,J.out,S.out⟩
theorem zph(w:World)(v:Value)(b:List Ai)(j:Au w v b)(i:Bz b)(d n:Nat)(z:d<=1000000)(y:n<=1000000)(h:n=0\/(Bi b).length<=d) :
 Qk 109 #[v,Qi (d:Nat),Qi (n:Nat)] w λe p=>e=.returned (.tuple #[Qi (-1),Qi (-1)])/\Qb w p:=by
 have a:=Aa (TN w v b j i);obtain⟨q,c,rfl⟩:=j.shape;have s:=i.len;obtain⟨T,l⟩:=Qe ((Bi b).length);rw[l] at a h s;obtain⟨N,k⟩:=Qe b.length;rw[k] at a |-;clear j i l k
 by_cases m:n=0
 ·subst m
  clear h
  go_enter Tryz.func109,Tryz.ntmps109
  go_wp2_with fail
  refine a.out.mono ?_;rintro e r ⟨rfl,f⟩;have g:=Aa f;clear f a
  go_wp2_with fail
  go_ret2
  exact⟨rfl,g.out⟩
 ·have o:T<=d:=Q0
  clear h;have t:decide ((n:Int)<1)=false:=AV Q0
  have u:decide ((T:Int)<=(d:Int))=true:=Bl Q0
  have x:decide (T<=d)=true:=Bl o
  go_enter Tryz.func109,Tryz.ntmps109
  go_wp2_with fail
  refine a.out.mono ?_;rintro e r ⟨rfl,f⟩;have g:=Aa f;clear f a
  go_wp2_with fail
  go_ret2
  exact⟨rfl,g.out⟩
theorem Zz(w:World)(v:Value)(b:List Ai)(g:Au w v b)(p:Bz b)(a n:Nat)(Y:1<=n)(Q:n<=1000000)(h:a<(Bi b).length) :
 Qk 109 #[v,Qi (a:Nat),Qi (n:Nat)] w λe E=>∃f l:Nat,e=.returned (.tuple #[Qi f,Qi l])/\Jz b a f/\Jz b (a+min n ((Bi b).length-a)-1) l/\Qb w E:=by
 have k:=Aa (TN w v b g p);have i:=Aa (λW (g:Au W v b) o B=>zuV W v b g p o B);obtain⟨q,c,rfl⟩:=g.shape;have J:=p.len;obtain⟨T,x⟩:=Qe ((Bi b).length);rw[x] at k h J i |-;obtain⟨N,u⟩:=Qe b.length;rw[u] at k i g |-;have t:=Aa g;obtain⟨m,y⟩:=Qe (min n (T-a));rw[y];have V:min (n:Int) ((T:Int)-(a:Int))=(m:Int):=Q0
 have S:1<=m:=Q0
 have U:a+m<=T:=Q0
 have X:max (a:Int) 0=(a:Int):=Q0
 have K:decide ((n:Int)<1)=false:=AV Q0
 have L:decide ((T:Int)<=(a:Int))=false:=AV Q0
 have M:decide (T<=a)=false:=AV Q0
 have O:decide ((a:Int)<=-(n:Int))=false:=AV Q0
 have Z:IntKind.i64.wrap (-(n:Int))= -(n:Int):=AU _ Q0
 have a0:IntKind.i64.wrap ((a:Int)-(a:Int))=0:=by rw[Int.sub_self];decide
 have a6:IntKind.i64.wrap 0=0:=Q5
 have a1:IntKind.i64.wrap ((n:Int)-0)=(n:Int):=(AU _ Q0).trans Q0
 have a7:IntKind.i64.wrap (n:Int)=(n:Int):=AU _ Q0
 have a2:IntKind.i64.wrap ((T:Int)-(a:Int))=(T:Int)-(a:Int):=AU _ Q0
 have a3:IntKind.i64.wrap ((a:Int)+(m:Int))=((a+m:Nat):Int):=(AU _ Q0).trans Q0
 have a4:IntKind.i64.wrap (((a+m:Nat):Int)-1)=((a+m-1:Nat):Int):=(AU _ Q0).trans Q0
 have a5:IntKind.i64.wrap ((a:Int)+(m:Int)-1)=((a+m-1:Nat):Int):=(AU _ Q0).trans Q0
 clear g p x u y
 go_enter Tryz.func109,Tryz.ntmps109
 go_wp2_with fail
 refine k.out.mono ?_;rintro e F ⟨rfl,d⟩;have r:=Aa d;clear d k
 go_wp2_with fail
 refine(i.out F (Au.up t.out r.out) a h).mono ?_;rintro e G ⟨C,rfl,j,d⟩;have A:=Aa j;have s:=Aa (A9 d r.out);have z:=Aa (i.out G (Au.up t.out s.out) (a+m-1) Q0)
 have P:(a:Int)+(m:Int)-1=((a+m-1:Nat):Int):=Q0
 clear d j r i
 go_wp2_with fail
 refine z.out.mono ?_;rintro e R ⟨D,rfl,j,d⟩;have H:=Aa j;have I:=Aa (A9 d s.out);clear d j s z
 go_wp2_with fail
 go_ret2
 exact⟨C,D,rfl,A.out,H.out,I.out⟩
def NN(a d f b c:Nat):Value:=.agg #[Qi (a:Nat),Qi (d:Nat),Qi (f:Nat),Qi (b:Nat),.int .u32 (c:Nat)]
theorem zqh(w:World)(d i f b h a n:Nat)(p:f<=100000)(q:b<=100000)(r:a<=1000000)(s:n<=1100000) :
 Qk 255 #[NN d i f b h,Qi (a:Nat),Qi (n:Nat)] w λe m=>e=.returned (.tuple #[Qi ((a-f:Nat):Nat),Qi (Kq a n f b:Nat)])/\Qb w m:=by
 unfold NN;have t:IntKind.i64.wrap ((a:Int)-f)=(a:Int)-f:=AU _ Q0
 have u:IntKind.i64.wrap ((a:Int)-f+n)=(a:Int)-f+n:=AU _ Q0
 obtain⟨g,c⟩:=Qe w.heap.size;have o:=Aa c;have j:=Aa (Ay (Ag w.heap.size w) (.cells #[Qi (d:Nat),Qi (i:Nat),Qi (f:Nat),Qi (b:Nat),.int .u32 (h:Nat)] 56));clear c
 go_enter Tryz.func255,Tryz.ntmps255
 go_wp2_with fail
 go_quiet (fail)
 go_wp2_with fail
 go_ret2
 have k:max ((a:Int)-f) 0=((a-f:Nat):Int):=Q0
 have l:max (min ((a:Int)-f+n) b) (max ((a:Int)-f) 0)=((Kq a n f b:Nat):Int):=by unfold Kq;omega
 refine⟨?_,EW j.out _⟩
 show Ending.returned (.tuple #[Qi (max ((a:Int)-f) 0),Qi (max (min ((a:Int)-f+n) b) (max ((a:Int)-f) 0))])=_
 rw[l,k]
theorem znx(w:World)(a n:Nat)(h:a<=1000000)(i:n<1048576) :
 Qk 107 #[Qi (a:Nat),Qi (n:Nat)] w λe b=>e=.returned (.bool true)/\Qb w b:=by
 have c:decide ((a:Int)>=0)=true:=Bl Q0
 have d:decide ((n:Int)>=0)=true:=Bl Q0
 have f:decide ((n:Int)<1048576)=true:=Bl Q0
 have g:decide (n<1048576)=true:=Bl Q0
 go_enter Tryz.func107,Tryz.ntmps107
 go_wp2_with fail
 go_ret
 exact⟨rfl,Ag _ _⟩
def Fl(a:List UInt8)(e:Value)(R c:Nat)(d f:Value)(b:Nat):Value:=.agg #[.string ⟨a.toArray⟩,e,Qi (R:Nat),Qi (c:Nat),d,f,Qi (b:Nat)]
theorem zng(w:World)(a:List UInt8)(j:Value)(R c:Nat)(r t:Value)(m:Nat)(i:List Ai)(p:Au w j i)(k:Bz i)(b n:Nat)(A:b<=1000000)(B:n<=1100000) :
 Qk 110 #[Fl a j R c r t m,Qi (b:Nat),Qi (n:Nat)] w λe y=>e=.returned (Qi (if(Bi i).length<b+n then 8 else 0))/\Qb w y:=by
 unfold Fl;obtain⟨s,q⟩:=Qe (Value.string ⟨a.toArray⟩);rw[q];obtain⟨T,o⟩:=Qe ((Bi i).length);have z:=k.len;have f:=Aa (Ay (Ag w.heap.size w) (.cells #[s,j,Qi (R:Nat),Qi (c:Nat),r,t,Qi (m:Nat)] 39));have d:=Aa (TN _ j i (Au.up p f.out) k);rw[o] at d z |-;have u:IntKind.i64.wrap ((T:Int)-n)=(T:Int)-n:=AU _ Q0
 clear p k o q
 by_cases h:T<b+n
 ·have v:decide ((b:Int)> (T:Int)-n)=true:=Bl Q0
  have x:decide ((T:Int)-n<(b:Int))=true:=Bl Q0
  simp only[h,L5]
  go_enter Tryz.func110,Tryz.ntmps110
  go_wp2_with fail
  refine d.out.mono ?_;rintro e u ⟨rfl,g⟩;have l:=Aa (A9 g f.out);clear g d f
  go_wp2_with fail
  go_ret
  exact⟨rfl,l.out⟩
 ·have v:decide ((b:Int)> (T:Int)-n)=false:=AV Q0
  have x:decide ((T:Int)-n<(b:Int))=false:=AV Q0
  simp only[h,M4]
  go_enter Tryz.func110,Tryz.ntmps110
  go_wp2_with fail
  refine d.out.mono ?_;rintro e u ⟨rfl,g⟩;have l:=Aa (A9 g f.out);clear g d f
  go_wp2_with fail
  go_ret
  exact⟨rfl,l.out⟩
theorem zrj(F:Nat)(m:HE->Int)(s:Pe F m)(w:World)(l:Nat)(t:Qg w l #[.func (.func F) #[] #[]] 388)(b:Nat)(j:Array Value)(D:Enters Tryz.prog b)(S:List HE->Prop)(N:Nat)(E:N<=1000)(g:∀a,S a->a.length<=2/\∀h∈a,h.st<=1099511627776)(z:∀n,4<=n->PK n b j Ma (λk=>w.heap.size<=k) S N w) :
 Qk 296 #[.func (.func b) #[] j,.func (.func 298) #[] #[.pointer (some ⟨l,0,none⟩)]] w λe u=>∃v a,e=.returned v/\S a/\u.ownsRow w.heap.size 271 3 v a.length (BB (FD m a))/\Qb w u:=by
 have C:=Aa (ZJ w b j D S N E (λa h=>by have:=(g a h).1;omega) z)
 have r:=Aa g;have A:=Aa s;have I:=Aa t;clear z g s t
 go_enter Tryz.func296,Tryz.ntmps296
 go_wp2_with fail
 refine C.out.mono ?_;rintro e G ⟨v,a,rfl,f,i,d⟩;have o:=Aa (zr7 F m A.out G l (Al d I.out) a (r.out a f).1 (r.out a f).2 w.heap.size d.size v i);obtain⟨q,c,rfl⟩:=EN i;have p:=Aa d;have J:=Aa f;clear i d f C
 go_wp2_with fail
 refine o.out.mono ?_;rintro e L ⟨⟨K,rfl⟩,y,x⟩;have B:=Aa y;have H:=Aa (p.out.trans x);clear y x o p
 go_wp2_with fail
 go_ret
 exact⟨_,a,rfl,J.out,B.out,H.out⟩
theorem zmf(F:Nat)(j:HE->Int)(o:Pe F j)(w:World)(r:Value)(H:List HE)(a:Rd w w.heap.size 3 r H.length (BB H))(p:H.length<=2)(z:∀h∈H,h.st<=1099511627776) :
 Qk 269 #[.agg #[.func (.func F) #[] #[]],r] w λe t=>∃v,e=.returned v/\t.ownsRow w.heap.size 271 3 v H.length (BB (FD j H))/\Qb w t:=by
 obtain⟨q,c,rfl,-,-⟩:=a.isSlice;have l:=Aa (λW=>zvB q H.length c W);have Cw:=Cw;obtain⟨s,i⟩:=Qe w.heap.size;have D:=Aa (Am w (.cells #[.func (.func F) #[] #[]] 388) s i.symm);have b:=Aa (Ay (Ag w.heap.size w) (.cells #[.func (.func F) #[] #[]] 388));have m:=Aa (Rd.up a b.out);have B:=Aa o;have f:=Aa p;have J:=Aa z;have I:=Aa i;clear a o p z i
 go_enter Tryz.func269,Tryz.ntmps269
 go_upto_region 1 with(fail)
 rw[I.out];generalize w.alloc (.cells #[.func (.func F) #[] #[]] 388)=W at*
 go_wp2_with fail
 refine(l.out _).mono ?_;rintro e M ⟨rfl,rfl⟩;have d:=Ay (Ag W.heap.size W) (.cells #[.slice q H.length c] 34)
 have k:=Aa (zrj F j B.out _ s (Al d D.out) 326 #[.pointer (some ⟨W.heap.size,0,none⟩)] zma (λg=>g=H) H.length (by have:=f.out;omega) (λg h=>by subst h;exact⟨f.out,J.out⟩)
  (λn E=>ztt n E W.heap.size (.slice q H.length c) H _ (Am _ _ _ rfl) (Rd.up m.out d) (by have:=f.out;omega)))
 have u:=Aa (b.out.trans (d.mono b.out.size));have A:w.heap.size<=(W.alloc (.cells #[.slice q H.length c] 34)).heap.size:=u.out.size;have x:=Aa A;clear d b m l A
 go_wp2_with fail
 refine k.out.mono ?_;rintro e N ⟨v,g,rfl,rfl,a,y⟩;obtain⟨L,K,rfl⟩:=EN a;have C:=Aa (EY a x.out);have G:=Aa (u.out.trans (y.mono x.out));clear a y k
 go_wp2_with fail
 go_ret
 exact⟨_,rfl,C.out,G.out⟩
