import Derived.Test.YtoejfkeofbdalaaGreatDoorM28
import Derived.Test.YtoejfkeofbdalaaGreatDoorM29
set_option linter.all false
set_option maxRecDepth 100000
set_option maxHeartbeats 8000000
namespace Go.Proofs.YtoejfkeofbdalaaGreatDoor
open Go.RowKit
variable {D:List Bool} {a:List (List UInt8)} {e:List UInt8} {f:List Nat} {i k m n:Nat}
theorem zkr(L:List (List Bool))(c:Nat)(h:∀l∈L,l.length<=c):L.flatten.length<=c*L.length:=by
 induction L with
 |nil=>simp
 | cons x L b =>
   have d:=h x Jh;have e:=b λl a=>h l (J6 _ a);rw[Oc,AJ,Bt,SF];omega
theorem WR(p:List UInt8):(BJ p).length<=p.length+1:=by
 unfold BJ;have:=R3 p;simp;omega
theorem Xz(m:List Nat)(n i:Nat):IG m n i<2:=by unfold IG;split<;>omega
theorem zpw(t p:List UInt8)(w:p.length<=360)(j:p≠[]):(Kf t p).length<=30000:=by
 have u:=O3 p;have y:0<(Bq p).length:=Ga.2 (Nu j);have v:=WR p;obtain⟨m,a⟩:=Qe (BJ p);obtain⟨n,e⟩:=Qe ((Bq p).length+2);have h:Cs m.length<=37:=by rw[<-a];simp only[Cs];omega
 obtain⟨G,z⟩:=Qe (Cs m.length)
 have f:(OQ t p).flatten.length<=48+32+16+272+3+15+6*37:=by
  unfold OQ;have o:=zjU (Bq p)
  have q:=ZK 2 Q0 (Cz m n) (List.range 6) (RF 2 Q0) (λx d=>by
   obtain⟨k,-,rfl⟩:=C8.1 d;exact Xz m n k)
  have r:(Cz m n).length<=37:=by simp only[Cz,Da,Gn];omega
  rw[a,e];simp only[Oc,List.flatten_nil,AJ,B.length_low,D4];omega
 have c:∀i,Code (B6 m n i)/\(B6 m n i).length=n:=λi=>Qy m n i (by rw[<-a];omega) Q0 Q0
 have g:(Sh p).flatten.length<=10583*2:=by
  refine BU (zkr _ 10583 ?_) ?_
  ·intro l b
   obtain⟨i,-,rfl⟩:=C8.1 b;rw[a,e];have f:=YC (B6 m n i) λx d=>((c i).1.fits x d).2;have g:=(c i).2;omega
  ·unfold Sh
   simp
 have s:((List.range (Cs m.length)).map (Sj p)).flatten.length<=200*37:=by
  refine BU (zkr _ 200 ?_) ?_
  ·intro l b
   obtain⟨i,-,rfl⟩:=C8.1 b;unfold Sj;rw[a,e];refine BU (Yx (c _).1.fits _) ?_;have:=OL m i;omega
  ·rw[Da,Gn]
   exact QP _ h
 unfold Kf Tt;rw[a,P5,P5,AJ,AJ];omega
def BC(u:List UInt8)(a:Nat)(X:List Bool):Prop:=a+X.length<=8*u.length/\B.slice u a X.length=X
theorem BC.cut{P:List Bool}(h:BC e n (D++P)):BC e n D/\BC e (n+D.length) P:=by
 obtain⟨c,a⟩:=h;rw[AJ] at c a;rw[B.slice_append] at a;have b:=List.append_inj a (by rw[B.length_slice])
 exact⟨⟨Q0,b.1⟩,⟨Q0,b.2⟩⟩
theorem BC.low(h:BC e n (B.low m k))(c:m<2 ^ k):n+k<=8*e.length/\B.num (B.slice e n k)=m:=by
 obtain⟨a,b⟩:=h;rw[B.length_low] at a b;exact⟨a,by rw[b,B.num_low,Mt c]⟩
theorem BC.map{E:List UInt8}(h:BC e n (FJ E))(a:E≠[]):LH e n=.ok (Bq E,n+(FJ E).length):=by
 refine zmg e n E a h.1 λi b=>?_;rw[<-B.getD_slice e n _ i b,h.2]
theorem BC.rest(h:BC e n D):rest e n=D++rest e (n+D.length):=by
 have:=U7 e n D.length h.1;rw[h.2] at this;exact this
theorem BC.sel{t:Nat}(h:BC e n (FX (List.range 6) f))(a:t<=6)(c:∀b∈f,b<t):LW e t n f.length=.ok (f,n+(FX (List.range 6) f).length):=by
 have d:=h.1;unfold LW;rw[h.rest,zu4 t a f _ _ (RF t a) c];simp only[AJ];congr 2
 omega
theorem BC.delta(h:BC e n (FT f))(b:f≠[])(c:∀a∈f,1<=a/\a<=20):NH e n f.length=.ok (f,n+(FT f).length):=by
 have d:=h.1;rw[zmy e n _ Q0,h.rest,zlF f _ b c]
 unfold NC
 dsimp only
 rw[O4];congr 2
 omega
theorem BC.word(c:Code f)(a:f[m]?=some k)(h:BC e n (IW f m)):La f e n=.ok (m,((n+(IW f m).length:Nat):Int)):=by
 have d:(IW f m).length=k:=by rw[YY,a];rfl
 have g:=h.1;have b:=h.2;rw[d] at g b;have:=zrH c e n m k ⟨a,Q0,Q0,?_⟩
 ·rw[this,d];rfl
 ·rw[EM,b]
  unfold IW;rw[B.num_low,a];exact Mt (zqq c a)
def Sm(S:List Nat)(n j:Nat):List Bool:=IW (B6 S n (IG S n (j / 10))) (S.getD j 0)
def IU(S:List Nat)(n j:Nat):List Bool:=(List.range j).flatMap (Sm S n)
theorem VP(S:List Nat)(n j:Nat):IU S n (j+1)=IU S n j++Sm S n j:=by
 unfold IU;rw[Fh,Iw];simp
theorem ztE(S:List Nat)(g:Nat)(h:10*g<=S.length):Ee S g=(List.range (min (10*g+10) S.length-10*g)).map λi=>S.getD (10*g+i) 0:=by
 unfold Ee;apply Mo
 ·simp
 ·intro i b a
  simp only[Da,Gn] at a;rw[Vp,List.getElem_range,List.getElem_drop,Ob,Cx,Az Q0]
  rfl
theorem zpl(S:List Nat)(n g:Nat)(h:10*g<=S.length) :
 IU S n (min (10*g+10) S.length)=IU S n (10*g)++Gw (B6 S n (IG S n g)) (Ee S g):=by
 obtain⟨d,a⟩:∃d,min (10*g+10) S.length=10*g+d:=⟨min (10*g+10) S.length-10*g,Q0⟩
 have c:d<=10:=Q0
 rw[ztE S g h,a,show 10*g+d-10*g=d by omega]
 unfold IU Gw;rw[List.range_add,Iw];congr 1
 rw[List.flatMap_map,List.flatMap_map];unfold List.flatMap;congr 1
 apply Gl
 intro i b;rw[EB] at b;unfold Sm;rw[show(10*g+i)/ 10=g by omega]
theorem zts(S:List Nat)(n:Nat):∀g,g<=Cs S.length->((List.range g).map λi=>Gw (B6 S n (IG S n i)) (Ee S i)).flatten=IU S n (min (10*g) S.length):=by
 intro g
 induction g with
 |zero=>intro _;simp[IU]
 | succ g c =>
   intro b;have a:10*g<=S.length:=by simp only[Cs] at b;omega
   rw[Fh,D3,P5,c Q0,Fs a,show 10*(g+1)=10*g+10 by omega,zpl S n g a]
   simp
theorem zs2(p:List UInt8):((List.range (Cs (BJ p).length)).map (Sj p)).flatten=IU (BJ p) ((Bq p).length+2) (BJ p).length:=by
 have:=zts (BJ p) ((Bq p).length+2) (Cs (BJ p).length) (Af _);rw[show min (10*Cs (BJ p).length) (BJ p).length=(BJ p).length by simp only[Cs];omega] at this
 exact this
theorem zuK(p:List UInt8)(h:p≠[]):∀s∈BJ p,s<(Bq p).length+2:=by
 intro s a;unfold BJ at a;rcases FZ.1 a with a|a
 ·have:=Sd p h s a;omega
 ·have:s=(Bq p).length+1:=by simpa using a
  omega
theorem ztH(p:List UInt8)(h:p≠[])(q:Nat)(b:q<(BJ p).length):(BJ p).getD q 0=(Bq p).length+1↔q+1=(BJ p).length:=by
 unfold BJ at b |-;rw[AJ,Og] at b |-;rw[Cx]
 by_cases a:q<(F4 p).length
 ·rw[FP a,Az a]
  have:=Sd p h _ (Et a);simp only[Es];omega
 ·obtain rfl:q=(F4 p).length:=Q0
  simp
structure UZ(u:List UInt8)(a:Nat)(t p:List UInt8)(S:List Nat)(n G:Nat)(C:List Nat)(T:Nat->List Nat)(b:Nat)(ax px:Nat->Nat):Prop where
 fit0:a+96<=8*u.length
 m48:B.num (B.slice u a 48)=54156738319193
 s32:B.num (B.slice u (a+48) 32)=BG t
 o16:B.num (B.slice u (a+80) 16)=EP p
 un:LH u (a+96)= .ok (Bq p,b)
 fit1:b+18<=8*u.length
 n3:B.num (B.slice u b 3)=2
 n15:B.num (B.slice u (b+3) 15)=G
 sel:LW u 2 (b+18) G=.ok (C,ax 0)
 tabs:∀i,i<2->NH u (ax i) n=.ok (T i,ax (i+1))/\Code (T i)/\(T i).length=n
 ax2:px 0=ax 2
 word:∀q,q<S.length->La (T (C.getD (q / 10) 0)) u (px q)= .ok (S.getD q 0,(px (q+1):Nat))
 top:px S.length=a+(Kf t p).length
 axle:∀i,ax i<=8*u.length
 pxle:∀i,i<=S.length->px i<=8*u.length
theorem Xa(t p:List UInt8):Kf t p=B.low 54156738319193 48++(B.low (BG t) 32++(B.low (EP p) 16++(FJ (Bq p)++(B.low 2 3++(B.low (Cs (BJ p).length) 15++(FX (List.range 6) (Cz (BJ p) ((Bq p).length+2))++(FT (B6 (BJ p) ((Bq p).length+2) 0)++(FT (B6 (BJ p) ((Bq p).length+2) 1)++IU (BJ p) ((Bq p).length+2) (BJ p).length)))))))):=by
 unfold Kf Tt;rw[P5,P5,zs2];unfold OQ Sh;simp[Fh]
theorem zm7:∀{M},BC e n (IU f m M)->∀q,q<M->BC e (n+(IU f m q).length) (Sm f m q):=by
 intro M
 induction M with
 |zero=>intro _ q d;omega
 | succ M g =>
   intro h q d;rw[VP] at h;obtain⟨a,b⟩:=h.cut
   by_cases c:q=M
   ·subst c;exact b
   ·exact g a q Q0
theorem zra(S:List Nat)(a:Nat){n m:Nat}(h:n<=m):(IU S a n).length<=(IU S a m).length:=by
 obtain⟨d,rfl⟩:∃d,m=n+d:=⟨m-n,Q0⟩
 clear h
 induction d with
 |zero=>exact Af _
 |succ d b=>rw[<-Lv,VP,AJ];omega
theorem zri(u:List UInt8)(a:Nat)(t p:List UInt8)(s:p≠[])(hp:p.length<=360)(h:BC u a (Kf t p)) :
 ∃b L Y,UZ u a t p (BJ p) ((Bq p).length+2) (Cs (BJ p).length) (Cz (BJ p) ((Bq p).length+2)) (B6 (BJ p) ((Bq p).length+2)) b L Y:=by
 have b0:=O3 p;have b1:0<(Bq p).length:=Ga.2 (Nu s);have hm:=WR p;have a3:=zuK p s;have U:EP p<65536:=by have:=Sb p s;omega
 have R:=Qu t;have a7:=Co List.length (Xa t p);rw[Xa] at h;generalize BJ p=S at*
 generalize b2:(Bq p).length+2=n at*
 have d:∀i,Code (B6 S n i)/\(B6 S n i).length=n:=λi=>Qy S n i Q0 Q0 Q0
 obtain⟨Z,h⟩:=h.cut;obtain⟨q2,h⟩:=h.cut;obtain⟨F,h⟩:=h.cut;obtain⟨G,h⟩:=h.cut;obtain⟨y,h⟩:=h.cut;obtain⟨z,h⟩:=h.cut;obtain⟨r,h⟩:=h.cut;obtain⟨m,h⟩:=h.cut;obtain⟨j,g⟩:=h.cut;have P:Cs S.length<2 ^ 15:=by simp only[Cs];omega
 have z1:=Z.low Q5
 have H:=q2.low R;have I:=F.low U;have A:=y.low Q5
 have w:=z.low P;have a8:Bq p≠[]:=Nu s;have v:=G.map a8;have J:(Cz S n).length=Cs S.length:=by simp[Cz]
 have o:=r.sel (t:=2) Q0 (λa9 X=>by
  obtain⟨k,-,rfl⟩:=C8.1 X;exact Xz S n k)
 rw[J] at o;have K:∀i,B6 S n i≠[]:=λi e=>by have:=(d i).2;rw[e] at this;simp at this;omega
 have l:=m.delta (K 0) (d 0).1.fits;have f:=j.delta (K 1) (d 1).1.fits;rw[(d 0).2] at l;rw[(d 1).2] at f;simp only[B.length_low] at*
 rw[Y8] at v;obtain⟨b,Q⟩:=Qe (a+96+(FJ (Bq p)).length);have M:a+48+32=a+80:=Q0
 have N:a+80+16=a+96:=Q0
 simp only[M,N] at F G y z r m j g H I v A w o l f;simp only[Q] at y z r m j g v A w o l f;have O:b+3+15=b+18:=Q0
 simp only[O] at r m j g w o l f;obtain⟨c,a0⟩:=Qe (b+18+(FX (List.range 6) (Cz S n)).length);simp only[a0] at m j g o l f;obtain⟨C,a1⟩:=Qe (c+(FT (B6 S n 0)).length);simp only[a1] at j g l f;obtain⟨D,a2⟩:=Qe (C+(FT (B6 S n 1)).length);simp only[a2] at g f;have b3:=r.1;have b4:=m.1;have b5:=j.1;have b6:=g.1;refine⟨b,λi=>if i=0 then c else if i=1 then C else D,λq=>D+(IU S n q).length,?_⟩
 refine⟨Q0,z1.2,H.2,I.2,v,Q0,A.2,w.2,o,?_,?_,?_,?_,?_,?_⟩
 ·intro i E
  rcases(by omega:i=0\/i=1) with rfl|rfl
  ·exact⟨l,(d 0)⟩
  ·exact⟨f,(d 1)⟩
 ·simp[IU]
 ·intro q x
  have W:=zm7 g q x;have a4:q / 10<(Cz S n).length:=by rw[J];simp only[Cs];omega
  have a6:(Cz S n).getD (q / 10) 0=IG S n (q / 10):=by
   rw[Cx,Az a4];simp[Cz]
  rw[a6]
  have a5:S.getD q 0∈S:=by
   rw[Cx,Az x];exact Et x
  have V:=a3 _ a5;have T:(B6 S n (IG S n (q / 10)))[S.getD q 0]?=some ((B6 S n (IG S n (q / 10)))[S.getD q 0]'(by rw[(d _).2];exact V)):=Az _
  have:=BC.word (d _).1 T W;rw[this,VP,AJ];unfold Sm;congr 3
  omega
 ·rw[a7]
  simp only[AJ,B.length_low];omega
 ·intro i
  try dsimp only
  split
  ·omega
  ·split<;>omega
 ·intro i E
  have:=zra S n E
  try dsimp only
  omega
theorem BC.zero(h:BC e n (List.replicate m false)):n+m<=8*e.length/\B.num (B.slice e n m)=0:=by
 obtain⟨a,b⟩:=h;rw[Jg] at a b;refine⟨a,?_⟩;rw[b];clear a b
 induction m with
 |zero=>rfl
 |succ m c=>rw[List.replicate_succ',B.num_snoc,c];rfl
theorem BC.bit(h:BC e n D)(i:Nat)(a:i<D.length):B.bitAt e (n+i)=D.getD i false:=by
 rw[<-B.getD_slice e n D.length i a,h.2]
theorem BC.bytes{hd:List UInt8}(h:BC e (8*n) (B.slice hd 0 (8*hd.length)))(k:Nat)(c:k<hd.length):e.getD (n+k) 0=hd.getD k 0:=by
 refine B.byte_ext _ _ λj b=>?_;have a:=h.bit (8*k+(7-j)) (by rw[B.length_slice];omega)
 rw[B.getD_slice _ _ _ _ Q0] at a
 unfold B.bitAt at a;rw[show(8*n+(8*k+(7-j)))/ 8=n+k by omega,show(8*n+(8*k+(7-j)))%8=7-j by omega,show(0+(8*k+(7-j)))/ 8=k by omega,show(0+(8*k+(7-j)))%8=7-j by omega,show 7-(7-j)=j by omega] at a
 exact a
def LM(a:Nat):List UInt8:=[80,77,107,UInt8.ofNat (48+a)]
def Fm(t:List UInt8):List Bool:=Kf t (D6 t)
def Ja(z:Nat):List Bool:=B.low 25779555029136 48++B.low z 32
def DX(a:List (List UInt8)):List Bool:=(a.map Fm).flatten
def Ij(a:Nat)(b:List (List UInt8))(z:Nat):List Bool:=B.slice (LM a) 0 32++(DX b++Ja z)
def EJ(a:Nat)(b:List (List UInt8))(q:Nat):Nat:=a+(DX (b.take q)).length
theorem VS(z:Nat):(Ja z).length=80:=by simp[Ja,B.length_low]
theorem zq6(a:List (List UInt8))(t:List UInt8):DX (a++[t])=DX a++Fm t:=by simp[DX]
theorem Zd(a b:List (List UInt8)):DX (a++b)=DX a++DX b:=by simp[DX]
theorem OB(b:Nat)(a:List (List UInt8))(z:Nat):(Ij b a z).length=112+(DX a).length:=by
 simp only[Ij,AJ,B.length_slice,VS];omega
theorem UI(l:List UInt8):l.length<=51*Gs l:=by
 induction hn:l.length using Nat.strongRecOn generalizing l with
 | ind n a =>
   by_cases h:l=[]
   ·subst h;simp only[D4] at hn;omega
   ·have b:=MF h
    have c:=WZ l;have d:=Qx l;have e:(l.drop (Cr l)).length=l.length-Cr l:=by simp
    have f:=a _ Q0 (l.drop (Cr l)) rfl
    have g:Cr l<=51*Ea (Cr l):=by unfold Ea;split<;>omega
    rw[VL h];omega
theorem znH(h:e≠[]):D6 e≠[]:=by
 intro b;have a:=TK e;rw[b] at a;have c:=UI e;have d:0<e.length:=Ga.2 h;simp only[D4] at a;omega
def ML(a:Nat)(t:List UInt8):Prop:=t≠[]/\Gs t<=a
structure Bv(u:List UInt8)(i lv:Nat)(ts:List (List UInt8))(z pad:Nat):Prop where
 lies:BC u (8*i) (Ij lv ts z++List.replicate pad false)
 pad8:(112+(DX ts).length+pad)%8=0
 pad7:pad<8
 lv1:1<=lv
 lv9:lv<=9
 ok:∀t∈ts,ML (40*lv) t
 z32:z<4294967296
theorem Bv.head{g:List (List UInt8)}(h:Bv e n m g k i):n+4<=e.length/\∀a,a<4->e.getD (n+a) 0=(LM m).getD a 0:=by
 have b:=h.lies;unfold Ij at b;rw[BN] at b;obtain⟨c,-⟩:=b.cut;have d:=c.1;rw[B.length_slice] at d;refine⟨Q0,λa f=>?_⟩
 exact BC.bytes (hd:=LM m) c a f
theorem Bv.body{c:List (List UInt8)}(h:Bv e n m c k i):BC e (8*n+32) (DX c++(Ja k++List.replicate i false)):=by
 have a:=h.lies;unfold Ij at a;rw[BN] at a;obtain⟨-,b⟩:=a.cut;rw[B.length_slice,BN] at b;exact b
theorem zkj(a:Nat)(b:List (List UInt8)):EJ a b 0=a:=by simp[EJ,DX]
theorem zl9(a:List (List UInt8))(q:Nat)(b:q<a.length):a.take (q+1)=a.take q++[a[q]]:=Ep b
theorem zkp(a:Nat)(b:List (List UInt8))(q:Nat)(c:q<b.length):EJ a b (q+1)=EJ a b q+(Fm b[q]).length:=by
 unfold EJ;rw[zl9 b q c,zq6,AJ,Lv]
theorem WH(a:Nat)(b:List (List UInt8)):EJ a b b.length=a+(DX b).length:=by simp[EJ]
theorem Bv.block(h:Bv e n m a k i)(q:Nat)(f:q<a.length):BC e (EJ (8*n+32) a q) (Fm a[q]):=by
 have b:=h.body.cut.1;have d:a=a.take q++([a[q]]++a.drop (q+1)):=by simp
 rw[d,Zd,Zd] at b;have c:=b.cut.2.cut.1;rw[show DX [a[q]]=Fm a[q] by simp[DX]] at c
 exact c
theorem Bv.endAt(h:Bv e n m a k i):BC e (EJ (8*n+32) a a.length) (Ja k++List.replicate i false):=by
 rw[WH];exact h.body.cut.2
theorem Zn(t:List UInt8):∃Y,Fm t=B.low 54156738319193 48++Y:=⟨_,Xa t (D6 t)⟩
theorem zze(t:List UInt8):48<=(Fm t).length:=by
 obtain⟨Y,a⟩:=Zn t;rw[a,AJ,B.length_low];omega
theorem zmB(b:Nat)(a:List (List UInt8))(z:Nat)(g:1<=b)(h:b<=9)(m:∀t∈a,ML (40*b) t)(j:z<4294967296):∃f,Bv (B.pack (Ij b a z)) 0 b a z f/\8*(B.pack (Ij b a z)).length=112+(DX a).length+f:=by
 have e:=B.length_pack (Ij b a z);rw[OB] at e;refine⟨8*((112+(DX a).length+7)/ 8)-(112+(DX a).length),⟨⟨?_,?_⟩,Q0,Q0,g,h,m,j⟩,Q0⟩
 ·rw[AJ,Jg,OB,e];omega
 ·apply Mo
  ·rw[B.length_slice]
  ·intro k i l
   rw[B.length_slice,AJ,Jg,OB] at i;have c:=B.getD_slice (B.pack (Ij b a z)) (8*0) (Ij b a z++List.replicate (8*((112+(DX a).length+7)/ 8)-(112+(DX a).length)) false).length k (by rw[AJ,Jg,OB];omega)
   rw[Cx,Az (by rw[B.length_slice];exact l),Es,B.bitAt_pack] at c
   rw[c,show 8*0+k=k by omega]
   by_cases d:k<(Ij b a z).length
   ·rw[List.getElem_append_left d,Cx,Az d];rfl
   ·rw[List.getElem_append_right Q0,List.getElem_replicate,Cx,EU Q0];rfl
structure Av where
 lv:Nat
 ts:List (List UInt8)
 z:Nat
 pad:Nat
structure Ai where
 t:List UInt8
 at0:Nat
 next:Nat
 room:Nat
def Av.bytes(S:Av):Nat:=(112+(DX S.ts).length+S.pad)/ 8
def Av.good(S:Av):Bool:=S.z ==Gj (S.ts.map BG)
def Av.part(i:Nat)(S:Av)(q:Nat):Ai:=⟨S.ts.getD q [],EJ (8*i+32) S.ts q,EJ (8*i+32) S.ts (q+1),40*S.lv⟩
def Av.parts(i:Nat)(S:Av):List Ai:=(List.range S.ts.length).map (S.part i)
def KS(u:List UInt8):Nat->List Av->Prop
 |i,[]=>i=u.length
 |i,S::L=>Bv u i S.lv S.ts S.z S.pad/\KS u (i+S.bytes) L
def DU:Nat->List Av->List (Option Ai)
 |_,[]=>[]
 |i,S::L=>(S.parts i).map some++(if S.good then DU (i+S.bytes) L else[none])
def Pb:Nat->List Av->List Ai
 |_,[]=>[]
 |i,S::L=>S.parts i++Pb (i+S.bytes) L
theorem Av.bytes8{S:Av}(h:Bv e n S.lv S.ts S.z S.pad):8*S.bytes=112+(DX S.ts).length+S.pad:=by
 have:=h.pad8;unfold Av.bytes;omega
theorem Av.fits{S:Av}(h:Bv e n S.lv S.ts S.z S.pad):n+S.bytes<=e.length:=by
 have a:=h.lies.1;have b:=Av.bytes8 h;rw[AJ,Jg,OB] at a;omega
theorem Av.bytes_pos(S:Av):14<=S.bytes:=by unfold Av.bytes;omega
theorem zrT(a:Nat)(b:List (List UInt8))(z:Nat)(d:1<=a)(e:a<=9)(g:∀t∈b,ML (40*a) t)(f:z<4294967296):∃c,KS (B.pack (Ij a b z)) 0 [⟨a,b,z,c⟩]:=by
 obtain⟨c,h,i⟩:=zmB a b z d e g f;refine⟨c,h,?_⟩;have j:8*Av.bytes ⟨a,b,z,c⟩=112+(DX b).length+c:=Av.bytes8 (S:=⟨a,b,z,c⟩) h
 show 0+Av.bytes ⟨a,b,z,c⟩=_
 omega
theorem Av.length_parts(i:Nat)(S:Av):(S.parts i).length=S.ts.length:=by simp[Av.parts]
theorem Av.parts_t(i:Nat)(S:Av):(S.parts i).map (·.t)=S.ts:=by
 apply Mo
 ·simp[Av.parts]
 ·intro k b a
  simp[Av.parts,Av.part,a]
theorem Bv.mag(h:Bv e n m a k i)(q:Nat)(d:q<a.length):EJ (8*n+32) a q+48<=8*e.length/\B.num (B.slice e (EJ (8*n+32) a q) 48)=54156738319193:=by
 have b:=h.block q d;obtain⟨Y,c⟩:=Zn a[q];rw[c] at b;exact b.cut.1.low Q5
theorem Bv.fin(h:Bv e n m a k i) :
 EJ (8*n+32) a a.length+80+i<=8*e.length/\B.num (B.slice e (EJ (8*n+32) a a.length) 48)=25779555029136/\B.num (B.slice e (EJ (8*n+32) a a.length+48) 32)=k/\B.num (B.slice e (EJ (8*n+32) a a.length+80) i)=0/\(EJ (8*n+32) a a.length+80+i)%8=0/\i<8:=by
 have b:=h.endAt;have l:=h.z32;have p:=h.pad8;have o:=h.pad7;unfold Ja at b;rw[BN] at b;obtain⟨f,b⟩:=b.cut;obtain⟨d,b⟩:=b.cut;rw[B.length_low] at d b;rw[B.length_low] at b;have g:=f.low Q5
 have j:=d.low l;have c:=b.zero;rw[WH] at*
 rw[show 8*n+32+(DX a).length+48+32=8*n+32+(DX a).length+80 by omega] at c
 exact⟨c.1,g.2,j.2,c.2,Q0,o⟩
theorem Av.next{S:Av}(h:Bv e n S.lv S.ts S.z S.pad):EJ (8*n+32) S.ts S.ts.length+80+S.pad=8*(n+S.bytes):=by
 have:=Av.bytes8 h;rw[WH];omega
theorem zp8(a:Nat)(b:List (List UInt8))(q:Nat)(c:q<b.length):EJ a b q+48<=EJ a b (q+1):=by
 rw[zkp a b q c];have:=zze b[q];omega
theorem Av.parts_take(i:Nat)(S:Av)(q:Nat)(a:q<S.ts.length):(S.parts i).take (q+1)=(S.parts i).take q++[S.part i q]:=by
 rw[Ep (by rw[Av.length_parts];exact a)]
 simp[Av.parts]
theorem zxG(a:List (List UInt8))(q:Nat)(b:q<a.length):(a.take (q+1)).map BG=(a.take q).map BG++[BG (a.getD q [])]:=by
 rw[zl9 a q b,D3,Cx,Az b];rfl
end Go.Proofs.YtoejfkeofbdalaaGreatDoor
namespace Go.Proofs.YtoejfkeofbdalaaGreatDoor
open Go.RowKit Go.Shelf
attribute [local go_sem] Oper.semAt_some
variable {T:TypeId->Bool} {i m n:Nat} {s:List Value} {v w:World}
def Tq(p:Ai):Value:=.agg #[.string ⟨p.t.toArray⟩,.int .u32 (BG p.t:Nat),Qi (p.at0:Nat),Qi (p.next:Nat)]
def UX(p:Ai):Value:=.agg #[.string ⟨p.t.toArray⟩,.int .u32 (BG p.t:Nat),Qi (p.at0:Nat),Qi (p.next:Nat),Qi (p.room:Nat)]
def zyB:Value:=.agg #[.string ⟨#[]⟩,.int .u32 0,Qi 0,Qi 0,Qi 0]
def NZ:Option Ai->Array Value
 |some p=>#[UX p,Qi 0]
 |none=>#[zyB,Qi 7]
def QF(t:TypeId):Bool:=t ==292 ||t ==53
def KY(t:TypeId):Bool:=QF t ||t ==9
def XL(s:ByteArray)(i:Nat)(S:Av):Prop:=∀q,q<S.ts.length->∀W,Qk 223 #[.string s,Qi (EJ (8*i+32) S.ts q:Nat),Qi ((40*S.lv:Nat):Int)] W λe a=>e=.returned (.tuple #[Tq (S.part i q),Qi 0])/\Qb W a
def zw1(S:Av)(i f:Nat)(s:ByteArray)(c:List (Option Ai))(J e:List (Option Ai)->World->Prop)(b:Bool)(a:World):Prop :=
 (b=true/\S.good=true/\J (c++(S.parts i).map some) a/\∃g,Fv a f s (8*(i+S.bytes)) g) \/
 (b=false/\S.good=false/\J ((c++(S.parts i).map some)++[none]) a) \/
 (b=false/\∃d,d <+: (c++(S.parts i).map some)++(if S.good then[] else[none])/\e d a)
theorem zkq{P:Program}{m2:Nat}{h:Array Value}{R:Ending->World->Prop}(b:YieldAt Fence.wide m P n h w R):YieldAt Fence.wide m2 P n h w R :=
 let ⟨f,k,l,j,g,a⟩:=b
 ⟨f,k,l,j,g,a.1,λc e _=>a.2 c e (λd i=>by cases i)⟩
theorem AB.only(a:Ab m w v)(j:n<=m){h:Array Value}{t:TypeId}{f:Nat × Nat}(g:Qh w m (Obj.cells h t f))(i:T t=true):AB n T w v :=
 ⟨a.os,a.tape,a.output,a.size,λb c d=>a.block b d Q0,λb o c d=>(a.block b (Aj c) (λe=>by
   subst e;rw[g] at c;cases c
   have:=d _ _ _ rfl;rw[i] at this;cases this)).trans c⟩
theorem zpJ(S:Av)(i q:Nat)(d:q<S.ts.length)(b X:List (Option Ai)):((b++((S.parts i).take q).map some)++[some (S.part i q)])<+: (b++(S.parts i).map some)++X:=by
 refine⟨((S.parts i).drop (q+1)).map some++X,?_⟩
 have c:(S.parts i).map some=((S.parts i).take q).map some++([some (S.part i q)]++((S.parts i).drop (q+1)).map some):=by
  have a:=Er (q+1) (S.parts i);rw[Av.parts_take i S q d] at a
  conv=>lhs;rw[<-a]
  simp
 rw[c];simp
theorem AZ.row{k:Nat}{x:Value}(h:AZ T w v)(a:w.ownsRow n m k x i s)(j:T m=true):v.ownsRow n m k x i s:=by
 refine⟨a.1,?_⟩;rcases a.2 with f|⟨g,l,o,b,c,d,e⟩
 ·exact .inl f
 ·exact .inr ⟨g,l,o,b,c,h _ _ _ _ j d,e⟩
theorem zo5{n0 q j a:Nat}{A b:Option Addr}{t:ByteArray}{S:List Value}{u:World}(f:Fv w m t i (.slice A q a))(g:w.ownsRow (m+1) 53 1 (.slice A q a) q s)(o:n0<=m)
 (c:Qb w v) (h:v.grownBy u (Value.slice A q a).ownBlock) (l:u.ownsRow (m+1) 53 1 (.slice b (q+1) j) (q+1) S) :
 Fv (u.setCell ⟨m,2,none⟩ (.slice b (q+1) j)) m t i (.slice b (q+1) j)/\(u.setCell ⟨m,2,none⟩ (.slice b (q+1) j)).ownsRow (m+1) 53 1 (.slice b (q+1) j) (q+1) S/\AB n0 QF w (u.setCell ⟨m,2,none⟩ (.slice b (q+1) j)):=by
 have n:=Aj f;have p:=c.size;have k:=(c.block m n).trans f;have d:=(h.block m Q0 (λe=>by have:=Dm g e.symm;omega)).trans k
 refine⟨?_,?_,?_⟩
 ·have:=Ak d 2 (.slice b (q+1) j)
  unfold Fv;simpa using this
 ·exact Dq l ((Ab.refl m u).set 2 _) (Kj m)
 ·exact((AB.of c).grown (Cd g c) Q5 Q0 h).set (q:=⟨m,2,none⟩) d Q5 o _
theorem zmo:Dh 107 53 (.int .u32 0) 1 4:=⟨Tryz.underlying107,Q2,rfl,Q5⟩
theorem zuj(n k3:Nat)(hn:3<=n)(d4 a n0:Nat)(s:ByteArray)(hs:s.size<=1099511627776)(S:Av)(i:Nat)(y:Bv s.data.toList i S.lv S.ts S.z S.pad)(d2:XL s i S)(l7:S.ts.length<=100000)(Z:n0<=a)
 (J d9:List (Option Ai)->World->Prop) (u:List (Option Ai)) (W:World) (m1:Value) (a2:Fv W a s (8*i) m1)
 (h2:∀s g6 g7,J s g6->AB n0 QF g6 g7->J s g7)
 (e0:∀(q:Nat)(x:Option Ai)(m:World),J (u++((S.parts i).take q).map some) m->(q<S.ts.length/\x=some (S.part i q)\/q=S.ts.length/\x=none/\S.good=false)->YieldAt Fence.wide k3 Tryz.prog d4 (NZ x) m λe j=>(e=.returned (.bool true)/\J ((u++((S.parts i).take q).map some)++[x]) j/\AZ KY m j/\m.heap.size<=j.heap.size)\/(e=.returned (.bool false)/\d9 ((u++((S.parts i).take q).map some)++[x]) j))
 (h0:J u W) :
 CallsIn Fence.wide n Tryz.prog 175 #[.pointer (some ⟨a,0,none⟩),.func (.yield d4) #[] #[]] W λe j=>∃g9,e=.returned (.bool g9)/\zw1 S i a s u J d9 g9 j:=by
 obtain⟨P,a5⟩:=Qe (EJ (8*i+32) S.ts);obtain⟨N,a4⟩:=Qe S.ts.length;obtain⟨g8,b9⟩:=Qe (40*S.lv);have g2:s.data.toList.length=s.size:=by simp
 have k5:Hid (∀W,Qk 230 #[.string s,Qi (i:Nat)] W λe D=>e=.returned (.tuple #[Qi (g8:Nat),Qi 0])/\W=D):=λW=>by
  have:=zy5 W s i S.lv hs (by have:=y.head.1;omega) y.lv1 y.lv9 y.head.2
  rw[b9] at this;exact this
 have a0:=y.mag;have d3:=y.fin;have I:=Av.next y;have l:=zp8 (8*i+32) S.ts;have g1:=zkj (8*i+32) S.ts;have l6:=y.head.1;unfold XL at d2;rw[a5,a4] at d3 I;rw[a5] at a0 l g1;rw[a5,a4,b9] at d2;rw[a4] at a0 l e0 l7;have d7:Hid (∀q,q<N->∀W,Qk 231 #[.string s,Qi (P q:Nat),Qi 48] W λe D=>e=.returned (.tuple #[.int .u64 54156738319193,Qi 0])/\W=D):=λq hq W=>UQ s (P q) 48 54156738319193 W hs Q0 (by have:=(a0 q hq).1;omega) (a0 q hq).2
 have h9:Hid (∀q,q<N->P q+48<=8*s.size):=λq hq=>by have:=(a0 q hq).1;omega
 have d6:Hid (∀W,Qk 231 #[.string s,Qi (P N:Nat),Qi 48] W λe D=>e=.returned (.tuple #[.int .u64 25779555029136,Qi 0])/\W=D):=λW=>UQ s (P N) 48 25779555029136 W hs Q0 Q0 d3.2.1
 have d5:=Aa d2;have d8:=Aa e0;have B:=Aa h2;have HE:=Aa a2;have n7:=Aa y;have j7:=Aa d3;have i0:=Aa I;have h8:=Aa l;have h1:=Aa a5;have O:=Aa a4;have l2:=Aa b9;have n5:=Aa g1;have R:=(Ae a2 0).trans rfl;have A:=(Ae a2 1).trans rfl;have f:=Aj a2;obtain⟨a8,f7⟩:=Qe (8*i);have o1:(a8:Int).tdiv 8=(i:Int):=by rw[QR Q0];omega
 have o5:IntKind.i64.wrap (i:Int)=(i:Int):=AU _ Q0
 have o2:(a8:Int)/ 8=(i:Int):=Q0
 have o9:IntKind.i64.wrap ((a8:Int)+32)=((P 0:Nat):Int):=by rw[AU _ Q0];omega
 have n4:=Aa f7;have Y:Qc W a 1 (Qi (a8:Nat)):=by rw[<-f7];exact A
 clear A f7;clear a0 d3 I l g1 a5 a4 b9 e0 h2 a2 y d2 g2 l6;refine Mw Tryz.func175 rfl trivial ?_ rfl;simp only[Tryz.ntmps175,F6,Bt,D4,Nat.reduceAdd,Nat.reduceSub,GM,GL,GQ,GN,C6,Di];have n9:1<=n:=Q0
 gi_wp2_with fail
 refine wpIn_wide.2 ?_
 go_quiet ((go_at_call 230;exact N0 (k5.out _)))
 have g:=EW (Ag W.heap.size W) nq;have Q:W.frozen? ⟨a,1,none⟩=false:=Ah HE.out 1;have f2:W.frozen? ⟨a,2,none⟩=false:=Ah HE.out 2;have k2:=Bk HE.out
 gi_wp2_with fail
 have i6:Fv (((W.drewN nq).setCell ⟨a,1,none⟩ (Qi (P 0:Nat))).setCell ⟨a,2,none⟩ (.slice none 0 0)) a s (P 0) (.slice none 0 0):=by
  have z:=Ak ((g.block a f).trans HE.out) 1 (Qi ((P 0:Nat):Int));have w:=Ak z 2 (.slice none 0 0);unfold Fv;simpa using w
 have i7:AB n0 QF W (((W.drewN nq).setCell ⟨a,1,none⟩ (Qi (P 0:Nat))).setCell ⟨a,2,none⟩ (.slice none 0 0)):=by
  have z:=Ak ((g.block a f).trans HE.out) 1 (Qi ((P 0:Nat):Int));exact((AB.of g).set (q:=⟨a,1,none⟩) ((g.block a f).trans HE.out) Q5 Z _).set (q:=⟨a,2,none⟩) z Q5 Z _
 have i1:=Aa i6;have a6:=Aa (B.out _ _ _ h0 i7);clear i6 i7 g Q f2 R Y k2 f h0 HE;generalize((W.drewN nq).setCell ⟨a,1,none⟩ (Qi (P 0:Nat))).setCell ⟨a,2,none⟩ (.slice none 0 0)=m at*
 gi_loopw [6] (λev wr=>ev=Qi 0/\∃(q:Nat)(sv:Value),q<=N/\Hid (Fv wr a s (P q) sv)/\Hid (wr.ownsRow (a+1) 53 1 sv q (Jy ((S.ts.take q).map BG)))/\Hid (J (u++((S.parts i).take q).map some) wr)) (λ_ wr=>8*s.size+1-(intOf ((wr.cell? ⟨a,1,none⟩).getD undef)).toNat)
 case atStart=>exact⟨rfl,0,_,Q0,i1,Aa (GU _ _ _ _),by simpa using a6⟩
 case round =>
  clear i1 a6;obtain⟨rfl,q,sv,o3,p,a1,c0⟩:=hrel;obtain⟨t,r,rfl⟩:=EN a1.out;have R:=(Ae p.out 0).trans rfl;have A:=(Ae p.out 1).trans rfl;have f:=Aj p.out;have g5:=h8.out
  by_cases l:q<N
  ·
   obtain⟨k,K⟩:=Qe (P q);obtain⟨d,b6⟩:=Qe (P (q+1));obtain⟨c,c9⟩:=Qe (BG (S.ts.getD q []));obtain⟨T,c8⟩:=Qe ((⟨(S.ts.getD q []).toArray⟩:ByteArray):ByteArray)
   have j4:Tq (S.part i q)= .agg #[.string T,.int .u32 (c:Nat),Qi (k:Nat),Qi (d:Nat)]:=by
    unfold Tq Av.part;simp only[h1.out,K,b6,c9,c8]
   have h3:=Aa (d7.out q l);have e1:=Aa (d5.out q l);have o7:k+48<=d:=by have:=g5 q l;rw[K,b6] at this;exact this
   rw[j4] at e1;rw[K] at h3 e1 p;have n6:=Aa K;have l1:=Aa b6;have k8:=Aa c9;have n8:=Aa c8
   have k9:Hid (NZ (some (S.part i q))=#[.agg #[.string T,.int .u32 (c:Nat),Qi (k:Nat),Qi (d:Nat),Qi (g8:Nat)],Qi 0]):=by
    show(#[UX (S.part i q),Value.int .i64 0]:Array Value)=_
    unfold UX Av.part;simp only[h1.out,K,b6,c9,c8,l2.out]
   have Y:=AA p.out;have l0:=Aa Y;have m5:Hid (k+48<=8*s.size):=by have:=h9.out q l;rw[K] at this;exact this
   clear K b6 c9 c8 j4 g5 A d7 d5 d6
   gi_wp2_with fail
   refine wpIn_wide.2 ?_
   go_quiet ((go_at_call 231;exact N0 (h3.out _)))
   gi_upto_region 14 with fail
   have g:=EW (Ag wr.heap.size wr) nq;have o:Hid (Fv (wr.drewN nq) a s k (.slice t q r)):=(g.block a f).trans p.out;have G:=Aa (Cd a1.out g);have E:=Aa (B.out _ _ _ c0.out (AB.of g));clear g p a1 c0 R Y f;generalize wr.drewN nq=v at*
   have f:=Aj o.out
   gi_upto_region 15 with fail
   obtain⟨b,b4⟩:=Qe v.heap.size;have j3:Qg (v.alloc (.cells #[.string ⟨#[]⟩,.int .u32 0,Qi 0,Qi 0] 87)) b #[.string ⟨#[]⟩,.int .u32 0,Qi 0,Qi 0] 87:=Am _ _ _ b4.symm;have e9:=Ay (Ag v.heap.size v) (.cells #[.string ⟨#[]⟩,.int .u32 0,Qi 0,Qi 0] 87);have F:Hid (Fv (v.alloc (.cells #[.string ⟨#[]⟩,.int .u32 0,Qi 0,Qi 0] 87)) a s k (.slice t q r)):=(e9.block a f).trans o.out;have h5:=Aa e9;have k7:=Aa b4;have e6:=Aa j3;have o6:(v.alloc (.cells #[.string ⟨#[]⟩,.int .u32 0,Qi 0,Qi 0] 87)).heap.size=b+1:=by simp[b4]
   have o8:a<b:=Q0
   rw[b4];clear b4 e9 j3 f;generalize v.alloc (.cells #[.string ⟨#[]⟩,.int .u32 0,Qi 0,Qi 0] 87)=n2 at*
   have R:=A8 F.out;have A:=AA F.out;have f:=Aj F.out;refine wpIn_wide.2 ?_
   go_region_with
    (go_at_call 223
     refine(e1.out _).mono ?_;rintro e w5 ⟨rfl,e8⟩;have M:=(e8.block b (Aj e6.out)).trans e6.out;have b0:=Ae M 0;have b1:=Ae M 1;have b2:=Ae M 2;have b3:=Ae M 3;have g0:=Ah M;have i4:=Aa M;have h4:=Aa e8;clear M e8)
   all_goals
    have a7:Qb v ((((w5.setCell ⟨b,0,none⟩ (.string T)).setCell ⟨b,1,none⟩ (.int .u32 (c:Nat))).setCell ⟨b,2,none⟩ (Qi (k:Nat))).setCell ⟨b,3,none⟩ (Qi (d:Nat))):=by
     have z:=A9 h4.out (Cq h5.out);have w:v.heap.size<=b:=EV k7.out;exact Ce (Ce (Ce (Ce z w _ _) w _ _) w _ _) w _ _
    have f1:Qh ((((w5.setCell ⟨b,0,none⟩ (.string T)).setCell ⟨b,1,none⟩ (.int .u32 (c:Nat))).setCell ⟨b,2,none⟩ (Qi (k:Nat))).setCell ⟨b,3,none⟩ (Qi (d:Nat))) b (Obj.cells #[.string T,.int .u32 (c:Nat),Qi (k:Nat),Qi (d:Nat)] 87 (0,0)):=by
     have:=Ak (Ak (Ak (Ak i4.out 0 (.string T)) 1 (.int .u32 (c:Nat))) 2 (Qi (k:Nat))) 3 (Qi (d:Nat));simpa using this
    have c4:=Aa f1;have V:Hid (Fv ((((w5.setCell ⟨b,0,none⟩ (.string T)).setCell ⟨b,1,none⟩ (.int .u32 (c:Nat))).setCell ⟨b,2,none⟩ (Qi (k:Nat))).setCell ⟨b,3,none⟩ (Qi (d:Nat))) a s k (.slice t q r)):=(a7.block a (Aj o.out)).trans o.out;have i3:=Aa (Cd G.out a7);have h6:=Aa (B.out _ _ _ E.out (AB.of a7));have l8:=a7.size;have l5:=Aj f1;clear f1 a7 o G E h5 F e6 i4 h4 b0 b1 b2 b3 g0 R A f;generalize(((w5.setCell ⟨b,0,none⟩ (.string T)).setCell ⟨b,1,none⟩ (.int .u32 (c:Nat))).setCell ⟨b,2,none⟩ (Qi (k:Nat))).setCell ⟨b,3,none⟩ (Qi (d:Nat))=C at*
    have U:=AA c4.out;have m3:=CY c4.out;have A:=AA V.out;have Q:C.frozen? ⟨a,1,none⟩=false:=Ah V.out 1;have f:=Aj V.out
    gi_upto_region 18 with fail
    have i9:Fv (C.setCell ⟨a,1,none⟩ (Qi (d:Nat))) a s d (.slice t q r):=by
     have:=Ak V.out 1 (Qi (d:Nat));unfold Fv;simpa using this
    have c5:Hid (Qh (C.setCell ⟨a,1,none⟩ (Qi (d:Nat))) b (Obj.cells #[.string T,.int .u32 (c:Nat),Qi (k:Nat),Qi (d:Nat)] 87 (0,0))):=(Bg _ _ _ _ (by show b≠a;omega)).trans c4.out
    have c3:Hid ((C.setCell ⟨a,1,none⟩ (Qi (d:Nat))).ownsRow (a+1) 53 1 (.slice t q r) q (Jy ((S.ts.take q).map BG))):=Dq i3.out ((Ab.refl a C).set 1 _) (Kj a);have h7:=Aa (B.out _ _ _ h6.out ((AB.refl n0 QF C).set (q:=⟨a,1,none⟩) V.out Q5 Z (Qi (d:Nat))))
    have c1:=Aa i9;obtain⟨z8,g3⟩:=Qe ((C.setCell ⟨a,1,none⟩ (Qi (d:Nat))).heap.size);have o0:b<z8:=by rw[<-g3];exact Aj c5.out
    have o4:a<z8:=Q0
    clear i9 U m3 A Q f c4 V i3 h6 l8 l5;generalize C.setCell ⟨a,1,none⟩ (Qi (d:Nat))=n3 at*
    have k2:=Bk c1.out;have U:=AA c5.out;refine wpIn_wide.2 ?_
    go_region_law
     (refine Tw zmo Q7 _ _ Q7 (a+1) _ q (Jy ((S.ts.take q).map BG)) Q7 (c3.out.alloc _) (z8+1) 1 _ [.int .u32 (c:Nat)] Q7 (Rd.mono (GX (Am _ _ _ g3.symm) rfl Q7 (by simp[maxLen])) Q4) (by intro c hc;simp at hc;subst hc;rfl) Q0 Q0 Q4 ?_
      intro q2 c2 w2 k1 f9 m8;have d1:=(f9.block a Q4 (λe=>by have:=Dm c3.out e.symm;omega)).trans (Bb _ c1.out)
      have l9:=(Ae d1 2).trans rfl;have l4:=Ah d1 2;have l3:=Aa d1;have k0:=Aa k1;have i5:=Aa f9;clear d1 k1 f9 m8)
   all_goals
    obtain⟨j0,j1,f0⟩:=zo5 (n0:=n0) c1.out c3.out Z (by first|exact Cq (Ay (Ag _ _) _)|exact Ay (Cq (Ag _ _)) _|exact Ay (Ag _ _) _) i5.out k0.out
    have e4:=Aa j0;have e5:=Aa j1;have X:=Aa (f0.box c5.out Q5)
    have e3:=Aa (B.out _ _ _ h7.out f0);clear j0 j1 f0 i5 k0 l3 l9 l4 c1 c3 c5 h7 k2 U g3;generalize w2.setCell ⟨a,2,none⟩ (.slice q2 (q+1) c2)=k6 at*
    have m0:=A8 X.out;have U:=AA X.out;have m2:=Bk X.out;have m3:=CY X.out;obtain⟨fn,m9,n1,m7,hy,a9⟩:=zkq (m2:=n-1) (d8.out q (some (S.part i q)) k6 e3.out (.inl ⟨l,rfl⟩));rw[k9.out] at hy
    gi_wp2_with fail
    refine a9.mono ?_;rintro e j (⟨rfl,c6,d0,j6⟩|⟨rfl,g4⟩)
    ·have j8:Hid (Fv j a s d (.slice q2 (q+1) c2)):=d0 _ _ _ _ Q5 e4.out
     have m6:=Aa (d0.row e5.out Q5)
     have m4:=Aa c6;clear hy a9 c6 d0 j6 m0 U m2 m3 e4 e5 X e3
     gi_wp2_with fail
     refine⟨⟨rfl,q+1,.slice q2 (q+1) c2,Q0,by rw[l1.out];exact j8,?_,?_⟩,?_⟩
     ·rw[zxG S.ts q (by rw[O.out];exact l),zmT,k8.out]
      exact m6
     ·rw[Av.parts_take i S q (by rw[O.out];exact l),D3,<-BN]
      exact m4
     ·rw[l0.out,(Ae j8.out 1).trans rfl]
      have:=m5.out;simp[intOf];omega
    ·clear hy a9 m0 U m2 m3 e4 e5 X e3
     gi_wp2_with fail
     exact BV (Nk rfl _ _ _) rfl ⟨false,rfl,.inr (.inr ⟨rfl,_,zpJ S i q (by rw[O.out];exact l) u _,g4⟩)⟩
  ·obtain rfl:q=N:=Q0
   obtain⟨pn,j5⟩:=Qe (P q);obtain⟨Q,f2,f3,f4,f5,f6⟩:=j7.out;have I:=i0.out;have g2:s.data.toList.length=s.size:=by simp
   obtain⟨L,a3⟩:=Qe (S.ts.map BG);have i8:L.length=q:=by rw[<-a3,Da,O.out]
   have j2:S.ts.take q=S.ts:=BR (by rw[O.out];exact Af _)
   have c7:(S.parts i).take q=S.parts i:=BR (by rw[Av.length_parts,O.out];exact Af _)
   have i2:Hid (wr.ownsRow (a+1) 53 1 (.slice t q r) L.length (Jy L)):=by
    have:=a1.out;rw[j2,a3] at this;rw[i8];exact this
   have a6:Hid (J (u++(S.parts i).map some) wr):=by
    have:=c0.out;rw[c7] at this;exact this
   have e7:Hid (∀m,J (u++(S.parts i).map some) m->S.good=false->YieldAt Fence.wide (n-1) Tryz.prog d4 #[.agg #[.string ⟨#[]⟩,.int .u32 0,Qi 0,Qi 0,Qi 0],Qi 7] m λe j=>(e=.returned (.bool true)/\J ((u++(S.parts i).map some)++[none]) j/\AZ KY m j/\m.heap.size<=j.heap.size)\/(e=.returned (.bool false)/\d9 ((u++(S.parts i).map some)++[none]) j)):=λm z w=>by
    have:=zkq (m2:=n-1) (d8.out q none m (by rw[c7];exact z) (.inr ⟨rfl,rfl,w⟩))
    rw[c7] at this;exact this
   have j9:∀x∈L,x<4294967296:=λx hx=>by
    rw[<-a3] at hx;obtain⟨k4,-,rfl⟩:=C8.1 hx;exact Qu k4
   rw[j5] at Q f2 f3 f4 f5 I d6 p;obtain⟨er,f8⟩:=Qe ((if S.z=Gj L then(0:Int) else 7):Int)
   have b8:Hid (∀W,Fv W a s pn (.slice t q r)->W.ownsRow (a+1) 53 1 (.slice t q r) L.length (Jy L)->Qk 232 #[Qp a 0] W λe D=>e=.returned (Qi er)/\Fv D a s (8*(i+S.bytes)) (.slice t q r)/\Ab a W D):=λW z w=>by
    have:=zxD W a s pn S.z S.pad (.slice t q r) L z hs f5 f6 Q0 f3 f4 w j9 Q0
    rw[f8,I] at this;exact this
   have H:S.good=true/\er=0\/S.good=false/\er=7:=by
    unfold Av.good;rw[a3,<-f8]
    by_cases h:S.z=Gj L
    ·exact .inl ⟨by simp[h],if_pos h⟩
    ·exact .inr ⟨by simp[h],if_neg h⟩
   have Y:=AA p.out;clear Q f2 f3 f4 f5 f6 I g2 a3 i8 j2 c7 a1 c0 j9 f8 j5 A i0 j7 h9 h8 g5 d7 d5 d8
   gi_wp2_with fail
   refine wpIn_wide.2 ?_
   go_quiet ((go_at_call 231;exact N0 (d6.out _)))
   have g:=EW (Ag wr.heap.size wr) nq;have o:Hid (Fv (wr.drewN nq) a s pn (.slice t q r)):=(g.block a f).trans p.out;have G:=Aa (Cd i2.out g);have E:=Aa (B.out _ _ _ a6.out (AB.of g));clear g p i2 a6 R Y f;generalize wr.drewN nq=v at*
   rcases H with⟨H,rfl⟩|⟨H,rfl⟩
   ·gi_wp2_with fail
    refine⟨trivial,(Em.2 (b8.out _ o.out G.out)).mono ?_⟩;rintro e w6 ⟨rfl,b7,b5⟩;have e2:=Aa (B.out _ _ _ E.out (AB.only b5 Z o.out Q5))
    have F:=Aa b7;clear b7 b5 o G E b8 e7
    gi_wp2_with fail
    refine⟨(λ_ h=>by cases h),?_⟩
    gi_wp2_with fail
    exact BV (Nk rfl _ _ _) rfl ⟨true,rfl,.inl ⟨rfl,H,e2.out,_,F.out⟩⟩
   ·gi_wp2_with fail
    refine⟨trivial,(Em.2 (b8.out _ o.out G.out)).mono ?_⟩;rintro e w6 ⟨rfl,b7,b5⟩;have e2:=Aa (B.out _ _ _ E.out (AB.only b5 Z o.out Q5))
    have F:=Aa b7;obtain⟨fn,m9,n1,m7,hy,a9⟩:=e7.out w6 e2.out H;clear b7 b5 o G E b8 e7
    gi_wp2_with fail
    refine a9.mono ?_;rintro e j (⟨rfl,c6,d0,j6⟩|⟨rfl,g4⟩)
    ·gi_wp2_with fail
     exact BV (Nk rfl _ _ _) rfl ⟨false,rfl,.inr (.inl ⟨rfl,H,c6⟩)⟩
    ·gi_wp2_with fail
     exact BV (Nk rfl _ _ _) rfl ⟨false,rfl,.inr (.inr ⟨rfl,_,by rw[H];exact List.prefix_refl _,g4⟩)⟩
