import Derived.Test.YtoejfkeofbdalaaGreatDoorM17
import Derived.Test.YtoejfkeofbdalaaGreatDoorM16
import Derived.Deep.Slices
import Derived.Lib.LaidTab
set_option linter.all false
set_option maxRecDepth 100000
set_option maxHeartbeats 8000000
namespace Go.Proofs.YtoejfkeofbdalaaGreatDoor
open Go.RowKit
variable {f:List Nat} {i m n:Nat} {t:ByteArray} {u v w wr:World} {x:Value}
theorem Y7{D P:List Bool}(h:n<D.length):(D++P).getD n false=D.getD n false:=by
 simp[Cx,FP h]
theorem Y1{l m:List Bool}:(l++m).getD (l.length+i) false=m.getD i false:=by
 simp[Cx,F7]
theorem Uc(l:List UInt8)(k i:Nat)(h:i<16):(ED l k).getD i false=EQ l (16*k+i):=by simp[ED,Cx,h]
theorem zsF(l:List UInt8)(n k:Nat)(h:k<n):(FF l n).getD k false=DZ l k:=by simp[FF,Cx,h]
theorem znc(l:List UInt8)(k i n:Nat)(f:k<n)(e:i<16)(a:DZ l k=true):(Hw l n).getD (16*FU (DZ l) k+i) false=(ED l k).getD i false:=by
 induction n with
 |zero=>omega
 | succ n c =>
   rw[Hw];have b:=VE l n
   by_cases h:k=n
   ·subst h
    rw[<-b,Y1,a,if_pos rfl]
   ·have d:=zve (p:=DZ l) (show k<n by omega) a
    rw[Y7 Q0]
    exact c Q0
theorem zjY(l:List UInt8)(k:Nat)(h:k<16):(FJ l).getD k false=DZ l k:=by
 unfold FJ;rw[Y7 (by rw[PS];exact h),zsF _ _ _ h]
theorem zk7(l:List UInt8)(k i:Nat)(b:k<16)(a:i<16)(c:DZ l k=true):(FJ l).getD (16+16*FU (DZ l) k+i) false=EQ l (16*k+i):=by
 unfold FJ;have:=Y1 (l:=FF l 16) (m:=Hw l 16) (i:=16*FU (DZ l) k+i);rw[PS,<-Lv] at this;rw[this,znc _ _ _ _ b a c,Uc _ _ _ a]
theorem zvc(l:List UInt8)(h:l≠[]):(List.range 16).any (DZ l)=true:=by
 cases l with
 |nil=>exact absurd rfl h
 | cons x l =>
   rw[J8];have a:=x.toNat_lt;refine⟨x.toNat / 16,by rw[EB];omega,?_⟩
   rw[zx3];simp
theorem zmg(u:List UInt8)(a:Nat)(l:List UInt8)(y:l≠[])(I:a+(FJ l).length<=8*u.length)(s:∀i,i<(FJ l).length->B.bitAt u (a+i)=(FJ l).getD i false) :
 LH u a=.ok (Bq l,a+(FJ l).length):=by
 have H:=Zi l
 have g:∀k,k<16->F5 u a k=DZ l k:=λk b=>by
  unfold F5;rw[s k Q0,zjY _ _ b]
 have v:∀k,k<=16->Fz u a k=a+16+16*FU (DZ l) k:=λk b=>by
  unfold Fz;rw[zqX λj F=>g j Q0]
 have w:∀k,k<16->DZ l k=true->Ju u a k=ED l k:=λk b d=>by
  have G:=zve (p:=DZ l) b d;unfold Ju;apply Mo
  ·rw[B.length_slice,O6]
  ·intro i f m
   rw[B.length_slice] at f;have o:=B.getD_slice u (Fz u a k) 16 i f;have x:=Uc l k i f;have q:=s (16+16*FU (DZ l) k+i) Q0
   rw[zk7 _ _ _ b f d,<-Lv,<-Lv,<-v k Q0] at q
   rw[q,<-x] at o;rw[Cx,Cx,Az (by rw[B.length_slice];exact f),Az m] at o
   exact o
 have D:OX u a 16=false:=by
  unfold OX;rw[GR];intro k b;rw[EB] at b;rw[g k b];cases d:DZ l k with
  |false=>simp
  | true =>
    rw[w k b d];have:(ED l k).any id=true:=d;rw[this];simp
 have A:(List.range 16).any (F5 u a)=true:=by
  rw[<-zvc l y];unfold List.any;rw[Ki]
  show(List.range 16).any (F5 u a)=true↔(List.range 16).any (DZ l)=true
  rw[J8,J8]
  constructor
  ·rintro⟨k,b,h⟩
   exact⟨k,b,by rw[<-g k (EB.1 b)];exact h⟩
  ·rintro⟨k,b,h⟩
   exact⟨k,b,by rw[g k (EB.1 b)];exact h⟩
 have C:EZ (Pk u a) 256=Bq l:=Zf λc E=>by
  have t:c / 16<16:=Q0
  have n:c%16<16:=Q0
  have e:=WW u a (c / 16) (c%16) n;rw[show 16*(c / 16)+c%16=c by omega,g _ t] at e
  rw[e];cases d:DZ l (c / 16) with
  |true=>rw[w _ t d,Uc _ _ _ n,show 16*(c / 16)+c%16=c by omega];rfl
  | false =>
    have m:(ED l (c / 16)).any id=false:=d;rw[GR] at m;have r:=Uc l (c / 16) (c%16) n;rw[show 16*(c / 16)+c%16=c by omega] at r
    rw[<-r]
    have z:=m ((ED l (c / 16)).getD (c%16) false) (by
     rw[Cx,Az (by rw[O6];exact n)]
     exact Et _)
    simpa using z
 unfold LH;rw[v 16 (Af _),if_neg Q0,D,A,C,show a+16+16*FU (DZ l) 16=a+(FJ l).length by omega]
 rfl
theorem zyj(l:List Nat){n m:Nat}(h:n<=m):Cg l n*2 ^ (m-n)<=Cg l m:=by
 induction m with
 | zero =>
   obtain rfl:n=0:=Q0
   simp
 | succ m b =>
   rcases Gb m n with a|a
   ·obtain rfl:n=m+1:=Q0
    simp
   ·have:=b a
    rw[show m+1-n=(m-n)+1 by omega,Jk,Cg,<-Lx]
    omega
theorem zt9(u:List UInt8)(a:Nat){n m:Nat}(h:n<=m):B.num (B.slice u a n)=B.num (B.slice u a m)/ 2 ^ (m-n):=by
 obtain⟨d,rfl⟩:∃d,m=n+d:=⟨m-n,Q0⟩
 rw[B.slice_append,B.num_append,B.length_slice,Nat.add_sub_cancel_left];have:=B.num_lt (B.slice u (a+n) d);rw[B.length_slice] at this;rw[Km,Nat.mul_add_div (Nat.pow_pos Q0),Nat.div_eq_of_lt this,Ic]
def zw6(l:List Nat)(u:List UInt8)(a:Int)(s n:Nat):Prop:=l[s]?=some n/\0<=a/\a+n<=8*(u.length:Int)/\B.num (B.slice u a.toNat n)=Gv l s
theorem VB(u:List UInt8)(a:Int)(n:Nat)(b:n<=64):Ew u a n=0↔0<=a/\a+n<=8*(u.length:Int):=by
 unfold Ew;split
 ·constructor
  ·intro h;cases h
  ·intro h;omega
 ·split
  ·constructor
   ·intro h;cases h
   ·intro h;omega
  ·constructor
   ·intro _;omega
   ·intro _;rfl
theorem zkl(u:List UInt8)(a:Int)(n:Nat)(b:n<=64)(h:Ew u a n=0):(Ed u a n).toNat=B.num (B.slice u a.toNat n):=by
 have:=(VB u a n b).1 h;unfold Ed;rw[if_neg Q0,if_neg Q0]
 simp
theorem zsa(h:Code f){n m:Nat}(a:f[n]?=some m):1<=m/\m<=20/\0<f.count m/\2*Cg f (m-1)<=Gv f n/\Gv f n<Cg f m:=by
 have b:=h.fits m (Cn a);have c:0<f.count m:=List.count_pos_iff.2 (Cn a);have e:=TR f m n a;have d:=(Cc.1 e).1;rw[Nq] at d;obtain⟨k,rfl⟩:∃k,m=k+1:=⟨m-1,Q0⟩
 refine⟨b.1,b.2,c,?_,?_⟩
 ·unfold Gv
  rw[a];simp
 ·unfold Gv
  rw[a];simp only[Es,Mm];rw[Cg];omega
theorem zrH(h:Code f)(u:List UInt8)(a:Int)(s n:Nat)(x:zw6 f u a s n):La f u a=.ok (s,a+n):=by
 obtain⟨b,c,p,d⟩:=x;obtain⟨J,z,A,l,m⟩:=zsa h b;have e:=(VB u a n Q0).2 ⟨c,p⟩
 have r:=zkl u a n Q0 e
 obtain⟨I,o⟩:=VH f z;obtain⟨k,rfl⟩:∃k,n=k+1:=⟨n-1,Q0⟩
 rw[R5,if_pos A] at o
 have C:∀j∈EI f k,JG f u a j:=by
  intro j v;obtain⟨F,G,H⟩:=(Rx f k j).1 v;have g:=(VB u a j Q0).2 ⟨c,Q0⟩
  refine⟨g,?_⟩;rw[zkl u a j Q0 g,zt9 u a.toNat (show j<=k+1 by omega),d]
  intro t;have E:=zyj f (show j<=k by omega)
  have B:2*Cg f (j-1)+f.count j=Cg f j:=by
   obtain⟨i,rfl⟩:∃i,j=i+1:=⟨j-1,Q0⟩
   rfl
  rw[B] at t
  have q:Cg f j*2 ^ (k+1-j)<=Gv f s:=by
   rw[show k+1-j=(k-j)+1 by omega,Jk,<-Lx]
   simp only[Mm] at l;omega
  have D:Cg f j<=Gv f s / 2 ^ (k+1-j):=(Nat.le_div_iff_mul_le (Nat.pow_pos Q0)).2 q
  omega
 unfold La;rw[<-o,BN,VR C,Mh,Ha,if_neg (by rw[e];simp),r,d]
 have w:=TR f (k+1) s b
 have y:Gv f s-2*Cg f (k+1-1)=(f.take s).count (k+1):=by
  unfold Gv;rw[b];simp
 rw[if_pos ⟨l,by rw[Cg] at m;exact m⟩,y,w]
 rfl
def zta(w:World)(r:XK)(e:Ending)(a:World):Prop :=
 match r with
 | .ok (l,x)=>∃v,e=.returned (.tuple #[v,Qi (x:Nat),Qi 0])/\Ad a w.heap.size v (ints l)/\Qb w a
 | .error c=>e=.returned (.tuple #[.slice none 0 0,Qi 0,Qi c])/\Qb w a
structure Dv(w wr:World)(s:ByteArray)(v:Value)(l:List Nat)(a:Nat):Prop where
 bel:Qb w wr
 size:w.heap.size+4<=wr.heap.size
 b0:Boxed wr w.heap.size 67 v
 b1:Boxed wr (w.heap.size+1) 3 (Qi 0)
 b2:Boxed wr (w.heap.size+1+1) 25 (Qi 0)
 rd:NK wr (w.heap.size+1+1+1) s a
 own:Ad wr (w.heap.size+4) v (ints l)
theorem zlt{k j:Nat}{s:List Value}(h:w.ownsRow m k i x j s)(f:Ab n w v)(p:n<m):v.ownsRow m k i x j s:=by
 refine⟨h.1,?_⟩;rcases h.2 with e|⟨g,l,o,b,c,a,d⟩
 ·exact .inl e
 ·exact .inr ⟨g,l,o,b,c,(f.block g (Aj a) Q0).trans a,d⟩
theorem Dv.only(h:Dv w wr t x f n)(a:Ab (w.heap.size+1+1+1) wr u)(b:NK u (w.heap.size+1+1+1) t m):Dv w u t x f m :=
 have c:=h.size
 ⟨h.bel.trans (a.below Q0 Q0),by have:=a.size;omega,(a.block _ Q0 Q0).trans h.b0,(a.block _ Q0 Q0).trans h.b1,(a.block _ Q0 Q0).trans h.b2,b,zlt h.own a Q0⟩
theorem Dv.blocks(h:Dv w wr t x f n)(a:Ab (w.heap.size+1+1+1) wr u) :
 Qb w u/\w.heap.size+4<=u.heap.size/\Boxed u w.heap.size 67 x/\Boxed u (w.heap.size+1) 3 (Qi 0)/\Boxed u (w.heap.size+1+1) 25 (Qi 0) :=
 have b:=h.size
 ⟨h.bel.trans (a.below Q0 Q0),by have:=a.size;omega,(a.block _ Q0 Q0).trans h.b0,(a.block _ Q0 Q0).trans h.b1,(a.block _ Q0 Q0).trans h.b2⟩
def NM(w b:World)(a:Int):World:=((((b.setCell ⟨w.heap.size,0,none⟩ (.slice none 0 0)).setCell ⟨w.heap.size+1,0,none⟩ (Qi 0)).setCell ⟨w.heap.size+1+1,0,none⟩ (Qi a)).alloc (.cells #[Qi a] 460)).drew
theorem VW{why:Int}(d:Qb w v)(n:w.heap.size+4<=v.heap.size)(a:Boxed v w.heap.size 67 x)(b:Boxed v (w.heap.size+1) 3 (Qi 0))(c:Boxed v (w.heap.size+1+1) 25 (Qi 0)) :
 Qb w (NM w v why)/\Qc (NM w v why) w.heap.size 0 (.slice none 0 0)/\Qc (NM w v why) (w.heap.size+1) 0 (Qi 0)/\Qc (NM w v why) (w.heap.size+1+1) 0 (Qi why):=by
 have e:=Ak (w:=v) a 0 (.slice none 0 0);have h:=(Bg (v.setCell ⟨w.heap.size,0,none⟩ (.slice none 0 0)) ⟨w.heap.size+1,0,none⟩ (Qi 0) w.heap.size QB).trans e
 have u0:=(Bg _ ⟨w.heap.size+1+1,0,none⟩ (Qi why) w.heap.size QB).trans h
 have k:=Bb (.cells #[Qi why] 460) u0;have f:=(Bg v ⟨w.heap.size,0,none⟩ (.slice none 0 0) (w.heap.size+1) QB).trans b
 have i:=Ak (w:=v.setCell ⟨w.heap.size,0,none⟩ (.slice none 0 0)) f 0 (Qi 0);have u1:=(Bg _ ⟨w.heap.size+1+1,0,none⟩ (Qi why) (w.heap.size+1) QB).trans i
 have l:=Bb (.cells #[Qi why] 460) u1;have g:=(Bg v ⟨w.heap.size,0,none⟩ (.slice none 0 0) (w.heap.size+1+1) QB).trans c
 have j:=(Bg (v.setCell ⟨w.heap.size,0,none⟩ (.slice none 0 0)) ⟨w.heap.size+1,0,none⟩ (Qi 0) (w.heap.size+1+1) QB).trans g
 have u2:=Ak (w:=(v.setCell ⟨w.heap.size,0,none⟩ (.slice none 0 0)).setCell ⟨w.heap.size+1,0,none⟩ (Qi 0)) j 0 (Qi why);have m:=Bb (.cells #[Qi why] 460) u2;refine⟨?_,Ae k 0,Ae l 0,Ae m 0⟩;unfold NM;exact((((d.setCell (p:=⟨w.heap.size,0,none⟩) (Af _) _).setCell (p:=⟨w.heap.size+1,0,none⟩) QB _).setCell (p:=⟨w.heap.size+1+1,0,none⟩) QB _).alloc Q4 _).drew
def NU(w b:World)(v:Value)(a:Nat):World:=(((b.setCell ⟨w.heap.size,0,none⟩ v).setCell ⟨w.heap.size+1,0,none⟩ (Qi (a:Nat))).setCell ⟨w.heap.size+1+1,0,none⟩ (Qi 0)).drew
theorem zsd(h:Dv w v t x f n) :
 Qb w (NU w v x n)/\Qc (NU w v x n) w.heap.size 0 x/\Qc (NU w v x n) (w.heap.size+1) 0 (Qi (n:Nat))/\Qc (NU w v x n) (w.heap.size+1+1) 0 (Qi 0)/\Ad (NU w v x n) w.heap.size x (ints f):=by
 have s:=h.size;have e:=Ak (w:=v) h.b0 0 x;have k:=(Bg (v.setCell ⟨w.heap.size,0,none⟩ x) ⟨w.heap.size+1,0,none⟩ (Qi (n:Nat)) w.heap.size Q6).trans e
 have u0:=(Bg _ ⟨w.heap.size+1+1,0,none⟩ (Qi 0) w.heap.size QB).trans k
 have i:=(Bg v ⟨w.heap.size,0,none⟩ x (w.heap.size+1) Q6).trans h.b1
 have l:=Ak (w:=v.setCell ⟨w.heap.size,0,none⟩ x) i 0 (Qi (n:Nat));have u1:=(Bg _ ⟨w.heap.size+1+1,0,none⟩ (Qi 0) (w.heap.size+1) Q6).trans l
 have j:=(Bg v ⟨w.heap.size,0,none⟩ x (w.heap.size+1+1) QB).trans h.b2
 have m:=(Bg (v.setCell ⟨w.heap.size,0,none⟩ x) ⟨w.heap.size+1,0,none⟩ (Qi (n:Nat)) (w.heap.size+1+1) Q6).trans j
 have u2:=Ak (w:=(v.setCell ⟨w.heap.size,0,none⟩ x).setCell ⟨w.heap.size+1,0,none⟩ (Qi (n:Nat))) m 0 (Qi 0);refine⟨?_,Ae u0 0,Ae u1 0,Ae u2 0,?_⟩
 ·unfold NU
  exact(((h.bel.setCell (p:=⟨w.heap.size,0,none⟩) (Af _) _).setCell (p:=⟨w.heap.size+1,0,none⟩) Q6 _).setCell (p:=⟨w.heap.size+1+1,0,none⟩) QB _).drew
 ·refine⟨h.own.1,?_⟩
  rcases h.own.2 with d|⟨g,o,q,a,r,b,c⟩
  ·exact .inl d
  ·refine .inr ⟨g,o,q,a,Q0,?_,c⟩
   unfold NU
   show(((v.setCell _ _).setCell _ _).setCell _ _).heap[g]?=_
   rw[Bg _ _ _ _ QB,Bg _ _ _ _ QB,Bg _ _ _ _ QB]
   exact b
theorem zrJ{s:List UInt8}{F a b:Nat}(h:KP s F n a=.ok (m,b))(f:8*s.length<a+F)(c:1<=n)(d:n<=20):1<=m/\m<=20/\b<=8*s.length:=by
 rw[YX s F n a f] at h;cases hl:FK n (rest s a) with
 |error e=>rw[hl] at h;cases h
 | ok q =>
   obtain⟨g,r⟩:=q;rw[hl] at h;simp only[NC,Mg,Mi] at h;obtain⟨rfl,rfl⟩:=h;have:=Wj _ _ _ _ c d hl;exact⟨this.1,this.2,Q0⟩
theorem zrb(l:List Nat)(m:Nat):ints (l++[m])=ints l++[(m:Int)]:=by simp[ints]
theorem zuG(w:World)(s:ByteArray)(h n:Nat)(Z:s.size<=1099511627776)(d1:h<=9223372036854775807)(hn:2<=n)(e6:n<=258) :
 Qk 312 #[.string s,Qi h,Qi n] w λe a1=>zta w (NH s.data.toList h n) e a1:=by
 have Cw:=Cw
 have c9:Hid (∀W,Qk 87 #[Qi (n:Nat)] W λe a1=>e=.returned (.bool true)/\W=a1):=λW=>by
  have:=zqr (n:Nat) W;rw[show QG (n:Nat)=true by simp[QG];omega] at this
  exact this
 have hl:s.data.toList.length=s.size:=by simp
 have R:=Aa hl;obtain⟨r,S⟩:=Qe (NH s.data.toList h n);rw[S];unfold NH at S;have D:=Aa S;clear S hl;have hd:decide ((h:Int)<0)=false:=by simp
 obtain⟨L,a2⟩:∃L,L=((((w.alloc (.cells #[.slice none 0 0] 67)).alloc (.cells #[Qi 0] 3)).alloc (.cells #[Qi 0] 25)).alloc (.cells #[.string s,Qi h] 463)):=⟨_,rfl⟩
 have b0:Dv w L s (.slice none 0 0) [] h:=by
  rw[a2];exact⟨((((Ag _ _).alloc (Af _) _).alloc Q6 _).alloc Q4 _).alloc Q4 _,Q6,(((Boxed.new w _ _).alloc _).alloc _).alloc _,((OJ _ _ _ _ Q6).alloc _).alloc _,(OJ _ _ _ _ Q6).alloc _,Am _ _ _ Q6,Ad.nil _ _⟩
 have J:=Aa b0;have b7:=Aa a2;clear b0 a2
 go_enter_defers Tryz.func312,Tryz.ntmps312
 go_wp2_with fail
 refine(c9.out _).mono ?_;rintro e E ⟨rfl,rfl⟩
 go_wp2_with fail
 rw[<-b7.out]
 by_cases h1:8*s.size<h+5
 ·have C:=Aa (TV L (w.heap.size+1+1+1) s h 5 J.out.rd Z d1 Q0 Q0)
  have a5:r=.error 2:=by rw[<-D.out,R.out,if_pos h1]
  subst a5;refine C.out.mono ?_;rintro e E ⟨rfl,b2⟩;have K:=Aa (J.out.blocks (Ab.of b2));clear b2 C D
  go_wp2_with fail
  refine Oz (f:=334) (args:=#[.pointer (some ⟨w.heap.size,0,none⟩),.pointer (some ⟨w.heap.size+1,0,none⟩),.pointer (some ⟨w.heap.size+1+1,0,none⟩)]) Q6 (by simp[go_sem]) ?_
  obtain⟨M,N,i,k,o⟩:=K.out;refine(Xo w.heap.size (w.heap.size+1) (w.heap.size+1+1) _ _ _ 2 E i.cell k.cell o.cell i.frozen k.frozen o.frozen Q0 Q0 Q0 Q0 Q0 Q0).mono ?_
  rintro e a0 I ⟨rfl,rfl,p⟩;obtain⟨t,u,v,x⟩:=VW (why:=2) M N i k o;have y:I=NM w E 2:=p;rw[<-y] at t u v x;clear p y;simp[Leaves,settle,results,SE,go_sem,u,v,x];exact⟨rfl,t⟩
 have H:=D.out;rw[R.out,if_neg h1] at H;obtain⟨T,a6⟩:=Qe (B.num (B.slice s.data.toList h 5));rw[a6] at H;have C:=Aa (RL L (w.heap.size+1+1+1) s h 5 T J.out.rd Z Q0 Q0 a6)
 clear a6 D
 by_cases h2:T<1\/20<T
 ·have a5:r=.error 3:=by rw[<-H,if_pos h2]
  subst a5;clear H;refine C.out.mono ?_;rintro e E ⟨rfl,Q,U⟩;have K:=Aa (J.out.blocks Q);clear C Q U
  go_wp2_with fail
  refine(Xy _ _ _ (by simp[JJ]<;>omega)).mono ?_
  rintro e G ⟨rfl,rfl⟩
  go_wp2_with fail
  refine Oz (f:=334) (args:=#[.pointer (some ⟨w.heap.size,0,none⟩),.pointer (some ⟨w.heap.size+1,0,none⟩),.pointer (some ⟨w.heap.size+1+1,0,none⟩)]) Q6 (by simp[go_sem]) ?_
  obtain⟨M,N,i,k,o⟩:=K.out;refine(Xo w.heap.size (w.heap.size+1) (w.heap.size+1+1) _ _ _ 3 E i.cell k.cell o.cell i.frozen k.frozen o.frozen Q0 Q0 Q0 Q0 Q0 Q0).mono ?_
  rintro e a0 I ⟨rfl,rfl,p⟩;obtain⟨t,u,v,x⟩:=VW (why:=3) M N i k o;have y:I=NM w E 3:=p;rw[<-y] at t u v x;clear p y;simp[Leaves,settle,results,SE,go_sem,u,v,x];exact⟨rfl,t⟩
 rw[if_neg h2] at H;have D:=Aa H;clear H;refine C.out.mono ?_;rintro e E ⟨rfl,Q,U⟩;have b6:=Aa (J.out.only Q U);clear C Q U J b7
 go_wp2_with fail
 refine(Xx _ _ _ (by simp[JJ];omega)).mono ?_
 rintro e G ⟨rfl,rfl⟩
 go_wp2_with fail
 go_loopw [10,28] (λnv iv wr=>∃(j m a:Nat)(l:List Nat)(a9:Value),j<=n/\1<=m/\m<=20/\nv=Qi m/\iv=Qi j/\l.length=j/\a<=8*s.size/\LU l (NE s.data.toList (n-j) m a)=r/\Dv w wr s a9 l a) (λ_ iv _=>n+1-(intOf iv).toNat)
 case atStart=>exact⟨0,T,h+5,[],_,Q0,Q0,Q0,rfl,rfl,rfl,Q0,by rw[zxi];exact D.out,b6.out⟩
 case round =>
  obtain⟨j,m,a,l,a9,hj,c0,c1,rfl,rfl,b9,ha,g,b4⟩:=hrel;have d:=Aa b4;have b5:=Aa b9;have P:=Aa g;clear b4 b9 g b6 D
  by_cases e5:j<n
  ·have g:=P.out
   rw[show n-j=(n-(j+1))+1 by omega,NE] at g
   have a3:=λz b c7=>zrJ (s:=s.data.toList) (F:=8*s.data.toList.length+1) (n:=m) (a:=a) (m:=z) (b:=b) c7 Q0 c0 c1
   have C:=Aa (zpp wr (w.heap.size+1+1+1) s a m (8*s.data.toList.length+1) d.out.rd Z c0 c1 Q0 (by rw[R.out];omega))
   cases hlr:KP s.data.toList (8*s.data.toList.length+1) m a with
   | error c =>
     rw[hlr] at g C;simp only[LU] at g;subst g;clear hlr a3 P
     go_wp2_with fail
     refine C.out.mono ?_;rintro e G Y;obtain⟨rfl,O⟩:=Y;have K:=Aa (d.out.blocks O);clear O C d
     go_wp2_with fail
     refine Oz (f:=334) (args:=#[.pointer (some ⟨w.heap.size,0,none⟩),.pointer (some ⟨w.heap.size+1,0,none⟩),.pointer (some ⟨w.heap.size+1+1,0,none⟩)]) Q6 (by simp[go_sem]) ?_
     obtain⟨M,N,i,k,o⟩:=K.out;refine(Xo w.heap.size (w.heap.size+1) (w.heap.size+1+1) _ _ _ c G i.cell k.cell o.cell i.frozen k.frozen o.frozen Q0 Q0 Q0 Q0 Q0 Q0).mono ?_
     rintro e a0 I ⟨rfl,rfl,p⟩;obtain⟨t,u,v,x⟩:=VW (why:=c) M N i k o;have y:I=NM w G c:=p;rw[<-y] at t u v x;clear p y;simp[Leaves,settle,results,SE,go_sem,u,v,x];exact⟨rfl,t⟩
   | ok c8 =>
     obtain⟨z,b⟩:=c8;rw[hlr] at g C;simp only[zuf] at g;obtain⟨d9,e0,hb⟩:=a3 z b hlr;rw[R.out] at hb;have d7:=Aa g;clear hlr a3 P g
     go_wp2_with fail
     refine C.out.mono ?_;rintro e G Y;obtain⟨rfl,O,b3⟩:=Y;have A:=Aa (d.out.only O b3);have d2:=A.out.b0.cell;have d4:=A.out.b0.frozen;have e7:=A.out.size;have e4:l.length+1<=300:=by have:=b5.out;omega
     clear O b3 C d
     go_wp2_with
      (first
       |(at_builtin
         refine KN rfl _ _ rfl (w.heap.size+4) _ (ints l) rfl (A.out.own.alloc _) (G.heap.size+1) _ [(z:Int)] rfl (Ac.new G [(z:Int)] _ _ _ rfl rfl rfl (by simp[maxLen])) (by rw[Bj];simp;omega) Q4 ?_
         intro q c w3 a8 hg d8;obtain⟨a7,c6,a4,d6,V,b8⟩:=zjJ A.out.b0 Q5 A.out.own Q0 a8 hg
         rw[<-zrb] at a8 a4;have c2:=A.out.b1;have c3:=A.out.b2;have c4:=A.out.rd;have c5:=A.out.bel;have d3:=a7.cell;have d5:=a7.frozen;have X:=b8 w.heap.size Q0 Q0
         have b1:Dv w (w3.setCell ⟨w.heap.size,0,none⟩ (.slice q ((ints l).length+[(z:Int)].length) c)) s (.slice q ((ints l).length+[(z:Int)].length) c) (l++[z]) b :=
          ⟨c5.trans X,by have:=X.size;simp at this |-;omega,c6,(V _ Q0 Q0).trans c2,(V _ Q0 Q0).trans c3,(V _ Q0 Q0).trans c4,a4⟩
         have d0:=Aa b1;clear c2 c3 c4 c5 a8 hg d8 a7 c6 a4 d6 V b8 X b1))
     go_roundw
     case rel=>exact⟨j+1,z,b,l++[z],_,Q0,d9,e0,rfl,by go_num,by rw[AJ,b5.out];rfl,hb,d7.out,d0.out⟩
     case measure=>simp[intOf];omega
  ·obtain rfl:j=n:=Q0
   have g:=P.out;rw[Ow,NE] at g;simp only[LU,Eu] at g;subst g;obtain⟨q,c,rfl⟩:=d.out.own.shape;have d2:=d.out.b0.cell;have d4:=d.out.b0.frozen;have d3:=d.out.b1.cell;have d5:=d.out.b1.frozen;have e1:=d.out.b2.cell;have e3:=d.out.b2.frozen;have e2:Qc wr (w.heap.size+1+1+1) 1 (Qi (a:Nat)):=Ae d.out.rd 1;have hz:=d.out.size;clear P
   go_wp2_with fail
   go_region
   go_wp2_with fail
   refine Oz (f:=334) (args:=#[.pointer (some ⟨w.heap.size,0,none⟩),.pointer (some ⟨w.heap.size+1,0,none⟩),.pointer (some ⟨w.heap.size+1+1,0,none⟩)]) Q6 (by simp[go_sem]) ?_
   refine(ztj _ _ _ _).mono ?_;rintro e a0 I ⟨rfl,rfl,p⟩;obtain⟨t,u,v,x,k4⟩:=zsd d.out;have y:I=NU w wr (.slice q (ints l).length c) a:=p;rw[<-y] at t u v x k4;clear p y;simp[Leaves,settle,results,SE,go_sem,u,v,x];exact⟨_,rfl,k4,t⟩
theorem UG(w:World):Qk 289 #[Qi 0] w λe a=>e=.returned (.tuple #[])/\w=a:=by
 go_enter Tryz.func289,Tryz.ntmps289
 go_wp2_with fail
 exact Fu (Dw rfl _ _ _) rfl ⟨rfl,rfl⟩
theorem U3(c:Int)(w:World):Qk 260 #[.bool true,Qi c] w λe a=>e=.returned (.tuple #[])/\w=a:=by
 go_enter Tryz.func260,Tryz.ntmps260
 go_wp2_with fail
 exact Fu (Dw rfl _ _ _) rfl ⟨rfl,rfl⟩
abbrev Dj(w:World)(k:Nat)(s:ByteArray)(d:Nat)(c b a:Value):Prop:=w.heap[k]?=some (Obj.cells #[.string s,Qi (d:Nat),c,b,a] 380 (0,0))
theorem RD(w:World)(k:Nat)(s:ByteArray)(a n v:Nat)(l g f:Value)(b:Dj w k s a l g f)(t:s.size<=1099511627776)(p:n<=48)(h:a+n<=8*s.size)(d:B.num (B.slice s.data.toList a n)=v) :
 Qk 283 #[Qp k 0,Qi n] w λe c=>e=.returned (Qi (v:Nat))/\Dj c k s (a+n) l g f/\Ab k w c:=by
 have o:s.data.toList.length=s.size:=by simp
 have G:Hid (∀W,Qk 231 #[.string s,Qi a,Qi n] W λe c=>e=.returned (.tuple #[.int .u64 (v:Nat),Qi 0])/\W=c):=λW=>by
  have:=NA s a n W Q0
  rw[Sg _ a n Q0 Q0,Si _ a n Q0 Q0,d] at this
  exact this
 have m:v<281474976710656:=by
  rw[<-d];have i:=B.num_lt (B.slice s.data.toList a n);rw[B.length_slice] at i;exact Iy i (Jj Q0 p)
 have O:=Aa UG;have u:Qc w k 0 (.string s):=Ae b 0;have x:Qc w k 1 (Qi a):=Ae b 1;have r:w.frozen? ⟨k,1,none⟩=false:=Ah b 1;have q:k<w.heap.size:=Aj b;have A:IntKind.i64.wrap (v:Int)=(v:Int):=AU _ Q0
 have z:IntKind.i64.wrap ((a:Int)+(n:Int))=((a+n:Nat):Int):=by rw[AU _ Q0];omega
 have HE:=Aa b;clear b o d m
 go_enter Tryz.func283,Tryz.ntmps283
 go_wp2_with fail
 go_quiet ((go_at_call 231;exact N0 (G.out _)))
 go_wp2_with fail
 refine(O.out _).mono ?_;rintro e y ⟨rfl,rfl⟩
 go_wp2_with fail
 go_ret
 have j:=EW (Ag w.heap.size w) nq;refine⟨rfl,?_,(Ab.of j).set 1 _⟩;have:=Ak ((j.block k q).trans HE.out) 1 (Qi ((a+n:Nat):Int));unfold Dj;simpa using this
theorem Ux(w:World)(k:Nat)(s:ByteArray)(g n:Nat)(d c b:Value)(a:Dj w k s g d c b) :
 Qk 285 #[Qp k 0,Qi n,Qi 0] w λe f=>e=.returned (.tuple #[])/\Dj f k s n d c b/\Ab k w f:=by
 have O:=Aa UG;have i:Qc w k 1 (Qi g):=Ae a 1;have h:w.frozen? ⟨k,1,none⟩=false:=Ah a 1;have l:k<w.heap.size:=Aj a;have HE:=Aa a;clear a
 go_enter Tryz.func285,Tryz.ntmps285
 go_wp2_with fail
 refine(O.out _).mono ?_;rintro e j ⟨rfl,rfl⟩
 go_wp2_with fail
 refine Fu (Dw rfl _ _ _) rfl ⟨rfl,?_,(Ab.refl k w).set 1 _⟩;have:=Ak HE.out 1 (Qi (n:Int));unfold Dj;simpa using this
end Go.Proofs.YtoejfkeofbdalaaGreatDoor
namespace Go.Proofs.YtoejfkeofbdalaaGreatDoor
open Go Go.RowKit
variable {H:Type} {k m n:Nat} {w:World}
theorem zrd:Tryz.prog.cellsOf 65=2:=Q2
theorem zuE:Tryz.prog.cellsOf 3=1:=Q2
theorem zzr{enc:TypeId × Value->H}{i:Nat->Bool}{p:Bool}{s:List Value}{y:DataW H × List MemPlace}(h:DataW.trod enc Tryz.prog w n i p m 65 s=some y)(f:s.length=2) :
 ∃a b,s=[Qi a,Qi b]/\(Lit.int .i64 a).wf=true/\(Lit.int .i64 b).wf=true:=by
 cases m with
 |zero=>simp[DataW.trod] at h
 | succ m =>
   have g:Tryz.prog.underlying 65=some (.array 2 3):=Q2
   simp only[DataW.trod,g,zuE,PJ] at h;split at h
   ·obtain⟨x,e,t⟩:=Option.map_eq_some_iff.1 h
    obtain⟨q,-,l⟩:=Lib.mapM_at e 0 0 Q6
    obtain⟨r,-,o⟩:=Lib.mapM_at e 1 1 Q6
    obtain⟨a,c,-,j⟩:=DataW.trod_int J4 l;obtain⟨b,d,-,k⟩:=DataW.trod_int J4 o
    match s,f with
    | [u,v],_ =>
      simp at c d;exact⟨a,b,by rw[c,d],j,k⟩
   ·cases h
theorem zqc:(⟨n,m,none⟩:Addr).add k=⟨n,m+k,none⟩:=by
 unfold Addr.add;split
 ·rename_i h;subst h;rfl
 ·rfl
theorem zmJ(l:List (Int × Int)):(Qw l).length=l.length*2:=by
 induction l with
 |nil=>rfl
 | cons p l a =>
   simp only[Qw,IQ,AJ,Bt,D4] at a |-;omega
theorem zpX{enc:TypeId × Value->H}{A:Option Addr}{x:DataW H × List MemPlace}(O:DataW.trod enc Tryz.prog w 0 (λ_=>true) true n 22 [.slice A m k]=some x):∃l,Bn w (.slice A m k) l:=by
 rcases Go.Deep.open_slice Tryz.underlying22 O with⟨s,_⟩|⟨x,l,c,K,X,D,Y,s,_,P,Q,U,_,R⟩
 ·simp at s
  obtain⟨rfl,rfl,rfl⟩:=s;exact⟨[],⟨Rd.nil _ _ _,λp B=>by simp at B⟩⟩
 ·simp at s
  obtain⟨rfl,rfl,rfl⟩:=s;have a1:K=k:=by simpa using U
  have W:∀i,i<m->∃a:Int × Int,(w.cell? (x.add (i*2))=some (Qi a.1)/\w.cell? ((x.add (i*2)).add 1)=some (Qi a.2))/\((-9223372036854775808<=a.1/\a.1<=9223372036854775807)/\-9223372036854775808<=a.2/\a.2<=9223372036854775807):=by
   intro i u;obtain⟨a0,G,h⟩:=R i Q0
   rw[zrd] at G;obtain⟨_,b,I⟩:=World.cells?_some G;obtain⟨p,q,rfl,S,T⟩:=zzr h b;have F:=I 0 Q0
   have L:=I 1 Q0
   rw[show(x.add (i*2)).add 0=x.add (i*2) by simp[Addr.add]] at F
   exact⟨(p,q),⟨F,L⟩,wf_i64 S,wf_i64 T⟩
  obtain⟨f,E⟩:=Go.Deep.choose_lt W;have b:((List.range m).map f).length=m:=by simp
  refine⟨(List.range m).map f,⟨⟨by rw[zmJ],_,k,by rw[b],by rw[b];exact P,Q,λJ=>?_⟩,?_⟩⟩
  ·rw[b] at J
   obtain⟨⟨d,-⟩,-⟩:=E 0 J;obtain⟨g,o,z⟩:=x;have M:(⟨g,o,z⟩:Addr).add (0*2)=⟨g,o,z⟩:=by simp[Addr.add]
   rw[M] at d
   have V:z=none:=by
    cases z with
    |none=>rfl
    | some v =>
      unfold World.cell? at d;split at d<;>simp at d
   subst V;refine⟨g,o,rfl,Zj d,λi y C=>?_⟩;have u:=(Cc.1 C).1;rw[zmJ,b] at u;obtain⟨⟨h,t⟩,-⟩:=E (i / 2) Q0
   obtain⟨j,r⟩:=X4 ((List.range m).map f) (i / 2) (f (i / 2)) (by rw[EA,Ji Q0];rfl)
   rw[zqc] at h t;rw[zqc] at t
   by_cases Z:i%2=0
   ·have e:i / 2*2=i:=Q0
    rw[e] at j h;rw[C] at j;injection j with j
    rw[j];exact h
   ·have e:i / 2*2+1=i:=Q0
    have N:o+i / 2*2+1=o+i:=Q0
    rw[e] at r;rw[N] at t;rw[C] at r;injection r with r
    rw[r];exact t
  ·intro p B
   obtain⟨i,u,rfl⟩:=C8.1 B;exact(E i (EB.1 u)).2
