import Derived.Test.YtoejfkeofbdalaaGreatDoorM05
import Derived.Test.YtoejfkeofbdalaaGreatDoorM06
import Derived.Test.YtoejfkeofbdalaaGreatDoorM07
set_option linter.all false
set_option maxRecDepth 100000
set_option maxHeartbeats 8000000
namespace Go.Proofs.YtoejfkeofbdalaaGreatDoor
open Go.RowKit
def LX(s:List UInt8)(m:Int)(v:Nat)(n:Int):Option (List Bool) :=
 if Ih s m then(if 0<=n/\n<=64 then some (B.slice s 0 m.toNat++B.low v n.toNat) else none) else none
theorem zxN(w:World)(b:Nat)(d f g:Nat)(s:ByteArray)(m:Int)(v:Nat)(n:Int)(h:Wr w b [])(N:8*s.size<562949953421248)(D:v<18446744073709551616)
 (E:-9223372036854775808<=m) (J:m<=9223372036854775807) (L:d<b) (z:f<b) (A:g<b)
 (o:Qg w d #[.string s,Qi m] 50) (x:Qg w f #[.int .u64 v] 58) (y:Qg w g #[Qi n] 3) :
 Qk 65 #[Qp b 0,Qp d 0,Qp f 0,Qp g 0] w (Rm w b (LX s.data.toList m v n)):=by
 have O:Qc w d 0 (.string s):=Ae o 0;have P:Qc w d 1 (Qi m):=Ae o 1;have C:=zpZ w b [] s m h (by simpa using by omega) E J
 have c:=Aa C;have K:=Aa o;have t:=Aa x;have u:=Aa y;clear C o x y;cases hr:Ih s.data.toList m with
 | false =>
   have j:LX s.data.toList m v n=none:=by unfold LX;rw[hr];rfl
   rw[j];rw[hr] at c;clear hr j
   go_enter Tryz.func65,Tryz.ntmps65
   go_wp2_with (go_at_call 66;refine c.out.mono ?_;rintro e Q ⟨a,rfl⟩)
   exact⟨rfl,a,rfl⟩
 | true =>
   have j:LX s.data.toList m v n=if 0<=n/\n<=64 then some (B.slice s.data.toList 0 m.toNat++B.low v n.toNat) else none:=by unfold LX;rw[hr];rfl
   rw[j];rw[hr,if_pos rfl,C6] at c
   have M:(B.slice s.data.toList 0 m.toNat).length<=8*s.size:=by
    rw[B.length_slice];unfold Ih at hr;simp only[GP,Fj] at hr;have:s.data.toList.length=s.size:=by simp
    omega
   clear hr j;generalize B.slice s.data.toList 0 m.toNat=l at*
   by_cases p:0<=n/\n<=64
   ·have e:(if 0<=n/\n<=64 then some (l++B.low v n.toNat) else none)=some (l++B.low v n.toNat):=if_pos p
    rw[e];clear e
    go_enter Tryz.func65,Tryz.ntmps65
    go_wp2_with
     (first
      |(go_at_call 66
        refine c.out.mono ?_;rintro e k ⟨a,rfl,q⟩;have F:Qc k f 0 (.int .u64 v):=Ae ((a.block _ z).trans t.out) 0;have G:Qc k g 0 (Qi n):=Ae ((a.block _ A).trans u.out) 0)
      |(go_at_call 67
        refine(zkc _ b l v n q D Q0).mono ?_
        rintro e H ⟨r,i⟩;rw[if_pos p] at i;obtain⟨rfl,I⟩:=i))
    go_end0
    exact⟨a.trans r,rfl,I⟩
   ·have e:(if 0<=n/\n<=64 then some (l++B.low v n.toNat) else none)=none:=if_neg p
    rw[e];clear e
    go_enter Tryz.func65,Tryz.ntmps65
    go_wp2_with
     (first
      |(go_at_call 66
        refine c.out.mono ?_;rintro e k ⟨a,rfl,q⟩;have F:Qc k f 0 (.int .u64 v):=Ae ((a.block _ z).trans t.out) 0;have G:Qc k g 0 (Qi n):=Ae ((a.block _ A).trans u.out) 0)
      |(go_at_call 67
        refine(zkc _ b l v n q D Q0).mono ?_
        rintro e H ⟨r,i⟩;rw[if_neg p] at i;obtain rfl:=i))
    exact⟨rfl,a.trans r,rfl⟩
theorem zon:Enters Tryz.prog 65:=enters_of Tryz.func65 Q2 rfl
def UV:Value:=.agg #[.string ⟨#[]⟩,Qi 0]
theorem zzh(w:World)(s:ByteArray)(m:Int)(v:Nat)(n:Int)(y:8*s.size<562949953421248)(z:v<18446744073709551616)(x:-9223372036854775808<=m)(G:m<=9223372036854775807) :
 Qk 19 #[.agg #[.string s,Qi m],.int .u64 v,Qi n] w λe E=>e=.returned (MK (LX s.data.toList m v n))/\Qb w E:=by
 have Cw:=Cw;have B:(((w.alloc (.cells #[.string s,Qi m] 50)).alloc (.cells #[.int .u64 v] 58)).alloc (.cells #[Qi n] 3)).heap.size=w.heap.size+3:=by simp
 obtain⟨W,a⟩:∃W,W=((((w.alloc (.cells #[.string s,Qi m] 50)).alloc (.cells #[.int .u64 v] 58)).alloc (.cells #[Qi n] 3)).alloc (.cells #[.string ⟨#[]⟩,Qi 0] 50)):=⟨_,rfl⟩;have h:Qg W w.heap.size #[.string s,Qi m] 50:=by rw[a];exact Bb _ (Bb _ (Bb _ (Lw w _)))
 have i:Qg W (w.heap.size+1) #[.int .u64 v] 58:=by rw[a];exact Bb _ (Bb _ (Am _ _ _ Q6))
 have j:Qg W (w.heap.size+1+1) #[Qi n] 3:=by rw[a];exact Bb _ (Am _ _ _ Q6)
 have k:Qg W (w.heap.size+1+1+1) #[.string ⟨#[]⟩,Qi 0] 50:=by rw[a];exact Am _ _ _ Q6
 have J:W.heap.size=w.heap.size+4:=by rw[a];simp
 have F:Qb w W:=by rw[a];exact((((Ag _ _).alloc (Af _) _).alloc Q6 _).alloc Q4 _).alloc Q4 _
 have g:=Aa a;clear a B
 have C:=Aa (zqF W 65 #[.pointer (some ⟨w.heap.size,0,none⟩),.pointer (some ⟨w.heap.size+1,0,none⟩),.pointer (some ⟨w.heap.size+1+1,0,none⟩)] (LX s.data.toList m v n) zon
  (λu b c H A=>zxN u b w.heap.size (w.heap.size+1) (w.heap.size+1+1) s m v n A y z x G Q0 Q0 Q0 ((c.block _ Q0).trans h) ((c.block _ Q0).trans i) ((c.block _ Q0).trans j)))
 have f:=Aa k;clear h i j k;generalize LX s.data.toList m v n=D at*
 go_enter Tryz.func19,Tryz.ntmps19
 go_wp2_with fail
 rw[<-g.out];refine C.out.mono ?_;rintro e r ⟨rfl,c⟩;have d:=(c.block _ Q0).trans f.out
 have o:Qc r (w.heap.size+1+1+1) 0 (.string ⟨#[]⟩):=Ae d 0;have q:Qc r (w.heap.size+1+1+1) 1 (Qi 0):=Ae d 1;have I:=Ah d;have t:=F.trans (c.mono Q0)
 clear d C g f;cases D with
 | none =>
   simp only[MK]
   go_wp2
   exact BV (v:=.tuple #[UV,Qi 1]) (by simp[results,Tryz.results19,go_sem,o,q,UV]) rfl ⟨rfl,(t.setCell (p:=⟨w.heap.size+1+1+1,0,none⟩) Q4 _).setCell (p:=⟨w.heap.size+1+1+1,1,none⟩) Q4 _⟩
 | some l =>
   simp only[MK,OW]
   go_wp2
   exact BV (v:=.tuple #[OW l,Qi 0]) (by simp[results,Tryz.results19,go_sem,o,q,OW]) rfl ⟨rfl,(t.setCell (p:=⟨w.heap.size+1+1+1,0,none⟩) Q4 _).setCell (p:=⟨w.heap.size+1+1+1,1,none⟩) Q4 _⟩
abbrev Jw:=ByteArray × Int
def DW(a:List Jw):List Value:=a.flatMap λp=>[.string p.1,Qi p.2]
theorem Yh(a:List Jw):(DW a).length=a.length*2:=by
 induction a with
 |nil=>rfl
 |cons p a b=>simp only[DW,IQ,AJ,Bt,D4] at b |-;omega
theorem YK(a:List Jw):∀(i:Nat)(p:Jw),a[i]?=some p->(DW a)[i*2]?=some (.string p.1)/\(DW a)[i*2+1]?=some (Qi p.2):=by
 induction a with
 |nil=>intro i p h;simp at h
 | cons q a b =>
   intro i p h;cases i with
   |zero=>simp at h;subst h;simp[DW]
   | succ i =>
     have:=b i p (by simpa using h)
     simp only[DW,IQ] at this |-
     constructor
     ·rw[F7 Q4]
      simpa [show(i+1)*2-2=i*2 by omega] using this.1
     ·rw[F7 Q4]
      simpa [show(i+1)*2+1-2=i*2+1 by omega] using this.2
def MI(w:World)(B:Nat)(v:Value)(a:List Jw):Prop:=Rd w B 2 v a.length (DW a)
def Ku(l:List Bool):List Jw->Option (List Bool)
 | []=>some l
 |p::ps=>if Ih p.1.data.toList p.2 then Ku (l++B.slice p.1.data.toList 0 p.2.toNat) ps else none
def LD:List Jw->Nat
 | []=>0
 |p::ps=>8*p.1.size+LD ps
def X5(a:List Jw):Prop:=∀p∈a,-9223372036854775808<=p.2/\p.2<=9223372036854775807
theorem zlv(a:List Jw)(k:Nat)(p:Jw)(h:a[k]?=some p):LD (a.drop k)=8*p.1.size+LD (a.drop (k+1)):=by
 have c:k<a.length:=by
  rcases Gb k a.length with b|b
  ·exact b
  ·rw[EU b] at h;cases h
 rw[IJ c];rw[Az c] at h;injection h with h
 rw[h];rfl
theorem znG(l:List Bool)(a:List Jw)(k:Nat)(p:Jw)(h:a[k]?=some p) :
 Ku l (a.drop k)=if Ih p.1.data.toList p.2 then Ku (l++B.slice p.1.data.toList 0 p.2.toNat) (a.drop (k+1)) else none:=by
 have c:k<a.length:=by
  rcases Gb k a.length with b|b
  ·exact b
  ·rw[EU b] at h;cases h
 rw[IJ c];rw[Az c] at h;injection h with h
 rw[h];rfl
theorem ziv(s:ByteArray)(n:Int)(h:Ih s.data.toList n=true):(B.slice s.data.toList 0 n.toNat).length<=8*s.size:=by
 rw[B.length_slice];unfold Ih at h;simp only[GP,Fj] at h;have:s.data.toList.length=s.size:=by simp
 omega
theorem zw5(w:World)(b a:Nat)(v:Value)(c:List Jw)(h:Wr w b [])(R:a<b)(G:MI w b v c)(K:X5 c)(Y:LD c<562949953421312)
 (F:Qg w a #[v] 106) :
 Qk 68 #[Qp b 0,Qp a 0] w (Rm w b (Ku [] c)):=by
 have M:Qc w a 0 v:=Ae F 0;have U:=G;obtain⟨S,a1,P,rfl,a5,X,a0⟩:=U;clear S a0;have a3:=h.lt;clear F;generalize I:Ku [] c=L at*
 have O:=Aa I;clear I;unfold maxLen at X
 go_enter Tryz.func68,Tryz.ntmps68
 go_wp2
 go_loopw [7] (λi wr=>∃k:Nat,k<=c.length/\i=Qi k/\Below b w wr/\∃l,Wr wr b l/\l.length+LD (c.drop k)<562949953421312/\Ku l (c.drop k)=L) (λi _=>c.length-(intOf i).toNat)
 case atStart=>exact⟨0,BI _,rfl,Ag _ _,[],h,by simpa using Y,O.out⟩
 case round =>
  obtain⟨k,hk,rfl,r,l,x,W,j⟩:=hrel
  by_cases T:k<c.length
  ·have q:c[k]?=some (c[k]):=Az T
   generalize c[k]=p at q;obtain⟨s,n⟩:=p;obtain⟨g,o,rfl,hg,u⟩:=(G.below r (Af _)).addr Q0
   have A:=YK c k _ q;have r1:Qc wr g (o+k*2) (.string s):=u _ _ A.1;have r2:Qc wr g (o+k*2+1) (Qi n):=u _ _ A.2;have a4:Qc wr a 0 (Qs g o c.length P):=(r.cell (p:=⟨a,0,none⟩) R).trans M;have C:=zlv c k _ q;have d:=znG l c k _ q;have D:=K _ (Cn q);simp only at C d D;have J:Wr (wr.alloc (.cells #[.string s,Qi n] 50)) b l:=x.above ((Ag _ _).alloc (Af _) _) (Ag _ _);have f:=zpZ (wr.alloc (.cells #[.string s,Qi n] 50)) b l s n J Q0 D.1 D.2
   have H:Below b w (wr.alloc (.cells #[.string s,Qi n] 50)):=r.alloc (by have:=r.size;omega) _
   have E:=ziv s n;clear u A q x J;cases hr:Ih s.data.toList n with
   | false =>
     rw[hr] at d f;rw[j] at d;have t:=Aa f;have y:=Aa d;clear f d j hr E
     go_wp2_with (go_at_call 66;refine t.out.mono ?_;rintro e N ⟨z,rfl⟩)
     refine⟨rfl,H.trans z,?_⟩;rw[y.out];rfl
   | true =>
     have E:=E hr;rw[hr] at d f;rw[j,if_pos rfl] at d;rw[if_pos rfl] at f;generalize B.slice s.data.toList 0 n.toNat=m at*
     have t:=Aa f;have y:=Aa d;have a2:=Aa C;have Z:(l++m).length+LD (c.drop (k+1))<562949953421312:=by rw[AJ];omega
     clear f d j hr C W
     go_wp2_with (go_at_call 66;refine t.out.mono ?_;rintro e N ⟨z,rfl,Q⟩)
     go_roundw
     case rel=>exact⟨k+1,Q0,by go_num,H.trans z,l++m,Q,Z,y.out.symm⟩
     case measure=>simp[intOf];omega
  ·obtain rfl:k=c.length:=Q0
   rw[Py (Af _)] at j;have V:=Aa j;clear j
   go_wp2
   go_end0
   refine⟨r,?_⟩;rw[<-V.out];exact⟨rfl,x⟩
theorem zoL:Enters Tryz.prog 68:=enters_of Tryz.func68 Q2 rfl
theorem zzN(w:World)(v:Value)(a:List Jw)(k:MI w w.heap.size v a)(u:X5 a)(G:LD a<562949953421312) :
 Qk 20 #[v] w λe z=>e=.returned (MK (Ku [] a))/\Qb w z:=by
 have Cw:=Cw;have D:=k;obtain⟨B,A,q,rfl,E,F,H⟩:=D;clear B H E F;obtain⟨W,c⟩:∃W,W=((w.alloc (.cells #[.slice A a.length q] 106)).alloc (.cells #[.string ⟨#[]⟩,Qi 0] 50)):=⟨_,rfl⟩;have i:Qg W w.heap.size #[.slice A a.length q] 106:=by rw[c];exact Bb _ (Lw w _)
 have j:Qg W (w.heap.size+1) #[.string ⟨#[]⟩,Qi 0] 50:=by rw[c];exact Am _ _ _ Q6
 have K:W.heap.size=w.heap.size+2:=by rw[c];simp
 have s:Qb w W:=by rw[c];exact((Ag _ _).alloc (Af _) _).alloc Q6 _
 have h:=Aa c;clear c
 have C:=Aa (zqF W 68 #[.pointer (some ⟨w.heap.size,0,none⟩)] (Ku [] a) zoL
  (λt b d I x=>zw5 t b w.heap.size _ a x Q0 ((k.below (s.trans (d.mono Q0)) (Af _)).mono Q0) u G ((d.block _ Q0).trans i)))
 have g:=Aa j;clear i j;generalize Ku [] a=y at*
 go_enter Tryz.func20,Tryz.ntmps20
 go_wp2_with fail
 rw[<-h.out];refine C.out.mono ?_;rintro e o ⟨rfl,d⟩;have f:=(d.block _ Q0).trans g.out
 have m:Qc o (w.heap.size+1) 0 (.string ⟨#[]⟩):=Ae f 0;have n:Qc o (w.heap.size+1) 1 (Qi 0):=Ae f 1;have J:=Ah f;have r:=s.trans (d.mono Q0)
 clear f C h g;cases y with
 | none =>
   simp only[MK]
   go_wp2
   exact BV (v:=.tuple #[UV,Qi 1]) (by simp[results,Tryz.results20,go_sem,m,n,UV]) rfl ⟨rfl,(r.setCell (p:=⟨w.heap.size+1,0,none⟩) Q6 _).setCell (p:=⟨w.heap.size+1,1,none⟩) Q6 _⟩
 | some l =>
   simp only[MK,OW]
   go_wp2
   exact BV (v:=.tuple #[OW l,Qi 0]) (by simp[results,Tryz.results20,go_sem,m,n,OW]) rfl ⟨rfl,(r.setCell (p:=⟨w.heap.size+1,0,none⟩) Q6 _).setCell (p:=⟨w.heap.size+1,1,none⟩) Q6 _⟩
def Ba(l:List Bool):ByteArray:=⟨(B.pack l).toArray⟩
theorem zwy(l:List Bool):(Ba l).data.toList=B.pack l:=rfl
theorem WV(l:List Bool):(Ba l).size=(l.length+7)/ 8:=by
 rw[<-B.length_pack];rfl
theorem Zs(l:List Bool):Ih (B.pack l) (l.length:Nat)=true:=by
 have:=B.right_pack l;unfold Ih;simp only[GP,Fj];refine⟨⟨Q0,by rw[EM];exact this.1⟩,λi a b=>this.2 i Q0 a⟩
theorem zvm(l:List Bool)(v:Nat)(n:Nat)(a:n<=64):LX (B.pack l) (l.length:Nat) v n=some (l++B.low v n):=by
 unfold LX;rw[Zs,if_pos rfl,if_pos ⟨Q0,Q0⟩,EM,EM,B.slice_pack]
theorem Sg(s:List UInt8)(a n:Nat)(h:a+n<=8*s.length)(b:n<=64):Ew s a n=0:=by
 unfold Ew;rw[if_neg Q0,if_neg Q0]
theorem Si(s:List UInt8)(a n:Nat)(h:a+n<=8*s.length)(b:n<=64):Ed s a n=(B.num (B.slice s a n):Nat):=by
 unfold Ed;rw[if_neg Q0,if_neg Q0,EM,EM]
def Dp(l:List Bool):Jw:=(Ba l,(l.length:Nat))
theorem zlC(a:List (List Bool)):∀l:List Bool,Ku l (a.map Dp)=some (l++a.flatten):=by
 induction a with
 |nil=>intro l;simp[Ku]
 | cons m a b =>
   intro l;rw[Dz];unfold Ku;rw[show(Dp m).1.data.toList=B.pack m from rfl,show(Dp m).2=((m.length:Nat):Int) from rfl,Zs,if_pos rfl,EM,B.slice_pack,b]
   simp
theorem zjR(a:List (List Bool)):LD (a.map Dp)<=a.flatten.length+8*a.length:=by
 induction a with
 |nil=>simp[LD]
 | cons m a b =>
   rw[Dz];unfold LD;rw[show(Dp m).1.size=(m.length+7)/ 8 from WV m]
   simp only[Oc,AJ,Bt];omega
theorem zk4(a:List (List Bool))(h:a.flatten.length<9223372036854775807):X5 (a.map Dp):=by
 intro p c;simp only[C8] at c;obtain⟨l,b,rfl⟩:=c
 have:l.length<=a.flatten.length:=by
  clear h
  induction a with
  |nil=>simp at b
  | cons m a d =>
    simp only[Oc,AJ];rcases CZ.1 b with rfl|h
    ·omega
    ·have:=d h;omega
 simp only[Dp];omega
theorem zxa(k:Nat):((2:Int)^ k)=((2 ^ k:Nat):Int):=by push_cast;rfl
abbrev bv(l:List Bool):Value:=.agg #[.string (Ba l),Qi (l.length:Nat)]
theorem zyL(w:World)(l:List Bool)(v n:Nat)(d:l.length<1099511627776)(c:v<18446744073709551616)(b:n<=64) :
 Qk 19 #[.agg #[.string (Ba l),Qi (l.length:Nat)],.int .u64 v,Qi n] w λe a =>
  e=.returned (.tuple #[.agg #[.string (Ba (l++B.low v n)),Qi ((l++B.low v n).length:Nat)],Qi 0])/\Qb w a:=by
 have f:=WV l;refine(zzh w (Ba l) (l.length:Nat) v n Q0 c Q0 Q0).mono λe a h=>?_
 rw[zwy,zvm _ _ _ b] at h;exact h
theorem zAw(w:World)(v:Value)(a:List (List Bool))(c:MI w w.heap.size v (a.map Dp))(f:a.flatten.length+8*a.length<1099511627776) :
 Qk 20 #[v] w λe b =>
  e=.returned (.tuple #[.agg #[.string (Ba a.flatten),Qi (a.flatten.length:Nat)],Qi 0])/\Qb w b:=by
 have d:=zjR a;refine(zzN w v _ c (zk4 a Q0) Q0).mono λe b h=>?_
 rw[zlC,C6] at h;exact h
theorem UT(w:World)(v:Value)(a:List (List Bool))(r:List Bool)(c:a.flatten=r)(d:MI w w.heap.size v (a.map Dp))(b:r.length+8*a.length<1099511627776) :
 Qk 20 #[v] w λe f =>
  e=.returned (.tuple #[.agg #[.string (Ba r),Qi (r.length:Nat)],Qi 0])/\Qb w f:=by
 subst c;exact zAw w v a d b
theorem Sq(w:World)(l:List Bool)(v n:Nat)(r:List Bool)(c:l++B.low v n=r)(a:l.length<1099511627776)(d:v<18446744073709551616)(b:n<=64) :
 Qk 19 #[.agg #[.string (Ba l),Qi (l.length:Nat)],.int .u64 v,Qi n] w λe f =>
  e=.returned (.tuple #[.agg #[.string (Ba r),Qi (r.length:Nat)],Qi 0])/\Qb w f:=by
 subst c;exact zyL w l v n a d b
theorem Sc(w:World)(v n:Nat)(r:List Bool)(b:B.low v n=r)(c:v<18446744073709551616)(a:n<=64) :
 Qk 19 #[.agg #[.string ⟨#[]⟩,Qi 0],.int .u64 v,Qi n] w λe d =>
  e=.returned (.tuple #[.agg #[.string (Ba r),Qi (r.length:Nat)],Qi 0])/\Qb w d:=by
 subst b;exact zyL w [] v n Q6 c a
theorem NA(s:ByteArray)(a n:Int)(w:World)(m:s.size<=281474976710656) :
 Qk 231 #[.string s,Qi a,Qi n] w λe h=>e=.returned (.tuple #[.int .u64 (Ed s.data.toList a n),Qi (Ew s.data.toList a n)])/\w=h:=by
 by_cases b:n<0\/64<n\/a<0
 ·have d:Ed s.data.toList a n=0:=by unfold Ed;rw[if_pos b]
  have c:Ew s.data.toList a n=1:=by unfold Ew;rw[if_pos b]
  rw[d,c];clear d c
  go_enter Tryz.func231,Tryz.ntmps231
  go_wp2
  all_goals(go_ret2;exact⟨rfl,rfl⟩)
 ·by_cases f:8*(s.data.toList.length:Int)-n<a
  ·have d:Ed s.data.toList a n=0:=by unfold Ed;rw[if_neg b,if_pos f]
   have c:Ew s.data.toList a n=2:=by unfold Ew;rw[if_neg b,if_pos f]
   rw[d,c];clear d c;have g:s.data.toList.length=s.size:=by simp
   rw[g] at f;have o:0<=n:=Q0
   have j:n<=64:=Q0
   have p:0<=a:=Q0
   clear b g
   go_enter Tryz.func231,Tryz.ntmps231
   go_wp2
   go_ret2;exact⟨rfl,rfl⟩
  ·have d:Ed s.data.toList a n=(B.num (B.slice s.data.toList a.toNat n.toNat):Nat):=by unfold Ed;rw[if_neg b,if_neg f]
   have c:Ew s.data.toList a n=0:=by unfold Ew;rw[if_neg b,if_neg f]
   rw[d,c];clear d c;have g:s.data.toList.length=s.size:=by simp
   rw[g] at f;obtain⟨n,rfl⟩:=Mf (show 0<=n by omega)
   obtain⟨a,rfl⟩:=Mf (show 0<=a by omega)
   have j:n<=64:=Q0
   clear b g;rw[EM,EM]
   go_enter Tryz.func231,Tryz.ntmps231
   go_wp2
   go_loop [6,29] (λv i=>∃k:Nat,k<=n/\i=Qi k/\v=.int .u64 (B.num (B.slice s.data.toList a k):Nat)) (λ_ i=>n-(intOf i).toNat)
   case atStart=>exact⟨0,BI _,rfl,rfl⟩
   case round =>
    obtain⟨k,q,rfl,rfl⟩:=hrel
    by_cases r:k<n
    ·go_wp2_with (go_at_call 127;refine(X6 _ _ _ Q0 Q0 m).mono ?_;rintro e h ⟨rfl,rfl⟩)
     have e:B.num (B.slice s.data.toList a (k+1))=2*B.num (B.slice s.data.toList a k)+(B.bitAt s.data.toList (a+k)).toNat:=by rw[B.slice_succ,B.num_snoc]
     have l:B.num (B.slice s.data.toList a k)<9223372036854775808:=by
      have:=B.num_lt (B.slice s.data.toList a k);rw[B.length_slice] at this;exact Iy this (Jj Q0 (show k<=63 by omega))
     go_round
     case rel=>exact⟨k+1,Q0,by go_num,by rw[zyt _ _ l,e]⟩
     case measure=>simp[intOf];omega
    ·go_wp2
     obtain rfl:k=n:=Q0
     go_ret2
     exact⟨rfl,rfl⟩
theorem Wl(n:Int)(w:World)(y:-9223372036854775808<=n)(E:n<=9223372036854775807) :
 Qk 33 #[Qi n] w λe g=>∃v,e=.returned v/\Ad g w.heap.size v (DA n.toNat)/\Qb w g:=by
 go_enter Tryz.func33,Tryz.ntmps33
 go_wp2
 go_loopw [0,2] (λd p wr=>∃(z:Int)(a:List Int),z<=n/\d=Qi z/\Ad wr w.heap.size p a/\Hid (a++DA z.toNat=DA n.toNat)/\Qb w wr) (λd _ _=>(intOf d).toNat)
 case atStart=>exact⟨n,[],Int.le_refl _,rfl,Ad.nil _ _,C6 _,Ag _ _⟩
 case round =>
  obtain⟨z,a,A,rfl,i,b,c⟩:=hrel;have F:=c.size
  have C:a.length<=64:=by
   have l:=VD n.toNat Q0
   rw[<-b.out,AJ] at l;omega
  have f:=Aa i;clear i
  by_cases G:0<z
  ·obtain⟨m,rfl⟩:=Mf (show 0<=z by omega)
   have D:0<=(m:Int)-1:=Q0
   have t:Hid ((a++[((m:Int)-1)%2])++DA (((m:Int)-1)/ 2).toNat=DA n.toNat):=by
    show _=_
    rw[<-b.out,EM,U6 (n:=m) Q0,show(((m:Int)-1)/ 2).toNat=(m-1)/ 2 by omega,show(((m-1)%2:Nat):Int)=((m:Int)-1)%2 by omega]
    simp
   clear b
   go_wp2_with
    (at_builtin
     refine KN rfl _ _ rfl w.heap.size _ a rfl (f.out.alloc _) (wr.heap.size+1) _ [((m:Int)-1)%2] rfl (Ac.new wr _ _ _ _ rfl rfl rfl (by simp[maxLen])) Q4 Q4 ?_
     intro B x q j h s;have u:=Aa j;have r:Qb w q:=(c.alloc Q0 _).grown h Q4 (λk o=>by have:=Dm f.out o;omega)
     clear h s j)
   go_roundw
   case rel=>exact⟨((m:Int)-1)/ 2,a++[((m:Int)-1)%2],Q0,rfl,u.out,t,r⟩
   case measure=>simp[intOf];omega
  ·go_wp2
   go_ret
   refine⟨_,rfl,?_,c⟩;have:=b.out;rw[show z.toNat=0 by omega,Uf,Eu] at this
   rw[<-this];exact f.out
theorem zkW:Enters Tryz.prog 227:=enters_of Tryz.func227 Q2 rfl
theorem zob:Enters Tryz.prog 168:=enters_of Tryz.func168 Q2 rfl
theorem zok:Enters Tryz.prog 358:=enters_of Tryz.func358 Q2 rfl
theorem zoV:Enters Tryz.prog 228:=enters_of Tryz.func228 Q2 rfl
theorem zrs(x:Int)(w:World):Qk 227 #[Qi x] w λe a=>e=.returned (.bool (decide (x<0)))/\w=a:=by
 go_enter Tryz.func227,Tryz.ntmps227
 go_wp2
 go_ret
 exact⟨rfl,rfl⟩
theorem zw9(x:Int)(w:World):Qk 168 #[Qi x] w λe a=>e=.returned (.bool (decide (1099511627776<x)))/\w=a:=by
 go_enter Tryz.func168,Tryz.ntmps168
 go_wp2
 go_ret
 exact⟨rfl,rfl⟩
theorem zxl(x:Int)(w:World):Qk 358 #[Qi x] w λe d=>e=.returned (.bool (!decide (x=0)&& !decide (x=1)))/\w=d:=by
 by_cases a:x=0
 ·subst a
  go_enter Tryz.func358,Tryz.ntmps358
  go_wp2
  go_ret
  exact⟨rfl,rfl⟩
 ·have f:(x !=0)=true:=by simpa using a
  have b:(x !=1)= !decide (x=1):=by rw[Ki];simp
  rw[AV a];have c:=Aa b;clear b
  go_enter Tryz.func358,Tryz.ntmps358
  go_wp2
  go_ret
  exact⟨RT c.out,rfl⟩
theorem zwJ(x a:Int)(b:Nat)(w:World)(d:Qc w b 0 (Qi a)):Qk 228 #[Qi x,Qp b 0] w λe c=>e=.returned (.bool (decide (a<x)))/\w=c:=by
 go_enter Tryz.func228,Tryz.ntmps228
 go_wp2
 go_ret
 exact⟨rfl,rfl⟩
def JZ(l:List Int):Bool:=l.any λx=>decide (x<0)
theorem znt(w:World)(v:Value)(a:List Int)(b:Ac w w.heap.size v a)(f:a.length<=281474976710656) :
 Qk 167 #[v] w λe d=>e=.returned (.bool (JZ a))/\Qb w d:=by
 have C:=Aa (O1 w v a (λx=>decide (x<0)) 227 #[] zkW b f (λx _ W _=>zrs x W));clear b
 go_enter Tryz.func167,Tryz.ntmps167
 go_wp2_with fail
 refine C.out.mono ?_;rintro e g ⟨rfl,c⟩
 go_wp2_with fail
 go_ret
 exact⟨rfl,c⟩
theorem zwD(a:Int)(l:List Int):(if JK (λx=>decide (a<x)) l<0 then(l.length:Int) else JK (λx=>decide (a<x)) l)=(EH a l:Nat):=by
 have e:(l.takeWhile λx=>!decide (a<x))=l.takeWhile λx=>decide (x<=a):=by
  congr 1;funext x;rw[Ki];simp
 unfold JK
 by_cases h:(l.any λx=>decide (a<x))=true
 ·rw[if_pos h,if_neg Q0,e];rfl
 ·rw[if_neg h,if_pos Q0]
  rw[zvw (Af _) (λi x _ c=>?_) (λx d=>by simp at d)]
  have b:(l.any λx=>decide (a<x))=false:=by simpa using h
  rw[GR] at b;have:=b x (Cn c);simpa using this
theorem X2(w:World)(v:Value)(b:List Int)(a:Int)(d:Ac w w.heap.size v b)(m:b.length<=281474976710656) :
 Qk 170 #[v,Qi a] w λe k=>e=.returned (Qi (EH a b:Nat))/\Qb w k:=by
 have Cw:=Cw;obtain⟨A,n,rfl,o,p⟩:=d.shape;have i:Qg (w.alloc (.cells #[Qi a] 3)) w.heap.size #[Qi a] 3:=Lw w _
 have C:=Aa (YG (w.alloc (.cells #[Qi a] 3)) _ b (λx=>decide (a<x)) 228 #[.pointer (some ⟨w.heap.size,0,none⟩)] zoV ((d.below ((Ag w.heap.size w).alloc (Af _) _) (Af _)).mono Q6) m
  (λx _ W c=>zwJ x a w.heap.size W (Ae ((c.block w.heap.size Q6).trans i) 0)))
 have g:=zwD a b;generalize JK (λx=>decide (a<x)) b=z at*
 have f:=Aa g;clear d g i
 go_enter Tryz.func170,Tryz.ntmps170
 go_wp2_with fail
 refine C.out.mono ?_;rintro e l ⟨rfl,c⟩;have h:Qb w l:=((Ag _ _).alloc (Af _) _).trans (c.mono Q6)
 by_cases j:z<0
 ·go_wp2_with fail
  go_ret
  exact⟨JD (by rw[<-f.out,if_pos j]),h⟩
 ·go_wp2_with fail
  go_ret
  exact⟨JD (by rw[<-f.out,if_neg Q0]),h⟩
def Pj(n:Int):Bool:=decide (n<0) ||decide (1048576<n)
def Rp(l:List Int):Bool:=!l.any Pj
theorem zxW(l:List Int):Rp l=true↔∀x∈l,0<=x/\x<=1048576:=by
 unfold Rp Pj;rw[P8,GR]
 constructor
 ·intro h x a
  have:=h x a;simp at this;omega
 ·intro h x a
  have:=h x a;simp;omega
theorem zog(n:Int)(W:World):Qk 138 #[Qi n] W λe a=>e=.returned (.bool (Pj n))/\W=a:=by
 unfold Pj;rcases h1:decide (n<0) with _|_<;>rcases h2:decide (1048576<n) with _|_<;>
 ·go_enter Tryz.func138,Tryz.ntmps138
  go_wp2
  go_ret
  exact⟨rfl,rfl⟩
theorem zjF:Enters Tryz.prog 138:=enters_of Tryz.func138 Q2 rfl
theorem zsc(w:World)(v:Value)(a:List Int)(c:Ac w w.heap.size v a)(g:a.length<=1000000) :
 Qk 77 #[v] w λe h=>e=.returned (.bool (Rp a))/\Qb w h:=by
 have C:=Aa (O1 w v a Pj 138 #[] zjF c Q0 (λx _ d _=>zog x d))
 have e:Rp a = !a.any Pj:=rfl;rw[e];generalize a.any Pj=b at*
 obtain⟨A,i,rfl,k,l⟩:=c.shape;clear c e g
 go_enter Tryz.func77,Tryz.ntmps77
 go_wp2_with fail
 refine C.out.mono ?_;rintro e j ⟨rfl,f⟩
 go_wp2_with fail
 go_ret
 exact⟨rfl,f⟩
def I9(c:Int):Nat:=if c<0 then(-(c+1)).toNat else c.toNat
theorem zqD(c:Int)(n:Nat)(b:-9223372036854775808<=c)(d:c<=9223372036854775807)(f:0<n)(g:n<=1000000)(w:World) :
 Qk 9 #[Qi c,Qi (n:Nat)] w λe a=>e=.returned (Qi ((I9 c%n:Nat):Int))/\w=a:=by
 by_cases h:c<0
 ·have e:((I9 c%n:Nat):Int)=(-(c+1))%(n:Int):=by
   unfold I9;rw[if_pos h,Tj,Rb Q0]
  rw[e];clear e
  go_enter Tryz.func9,Tryz.ntmps9
  go_wp2
  go_ret
  exact⟨JD (by rw[<-Int.neg_tmod];exact KE Q0),rfl⟩
 ·have e:((I9 c%n:Nat):Int)=c%(n:Int):=by
   unfold I9;rw[if_neg h,Tj,Rb Q0]
  rw[e];clear e
  go_enter Tryz.func9,Tryz.ntmps9
  go_wp2
  go_ret
  exact⟨rfl,rfl⟩
