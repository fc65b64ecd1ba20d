import Derived.Test.YtoejfkeofbdalaaGreatDoorM45
import Derived.Test.YtoejfkeofbdalaaGreatDoorM41
import Derived.Lib.SmallJoins
set_option linter.all false
set_option maxRecDepth 100000
set_option maxHeartbeats 8000000
namespace Go.Proofs.YtoejfkeofbdalaaGreatDoor
open Go.RowKit
variable {n:Nat}
def UR(b a n:Nat):List UInt8:=[80,77,105,49]++IA 8 b++IA 4 a++IA 4 n
def zvd(f:Nat)(p:Ai):List UInt8:=IA 8 p.at0++IA 2 p.room++IA 8 f++IA 4 p.t.length++IA 4 (BG p.t)
def zm2:Nat->List Ai->List UInt8
 |_,[]=>[]
 |f,p::ps=>zvd f p++zm2 (f+p.t.length) ps
def Qq(c b:Nat)(a:List Ai):List UInt8:=UR c b a.length++zm2 0 a
theorem zuN:∀(a:List Ai)(f:Nat)(p:Ai),zm2 f (a++[p])=zm2 f a++zvd (f+(Bi a).length) p
 | [],f,p=>by simp[zm2,Bi]
 | q::a,f,p=>by
   rw[Di,zm2,zuN a,zm2,BN];congr 3
   simp[Bi];omega
theorem XF(f:Nat)(p:Ai):(zvd f p).length=26:=by simp[zvd,IV]
theorem OE:∀(a:List Ai)(f:Nat),(zm2 f a).length=26*a.length
 | [],f=>rfl
 |p::a,f=>by rw[zm2,AJ,OE a,XF,Bt];omega
theorem ztw(a b c:Nat):(UR a b c).length=20:=by simp[UR,IV]
theorem ztS(a b:Nat)(c:List Ai):(Qq a b c).length=20+26*c.length:=by rw[Qq,AJ,ztw,OE]
theorem zBF(w:World)(a n c m v:Nat)(q:Option Addr)(g:List UInt8)(r:BRow a w (.slice q n c) n g)(l:a<=w.heap.size)(o:n+8=m)(p:n<=100000000)(s:v<9223372036854775808) :
 Qk 42 #[.slice q n c,Qi (v:Nat),Qi 8] w λe f=>∃d b,e=.returned (.slice d m b)/\f.ownsRow a 5 1 (.slice d m b) m (byteCells (g++IA 8 v))/\Below a w f/\KeptU w f:=by
 subst o;refine(FI w a n c 8 v q g r l p Q5 s).mono ?_
 rintro e f ⟨d,b,h,-,i,j,k⟩;exact⟨d,b,h,i Q5,j,k⟩
theorem zBR(w:World)(a n c m v:Nat)(q:Option Addr)(g:List UInt8)(r:BRow a w (.slice q n c) n g)(l:a<=w.heap.size)(o:n+4=m)(p:n<=100000000)(s:v<9223372036854775808) :
 Qk 42 #[.slice q n c,Qi (v:Nat),Qi 4] w λe f=>∃d b,e=.returned (.slice d m b)/\f.ownsRow a 5 1 (.slice d m b) m (byteCells (g++IA 4 v))/\Below a w f/\KeptU w f:=by
 subst o;refine(FI w a n c 4 v q g r l p Q5 s).mono ?_
 rintro e f ⟨d,b,h,-,i,j,k⟩;exact⟨d,b,h,i Q5,j,k⟩
theorem zBX(w:World)(a n c m v:Nat)(q:Option Addr)(g:List UInt8)(r:BRow a w (.slice q n c) n g)(l:a<=w.heap.size)(o:n+2=m)(p:n<=100000000)(s:v<9223372036854775808) :
 Qk 42 #[.slice q n c,Qi (v:Nat),Qi 2] w λe f=>∃d b,e=.returned (.slice d m b)/\f.ownsRow a 5 1 (.slice d m b) m (byteCells (g++IA 2 v))/\Below a w f/\KeptU w f:=by
 subst o;refine(FI w a n c 2 v q g r l p Q5 s).mono ?_
 rintro e f ⟨d,b,h,-,i,j,k⟩;exact⟨d,b,h,i Q5,j,k⟩
theorem zB1(w:World)(a n c m v:Nat)(q:Option Addr)(g:List UInt8)(r:BRow a w (.slice q n c) n g)(l:a<=w.heap.size)(o:n+4=m)(p:n<=100000000)(s:v<4294967296) :
 Qk 43 #[.slice q n c,.int .u32 (v:Nat),Qi 4] w λe f=>∃d b,e=.returned (.slice d m b)/\f.ownsRow a 5 1 (.slice d m b) m (byteCells (g++IA 4 v))/\Below a w f/\KeptU w f:=by
 subst o;refine(zry w a n c 4 v q g r l p Q5 s).mono ?_
 rintro e f ⟨d,b,h,-,i,j,k⟩;exact⟨d,b,h,i Q5,j,k⟩
theorem zBx(f:Nat)(p:Ai)(X:List UInt8):X++zvd f p=((((X++IA 8 p.at0)++IA 2 p.room)++IA 8 f)++IA 4 p.t.length)++IA 4 (BG p.t):=by simp[zvd]
theorem zBs(a b c:Nat):((([80,77,105,49]:List UInt8)++IA 8 a)++IA 4 b)++IA 4 c=UR a b c:=by simp[UR]
theorem zvW(w:World)(a:ByteArray)(b3:Value)(o:List Ai)(G:Au w b3 o)(U:Bz o)(ha:a.size<=1000000) :
 Qk 11 #[.string a,b3] w λe e6=>e=.returned (.tuple #[.string ⟨(Qq a.size (BG a.data.toList) o).toArray⟩,Qi 0])/\Qb w e6:=by
 obtain⟨lq,lc,rfl⟩:=G.shape;obtain⟨N,a7⟩:=Qe o.length;obtain⟨s,hs⟩:=Qe (BG a.data.toList);have g2:s<4294967296:=by rw[<-hs];exact Qu _
 have Q:=Aa (ZU w _ o G U);have a4:=Aa (λe0=>UL a Q0 e0)
 have f7:=U.few;rw[hs] at a4 |-;rw[a7] at Q f7 G |-;have e4:=Aa G;have b4:=Aa U;have a5:=Aa a7;obtain⟨z,hz⟩:=Qe w.heap.size;rw[hz] at Q |-;have q:=Aa hz;clear G U hs a7 hz
 go_enter Tryz.func11,Tryz.ntmps11
 go_wp2_with fail
 refine Q.mono ?_;rintro e r ⟨rfl,b⟩;have J:z<=r.heap.size:=by rw[<-q.out];exact b.size
 obtain⟨g,W⟩:=Qe r.heap.size;have hx:=Am r (.cells #[.int .u8 80,.int .u8 77,.int .u8 105,.int .u8 49] 5 (4,5)) g W.symm;have D:Hid (Below z w (r.alloc (.cells #[.int .u8 80,.int .u8 77,.int .u8 105,.int .u8 49] 5 (4,5)))):=b.alloc J _;have u:Hid (BRow z (r.alloc (.cells #[.int .u8 80,.int .u8 77,.int .u8 105,.int .u8 49] 5 (4,5))) (Qs g 0 4 4) 4 [80,77,105,49]):=.inr ⟨g,_,_,rfl,hx,rfl,rfl⟩
 have d9:Hid (z<=(r.alloc (.cells #[.int .u8 80,.int .u8 77,.int .u8 105,.int .u8 49] 5 (4,5))).heap.size):=by
  show z<=_
  simp;omega
 have c9:(convert 89 89 (Qs g 0 4 4)).run Tryz.prog (r.alloc (.cells #[.int .u8 80,.int .u8 77,.int .u8 105,.int .u8 49] 5))= .ok (Qs g 0 4 4) (r.alloc (.cells #[.int .u8 80,.int .u8 77,.int .u8 105,.int .u8 49] 5 (4,5))):=Joins.run_convert_bytes_const_at (P:=Tryz.prog) r 89 5 _ 4 4 g W.symm Lt Tryz.underlying5;clear hx b J Q
 go_wp2_with fail
 clear W c9;generalize r.alloc (.cells #[.int .u8 80,.int .u8 77,.int .u8 105,.int .u8 49] 5 (4,5))=R at*
 have h:=Aa (zBF R z 4 4 12 a.size _ _ u d9 rfl Q5 Q0)
 clear u d9;refine h.mono ?_;rintro e S ⟨q3,c3,rfl,d,b,j⟩;have H:=Aa d;have v:=Aa (D.trans b);clear d b j h D
 go_wp2_with fail
 refine(a4 _).mono ?_;rintro e E ⟨rfl,b⟩;have K:z<=S.heap.size:=by rw[<-q.out];exact v.size
 have I:=Aa (Cd H b);have x:=Aa (v.trans (b.mono K));have M:z<=E.heap.size:=by rw[<-q.out];exact x.size
 have h:=Aa (zB1 E z 12 c3 16 s _ _ (.inl I) M rfl Q5 g2)
 clear b K H v a4 I M
 go_wp2_with fail
 refine h.mono ?_;rintro e F ⟨q5,c5,rfl,d,b,j⟩;have y:=Aa (x.trans b);have O:z<=F.heap.size:=by rw[<-q.out];exact y.size
 have b7:=Aa (zBR F z 16 c5 20 N _ _ (.inl d) O rfl Q5 Q0)
 clear d b j h x O
 go_wp2_with fail
 refine b7.mono ?_;rintro e e5 ⟨q6,c6,rfl,d,b,j⟩;have a0:=Aa (y.trans b);rw[zBs] at d;have a1:=Aa d;clear d b j b7 y
 go_wp2_with fail
 go_loopw [27,6] (λkv bv wr=>∃k:Nat,k<=N/\kv=Qi (k:Nat)/\∃a3 n c,bv=.slice a3 n c/\n<=10000000/\Hid (n=20+26*k)/\Hid (wr.ownsRow z 5 1 bv n (byteCells (UR a.size s N++zm2 0 (o.take k))))/\Hid (Below z w wr)) (λkv _ _=>N+1-(intOf kv).toNat)
 case atStart=>exact⟨0,Q0,rfl,q6,20,c6,rfl,Q5,Aa rfl,by show World.ownsRow _ _ _ _ _ _ _;simpa [zm2] using a1.out,a0⟩
 case round =>
  clear a0 a1;obtain⟨k,hk,rfl,a3,n,c,rfl,f9,a9,u,A⟩:=hrel
  by_cases f8:k<N
  ·have hd:decide ((k:Int)<(N:Int))=true:=Bl Q0
   have d7:Au wr (.slice lq N lc) o:=by
    have T:=Rd.below e4 A (by rw[q.out];exact Af _)
    exact Rd.mono T A.size
   obtain⟨g,g3,p,hq,W,hp,c0,c1,c2,c8,c4⟩:=NB d7 a5 k f8;subst hq;obtain⟨f5,f6,f4,g5,-,-,g6⟩:=b4.part k p hp;obtain⟨f,V⟩:=Qe (BZ o k);have d0:f<=100000:=by rw[<-V];exact BU (OV o k) b4.len
   obtain⟨L,a6⟩:=Qe p.t.length;obtain⟨C,a2⟩:=Qe (BG p.t);have h9:C<4294967296:=by rw[<-a2];exact Qu _
   rw[V] at c2;rw[a6] at c8 f6;rw[a2] at c4;have g8:(k:Int)<(N:Int):=Q0
   have g7:(0:Int)<=(k:Int):=Q0
   have e3:=Aa hp;have e1:=Aa V;have e2:=Aa a6;have e7:=Aa a2;have g1:z<=wr.heap.size:=by rw[<-q.out];exact A.size
   clear hp V a6 a2 d7 f5 f4
   go_upto_region 9 with(fail)
   obtain⟨B,b1⟩:=Qe wr.heap.size;have m:=Am wr (.cells #[Qi (p.at0:Nat),Qi (p.room:Nat),Qi (f:Nat),Qi (L:Nat),.int .u32 (C:Nat)] 56) B b1.symm;have i:=Aa m;have a8:Hid (Below z w (wr.alloc (.cells #[Qi (p.at0:Nat),Qi (p.room:Nat),Qi (f:Nat),Qi (L:Nat),.int .u32 (C:Nat)] 56))):=A.alloc g1 _;have b8:=Aa (Cd u (Ay (Ag wr.heap.size wr) (.cells #[Qi (p.at0:Nat),Qi (p.room:Nat),Qi (f:Nat),Qi (L:Nat),.int .u32 (C:Nat)] 56)));rw[b1];clear m b1 c0 c1 c2 c8 c4 u A;generalize wr.alloc (.cells #[Qi (p.at0:Nat),Qi (p.room:Nat),Qi (f:Nat),Qi (L:Nat),.int .u32 (C:Nat)] 56)=b5 at*
   have g4:=Aa f9;obtain⟨X,l⟩:=Qe (n+8);have J:z<=b5.heap.size:=by rw[<-q.out];exact a8.size
   have h:=Aa (zBF b5 z n c X p.at0 _ _ (.inl b8) J l Q0 Q0)
   have t:=BH i;have e8:=Aa l;have g9:X<=10000010:=Q0
   clear l J b8
   go_wp2_with fail
   refine h.mono ?_;rintro e R ⟨q1,d1,rfl,d,b,j⟩;have m:=j B _ _ Q5 i
   have D:=Aa (a8.trans b);have b9:=Aa d;clear d b j h t i a8;have i:=Aa m;clear m;obtain⟨Y,l⟩:=Qe (X+2);have d8:z<=R.heap.size:=by rw[<-q.out];exact D.size
   have h:=Aa (zBX R z X d1 Y p.room _ _ (.inl b9) d8 l Q0 Q0)
   have t:=BX i;have e9:=Aa l;have h1:Y<=10000020:=Q0
   clear l d8 b9
   go_wp2_with fail
   refine h.mono ?_;rintro e S ⟨q2,d2,rfl,d,b,j⟩;have m:=j B _ _ Q5 i
   have v:=Aa (D.trans b);have H:=Aa d;clear d b j h t i D;have i:=Aa m;clear m;obtain⟨Z,l⟩:=Qe (Y+8);have K:z<=S.heap.size:=by rw[<-q.out];exact v.size
   have h:=Aa (zBF S z Y d2 Z f _ _ (.inl H) K l Q0 Q0)
   have t:=Dr i;have f0:=Aa l;have h6:Z<=10000030:=Q0
   clear l K H
   go_wp2_with fail
   refine h.mono ?_;rintro e E ⟨q3,d3,rfl,d,b,j⟩;have m:=j B _ _ Q5 i
   have x:=Aa (v.trans b);have I:=Aa d;clear d b j h t i v;have i:=Aa m;clear m;obtain⟨n4,l⟩:=Qe (Z+4);have M:z<=E.heap.size:=by rw[<-q.out];exact x.size
   have h:=Aa (zBR E z Z d3 n4 L _ _ (.inl I) M l Q0 Q0)
   have t:=D7 i;have f1:=Aa l;have h7:n4<=10000040:=Q0
   clear l M I
   go_wp2_with fail
   refine h.mono ?_;rintro e F ⟨q4,d4,rfl,d,b,j⟩;have m:=j B _ _ Q5 i
   have y:=Aa (x.trans b);have c7:=Aa d;clear d b j h t i x;have i:=Aa m;clear m;obtain⟨n5,l⟩:=Qe (n4+4);have O:z<=F.heap.size:=by rw[<-q.out];exact y.size
   have h:=Aa (zB1 F z n4 d4 n5 C _ _ (.inl c7) O l Q0 Q0)
   have t:=DK i;have f2:=Aa l;have h8:n5<=10000050:=Q0
   clear l O c7
   go_wp2_with fail
   refine h.mono ?_;rintro e e5 ⟨q5,d5,rfl,d,b,j⟩;have m:=j B _ _ Q5 i
   have a0:=Aa (y.trans b);have a1:=Aa d;clear d b j h t i y;have i:=Aa m;clear m
   go_wp2_with fail
   go_roundw
   case rel =>
    have hn:n5=20+26*(k+1):=by
     have h0:=a9.out;have T:=e8.out;have h2:=e9.out;have h3:=f0.out;have h4:=f1.out;have h5:=f2.out;omega
    refine⟨k+1,Q0,by go_num,q5,n5,d5,rfl,Q0,Aa hn,?_,a0⟩
    show World.ownsRow _ _ _ _ _ _ _
    have T:=a1.out;rw[RG e3.out,zuN,DC];have d0:(Bi (o.take k)).length=f:=e1.out;rw[d0,<-BN,zBx,e2.out,e7.out];exact T
   case measure=>simp[intOf];omega
  ·obtain rfl:k=N:=Q0
   have d6:o.take k=o:=BR (by rw[a5.out];exact Af _)
   have d:=u.out;rw[d6] at d;have g0:=a9.out;have b0:UR a.size s k++zm2 0 o=Qq a.size s o:=by rw[Qq,a5.out]
   obtain⟨b2,b6⟩:=Qe (UR a.size s k++zm2 0 o);rw[b6] at d b0;have c9:(convert 89 9 (.slice a3 n c)).run Tryz.prog wr=.ok (.string ⟨b2.toArray⟩) wr:=M8 b2 d;have f3:=Aa b0;clear d6 d u g0 a9 b6 b0
   go_wp2_with fail
   go_ret2
   exact⟨by rw[f3.out];rfl,A⟩
theorem rn8(w:World)(b v:Nat)(T:ByteArray)(X:List UInt8)(j:Qg w b #[.string T,.bool false] 178)(a:T.data.toList=IA 8 v++X)(l:v<256 ^ 8)(m:v<9223372036854775808)(k:T.size<=1000000000) :
 Qk 103 #[Qp b 0,Qi 8] w λe c=>e=.returned (Qi (v:Nat))/\∃d:ByteArray,d.data.toList=X/\Qg c b #[.string d,.bool false] 178/\Ab b w c:=by
 have n:T.size=8+X.length:=by
  have h:=Co List.length a;rw[AJ,IV] at h;simpa using h
 refine(Zy w b T 8 v j Q5 Q0 k (by rw[a,MP,Gy _ _ l]) m).mono ?_
 rintro e c ⟨f,g,i⟩;refine⟨f,_,?_,g,i⟩;rw[Vt,Array.toList_extract,Vo,a,Z7];exact BR Q0
theorem rn4(w:World)(b v:Nat)(T:ByteArray)(X:List UInt8)(j:Qg w b #[.string T,.bool false] 178)(a:T.data.toList=IA 4 v++X)(l:v<256 ^ 4)(m:v<9223372036854775808)(k:T.size<=1000000000) :
 Qk 103 #[Qp b 0,Qi 4] w λe c=>e=.returned (Qi (v:Nat))/\∃d:ByteArray,d.data.toList=X/\Qg c b #[.string d,.bool false] 178/\Ab b w c:=by
 have n:T.size=4+X.length:=by
  have h:=Co List.length a;rw[AJ,IV] at h;simpa using h
 refine(Zy w b T 4 v j Q5 Q0 k (by rw[a,MP,Gy _ _ l]) m).mono ?_
 rintro e c ⟨f,g,i⟩;refine⟨f,_,?_,g,i⟩;rw[Vt,Array.toList_extract,Vo,a,Z7];exact BR Q0
theorem rn2(w:World)(b v:Nat)(T:ByteArray)(X:List UInt8)(j:Qg w b #[.string T,.bool false] 178)(a:T.data.toList=IA 2 v++X)(l:v<256 ^ 2)(m:v<9223372036854775808)(k:T.size<=1000000000) :
 Qk 103 #[Qp b 0,Qi 2] w λe c=>e=.returned (Qi (v:Nat))/\∃d:ByteArray,d.data.toList=X/\Qg c b #[.string d,.bool false] 178/\Ab b w c:=by
 have n:T.size=2+X.length:=by
  have h:=Co List.length a;rw[AJ,IV] at h;simpa using h
 refine(Zy w b T 2 v j Q5 Q0 k (by rw[a,MP,Gy _ _ l]) m).mono ?_
 rintro e c ⟨f,g,i⟩;refine⟨f,_,?_,g,i⟩;rw[Vt,Array.toList_extract,Vo,a,Z7];exact BR Q0
theorem zuM{b:Func}{t u v x:Tmp}(h:b.results=#[.tmp t,.tmp u,.tmp v,.tmp x])(a:Array Value)(P:Program)(w:World) :
 (results b a).run P w=.ok (.tuple #[a.getD t undef,a.getD u undef,a.getD v undef,a.getD x undef]) w:=by
 simp[results,h]
theorem Js{w v:World}{m k:Nat}{x:Value}{s:List Value}{h:Array Value}(b:w.ownsRow n 56 5 x m s)(l:Qg w k h 178)(j:Ab k w v):v.ownsRow n 56 5 x m s:=by
 refine⟨b.1,?_⟩;rcases b.2 with i|⟨g,o,p,c,d,a,f⟩
 ·exact .inl i
 ·refine .inr ⟨g,o,p,c,d,(j.block g (Aj a) (λe=>?_)).trans a,f⟩
  subst e;rw[l] at a;injection a with a
  injection a with _ a
  exact absurd a Q5
theorem zBH{a:List Ai}{b:Ai}(h:a[n]?=some b):zm2 (BZ a n) (a.drop n)=IA 8 b.at0++(IA 2 b.room++(IA 8 (BZ a n)++(IA 4 b.t.length++(IA 4 (BG b.t)++zm2 (BZ a (n+1)) (a.drop (n+1)))))):=by
 obtain⟨d,c⟩:=Cc.1 h;rw[IJ d,c,zm2,RN h];simp[zvd]
theorem zBu(c b:Nat)(a:List Ai):Qq c b a=[80,77,105,49]++(IA 8 c++(IA 4 b++(IA 4 a.length++zm2 0 a))):=by simp[Qq,UR]
theorem zwI(w:World)(r n:Nat)(a:List Ai)(a7:Bz a)(hz:r<=1000000)(i7:n<4294967296)(S:ByteArray)(B:S.data.toList=Qq r n a) :
 Qk 44 #[.string S] w λe c0=>∃b7,e=.returned (.tuple #[b7,Qi (r:Nat),.int .u32 (n:Nat),.nilIface])/\c0.ownsRow w.heap.size 56 5 b7 a.length (DR 0 a)/\Qb w c0:=by
 obtain⟨N,v⟩:=Qe a.length;have g5:=a7.few
 have g6:S.size=20+26*N:=by
  have h:=Co List.length B;rw[ztS,v] at h;simpa using h
 rw[v] at g5 |-;rw[zBu,v] at B
 have i0:(S.extract 0 4)=⟨#[80,77,105,49]⟩:=by
  apply Ov
  apply Array.ext'
  rw[Vt,Array.toList_extract,Vo,B];rfl
 obtain⟨T,p⟩:=Qe (S.extract 4 S.size)
 have g:T.data.toList=IA 8 r++(IA 4 n++(IA 4 N++zm2 0 a)):=by
  rw[<-p,Vt,Array.toList_extract,Vo,B];have A:([80,77,105,49]++(IA 8 r++(IA 4 n++(IA 4 N++zm2 0 a)))).drop 4=IA 8 r++(IA 4 n++(IA 4 N++zm2 0 a)):=rfl;rw[A];refine BR ?_;simp only[AJ,IV,OE];omega
 obtain⟨z,e8⟩:=Qe w.heap.size;have l:=Aa e8;have a4:=Aa a7;have q:=Aa v
 have g7:T.size=16+26*N:=by
  have h:=Co List.length g;simp only[AJ,IV,OE,v] at h;have o:T.data.toList.length=T.size:=by simp
  omega
 have d1:decide ((S.size:Int)<20)=false:=AV Q0
 have j:=Am w (.cells #[.string T,.bool false] 178) z e8.symm;have D:=Aa (Ay (Ag w.heap.size w) (.cells #[.string T,.bool false] 178));have i:=Aa (rn8 _ z r T _ j g Q0 Q0 Q0)
 have h7:20<=S.size:=Q0
 have i1:S.size<=1000000000:=Q0
 clear a7 v B j g g7 g6
 go_enter Tryz.func44,Tryz.ntmps44
 go_wp2_with fail
 clear p;refine i.mono ?_;rintro e w2 ⟨rfl,K,b3,e6,d6⟩;have E:=Aa (d6.bel D Q0 Q0)
 have g9:K.size=8+26*N:=by
  have h:=Co List.length b3;simp only[AJ,IV,OE,q.out] at h;have o:K.data.toList.length=K.size:=by simp
  omega
 have c1:=Aa (rn4 _ z n K _ e6 b3 Q0 Q0 Q0)
 have h5:IntKind.u32.wrap (n:Int)=(n:Int):=by rw[IntKind.wrap_u32];omega
 clear b3 e6 d6 g9 i D
 go_wp2_with fail
 refine c1.mono ?_;rintro e w3 ⟨rfl,L,b4,e7,d7⟩;have F:=Aa (d7.bel E Q0 Q0)
 have h0:L.size=4+26*N:=by
  have h:=Co List.length b4;simp only[AJ,IV,OE,q.out] at h;have o:L.data.toList.length=L.size:=by simp
  omega
 have c2:=Aa (rn4 _ z N L _ e7 b4 Q0 Q0 Q0)
 clear b4 e7 d7 h0 c1 E
 go_wp2_with fail
 refine c2.mono ?_;rintro e w4 ⟨rfl,t,b5,a0,d8⟩;have G:=Aa (d8.bel F Q0 Q0)
 have h1:t.size=26*N:=by
  have h:=Co List.length b5;simp only[OE,q.out] at h;have o:t.data.toList.length=t.size:=by simp
  omega
 have d2:decide ((t.size:Int)<26*(N:Int))=false:=AV Q0
 have d3:decide (26*(N:Int)<(t.size:Int))=false:=AV Q0
 have i6:IntKind.i64.wrap (26*(N:Int))=26*(N:Int):=AU _ Q0
 have r0:=BH a0;have r1:=BX a0;have x:=Aa a0;have d0:=Aa b5;clear b5 a0 d8 h1 c2 F
 go_wp2_with fail
 go_loopw [53,2] (λkv lv wr=>∃k:Nat,k<=N/\kv=Qi (k:Nat)/\∃a3 c,lv=.slice a3 k c/\Hid (wr.ownsRow z 56 5 lv k (DR 0 (a.take k)))/\(∃T:ByteArray,Hid (Qg wr z #[.string T,.bool false] 178)/\Hid (T.data.toList=zm2 (BZ a k) (a.drop k)))/\Hid (Below z w wr)) (λkv _ _=>N+1-(intOf kv).toNat)
 case atStart=>exact⟨0,Q0,rfl,none,0,rfl,Aa (GU _ _ _ _),⟨t,x,by show _=_;rw[d0.out,WJ,Ni]⟩,Aa (l ▸ G)⟩
 case round =>
  clear x d0 G r0 r1;obtain⟨k,hk,rfl,a3,c,rfl,I,⟨J,a5,b9⟩,s⟩:=hrel
  by_cases g8:k<N
  ·have hd:decide ((k:Int)<(N:Int))=true:=Bl Q0
   obtain⟨m,R⟩:∃m,a[k]?=some m:=⟨_,Az (by rw[q.out];exact g8)⟩
   obtain⟨g3,g4,g2,h8,-,-,i2⟩:=a4.part k m R;have p:=b9.out;rw[zBH R] at p;obtain⟨f0,O⟩:=Qe (zm2 (BZ a (k+1)) (a.drop (k+1)))
   have h9:f0.length<=2600000:=by
    rw[<-O,OE,D9,q.out];omega
   rw[O] at p;obtain⟨f,P⟩:=Qe (BZ a k);have i3:f<=100000:=by rw[<-P];exact BU (OV a k) a4.len
   obtain⟨a2,M⟩:=Qe m.t.length;obtain⟨u,Z⟩:=Qe (BG m.t);have i8:u<4294967296:=by rw[<-Z];exact Qu _
   rw[P,M,Z] at p;rw[M] at g4;have f4:=Aa R;have f2:=Aa P;have f3:=Aa M;have f8:=Aa Z;have f5:=Aa O;have i4:z<=wr.heap.size:=by rw[<-l.out];exact s.size
   have c5:=I;have D:=s;have b:=Aa p;have a9:=a5;clear R P M Z O p b9 I s a5 g3 g2
   have e0:J.size<=1000000000:=by
    have h:=Co List.length b;simp only[AJ,IV] at h;have o:J.data.toList.length=J.size:=by simp
    omega
   have i:=Aa (rn8 wr z m.at0 J _ a9 b Q0 Q0 e0)
   clear e0 b
   go_wp2_with fail
   refine i.mono ?_;rintro e v2 ⟨rfl,U,g,j,d⟩;have b:=Aa g;have H:=Aa (Js c5 a9 d);have b0:=Aa j;have E:Hid (Below z w v2):=d.bel D (Af _) (by rw[l.out];exact Af _)
   clear g j d i c5 a9 D
   have e1:U.size<=1000000000:=by
    have h:=Co List.length b;simp only[AJ,IV] at h;have o:U.data.toList.length=U.size:=by simp
    omega
   have i:=Aa (rn2 v2 z m.room U _ b0 b Q0 Q0 e1)
   clear e1 b
   go_wp2_with fail
   refine i.mono ?_;rintro e v3 ⟨rfl,V,g,j,d⟩;have b:=Aa g;have c6:=Aa (Js H b0 d);have b1:=Aa j;have F:Hid (Below z w v3):=d.bel E (Af _) (by rw[l.out];exact Af _)
   clear g j d i H b0 E
   have e2:V.size<=1000000000:=by
    have h:=Co List.length b;simp only[AJ,IV] at h;have o:V.data.toList.length=V.size:=by simp
    omega
   have i:=Aa (rn8 v3 z f V _ b1 b Q0 Q0 e2)
   clear e2 b
   go_wp2_with fail
   refine i.mono ?_;rintro e v4 ⟨rfl,W,g,j,d⟩;have b:=Aa g;have c8:=Aa (Js c6 b1 d);have x:=Aa j;have G:Hid (Below z w v4):=d.bel F (Af _) (by rw[l.out];exact Af _)
   clear g j d i c6 b1 F
   have e3:W.size<=1000000000:=by
    have h:=Co List.length b;simp only[AJ,IV] at h;have o:W.data.toList.length=W.size:=by simp
    omega
   have i:=Aa (rn4 v4 z a2 W _ x b Q0 Q0 e3)
   clear e3 b
   go_wp2_with fail
   refine i.mono ?_;rintro e v5 ⟨rfl,X,g,j,d⟩;have b:=Aa g;have c9:=Aa (Js c8 x d);have b2:=Aa j;have c3:Hid (Below z w v5):=d.bel G (Af _) (by rw[l.out];exact Af _)
   clear g j d i c8 x G
   have e4:X.size<=1000000000:=by
    have h:=Co List.length b;simp only[AJ,IV] at h;have o:X.data.toList.length=X.size:=by simp
    omega
   have i:=Aa (rn4 v5 z u X _ b2 b Q0 Q0 e4)
   clear e4 b
   go_wp2_with fail
   refine i.mono ?_;rintro e C ⟨rfl,d5,g,j,d⟩;have b:=Aa g;have a8:=Aa (Js c9 b2 d);have d4:=Aa j;have c4:Hid (Below z w C):=d.bel c3 (Af _) (by rw[l.out];exact Af _)
   clear g j d i c9 b2 c3;have h6:IntKind.u32.wrap (u:Int)=(u:Int):=by rw[IntKind.wrap_u32];omega
   have i5:z<=C.heap.size:=by rw[<-l.out];exact c4.size
   obtain⟨f1,hy⟩:=Qe C.heap.size
   go_wp2_with
    (at_builtin
     refine JC EG Q7 _ _ Q7 z _ k (DR 0 (a.take k)) Q7 (a8.alloc _) (f1+1) 1 _ [Qi (m.at0:Nat),Qi (m.room:Nat),Qi (f:Nat),Qi (a2:Nat),.int .u32 (u:Nat)] Q7 (Rd.mono (GX (Am _ _ _ hy.symm) rfl Q7 (by simp[maxLen])) (by simp[hy])) (by intro c hc;simp at hc;rcases hc with rfl|rfl|rfl|rfl|rfl<;>rfl) Q0 Q0 Q4 ?_
     intro q7 c7 v7 e9 b6 h2;have Y:=Ay (Ag C.heap.size C) (.cells #[Qi (m.at0:Nat),Qi (m.room:Nat),Qi (f:Nat),Qi (a2:Nat),.int .u32 (u:Nat)] 56);have d9:=Cd a8 Y;have a1:=(Y.block z (Aj d4)).trans d4
     have g1:Hid (Qg v7 z #[.string d5,.bool false] 178):=(b6.block z (Aj a1) (λe=>by
      obtain⟨cu,y⟩:=Gr d9 e.symm;rw[a1] at y;injection y with y
      injection y with _ y
      exact absurd y Q5)).trans a1
     have f6:Hid (Below z w v7):=(c4.trans (Y.mono Q0)).grown b6 Q4 (λh4 e=>Dm a8 e)
     have f9:=Aa e9;clear e9 b6 h2 Y d9 a1)
   go_roundw
   case rel =>
    refine⟨k+1,Q0,by go_num,q7,c7,rfl,?_,⟨d5,g1,by show _=_;rw[b.out,f5.out]⟩,f6⟩
    show World.ownsRow _ _ _ _ _ _ _
    have A:=f9.out;have h3:(Bi (a.take k)).length=f:=f2.out;rw[RG f4.out,YF,DC,h3];simp only[MN,f3.out,f8.out];exact A
   case measure=>simp[intOf];omega
  ·obtain rfl:k=N:=Q0
   have hd:decide ((k:Int)<(k:Int))=false:=AV Q0
   have e5:a.take k=a:=BR (by rw[q.out];exact Af _)
   have Q:=I.out;rw[e5] at Q;have H:=Aa Q
   have hv:Au wr (.slice a3 k c) a:=by
    have A:=Rd.own Q
    show Rd _ _ _ _ _ _
    rw[q.out];exact A
   have b8:=Aa (ZU wr _ a hv a4);have r1:=BX a5;clear e5 Q I hv
   go_wp2_with fail
   refine b8.mono ?_;rintro e w9 ⟨rfl,a6⟩;have g0:=Aa (Cd H a6);have f7:Hid (Qb w w9):=l.out ▸ (s.trans (a6.mono (by rw[<-l.out];exact s.size)))
   clear a6 b8 H s
   go_wp2_with fail
   (try simp only[Exit.inBlock,Exit.then]);refine BV (zuM rfl _ _ _) rfl ?_
   exact⟨_,rfl,l ▸ g0,f7⟩
theorem V3(w:World)(u v:Option Addr)(N h i:Nat)(c:List Ai)(r:c.length=N)(a1:N<=100000)(j:Au w (.slice u N h) c)(l:Au w (.slice v N i) c) :
 Qk 46 #[.slice u N h,.slice v N i] w λe U=>e=.returned (.bool true)/\Qb w U:=by
 have z:=Aa j;have B:=Aa l;have f:=Aa r;clear j l r
 go_enter Tryz.func46,Tryz.ntmps46
 go_wp2_with fail
 go_loopw [13] (λd wr=>∃k:Nat,k<=N/\d=Qi (k:Nat)/\Hid (Qb w wr)) (λd _=>N+1-(intOf d).toNat)
 case atStart=>exact⟨0,Q0,rfl,Aa (Ag _ _)⟩
 case round =>
  obtain⟨k,hk,rfl,b⟩:=hrel
  by_cases x:k<N
  ·have Z:decide ((k:Int)<(N:Int))=true:=Bl Q0
   obtain⟨g,o,T,S,Q,t,D,E,G,H,I⟩:=NB (z.up b) f k x;obtain⟨Y,a0,a,X,W,y,J,K,M,O,P⟩:=NB (B.up b) f k x;obtain rfl:a=T:=JN (y.symm.trans t);subst S X;obtain⟨A,m⟩:=Qe a.at0;obtain⟨R,s⟩:=Qe a.room;obtain⟨F,p⟩:=Qe (BZ c k);obtain⟨L,q⟩:=Qe a.t.length;obtain⟨C,n⟩:=Qe (BG a.t);rw[m] at D J;rw[s] at E K;rw[p] at G M;rw[q] at H O;rw[n] at I P;have a3:(k:Int)<(N:Int):=Q0
   have a2:(0:Int)<=(k:Int):=Q0
   clear m s p q n t y Q W
   go_wp2_with fail
   go_quiet (fail)
   have V:Hid (Qb w (wr.drewN nq)):=EW b nq
   go_wp2_with fail
   go_roundw
   case rel=>exact⟨k+1,Q0,by go_num,V⟩
   case measure=>simp[intOf];omega
  ·obtain rfl:k=N:=Q0
   go_wp2_with fail
   go_ret
   exact⟨rfl,b⟩
theorem zxg(w:World)(a S:ByteArray)(d g:Nat)(f:List Ai)(k:Bz f)(n:d<=1000000)(o:g<4294967296)(l:S.data.toList=Qq d g f)(s:d≠a.size) :
 Qk 12 #[.string a,.string S] w λe p=>e=.returned (.tuple #[.slice none 0 0,Qi 7])/\Qb w p:=by
 have i:=Aa (zwI w d g f k n o S l);have h:=Aa zBn
 have t:((d:Int) !=(a.size:Int))=true:=by
  rw[SY];omega
 clear k n l s o
 go_enter Tryz.func12,Tryz.ntmps12
 go_wp2_with fail
 refine i.mono ?_;rintro e u ⟨v,rfl,m,b⟩;obtain⟨q,c,rfl⟩:=EN m;have j:=Aa b;clear m b i
 go_wp2_with fail
 refine(h _ _).mono ?_;rintro e x ⟨rfl,b⟩;have r:=Aa (A9 b j);clear b j h
 go_wp2_with fail
 go_ret2
 exact⟨rfl,r⟩
theorem zBI(w:World)(a S:ByteArray)(L:List Av)(d:Cu a L)(B:Ig L=true)(o:Bz (Cl L))(A:S.data.toList=Qq a.size (BG a.data.toList) (Cl L)) :
 Qk 12 #[.string a,.string S] w λe D=>∃v,e=.returned (.tuple #[v,Qi 0])/\D.ownsRow w.heap.size 56 5 v (Cl L).length (DR 0 (Cl L))/\Qb w D:=by
 have T:=d.size;obtain⟨c,p⟩:=Qe (BG a.data.toList);have U:c<4294967296:=by rw[<-p];exact Qu _
 have j:=Aa (zwI w a.size c (Cl L) o T U S (by rw[A,p]))
 have s:=Aa (λW=>UL a Q0 W)
 have g:=Aa (λW=>zxK a W d.size L d.ne d.at0 d.few d.evsL d.resL (λk=>BU (d.txL k) Q0))
 have z:GG L=0:=by rw[GG,if_pos B]
 rw[z] at g;rw[p] at s;obtain⟨q,M⟩:=Qe (Cl L);rw[M] at j g o |-;obtain⟨N,i⟩:=Qe q.length;have CQ:=Aa (λ(W:World) r P l O m n=>V3 W r P N l O q i (by rw[<-i];exact o.few) m n)
 rw[i] at j g |-;have x:=Aa i;clear d B o A z p M i
 go_enter Tryz.func12,Tryz.ntmps12
 go_wp2_with fail
 refine j.mono ?_;rintro e V ⟨v,rfl,f,b⟩;obtain⟨r,l,rfl⟩:=EN f;have I:=Aa f;have G:=Aa b;clear f b j
 go_wp2_with fail
 refine(s _).mono ?_;rintro e X ⟨rfl,b⟩;have J:=Aa (Cd I b);have u:=Aa (A9 b G);clear b I G s
 go_wp2_with fail
 refine(g _).mono ?_;rintro e t ⟨v,rfl,f,b⟩;obtain⟨C,y,rfl⟩:=EN f;have K:=Aa (Cd J b);have H:=Aa (A9 b u);have F:=Aa (EY f u.size)
 have m:Au t (.slice C N y) q:=by
  have h:=Rd.own f
  show Rd _ _ _ _ _ _
  rw[x.out];exact h
 have n:Au t (.slice r N l) q:=by
  have h:=Rd.own K
  show Rd _ _ _ _ _ _
  rw[x.out];exact h
 have E:=Aa (CQ t C r y l m n);clear f b J u g m n CQ K
 go_wp2_with fail
 refine E.mono ?_;rintro e Y ⟨rfl,b⟩;have Q:=Aa (Cd F b);have R:=Aa (A9 b H);clear b F H E
 go_wp2_with fail
 go_ret2
 exact⟨_,rfl,Q,R⟩
