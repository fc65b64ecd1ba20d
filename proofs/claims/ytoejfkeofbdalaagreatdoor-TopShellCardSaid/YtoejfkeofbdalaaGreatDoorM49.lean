import Derived.Test.YtoejfkeofbdalaaGreatDoorM45
import Derived.Test.YtoejfkeofbdalaaGreatDoorM48
import Derived.Test.YtoejfkeofbdalaaGreatDoorM02
import Derived.Lib.ItoaMem
import Derived.Lib.AppendIntMem
import Derived.Test.YtoejfkeofbdalaaGreatDoorTie
import Derived.Test.YtoejfkeofbdalaaGreatDoorCards
import Derived.LaidSub
import Derived.ProofKit
import Derived.OpenShut
import Derived.ShutString
import Derived.ChangeOld
import Derived.SevenTiedAt
set_option linter.all false
set_option maxRecDepth 100000
set_option maxHeartbeats 8000000
namespace Go.Proofs.YtoejfkeofbdalaaGreatDoor
open Go.RowKit Go.Shelf
theorem zpA(w:World)(k:Nat)(a:Array Obj):Qb w (Go.Sort.grow (w.drewN k) a):=by
 have h:=EW (Ag w.heap.size w) k;generalize w.drewN k=W at*
 refine h.trans ⟨rfl,rfl,rfl,?_,λj b=>?_⟩
 ·simp[Go.Sort.grow]
 ·have:=h.size
  simp only[Go.Sort.grow];exact Vm Q0
theorem zwI(n:Nat)(f:n<1000000000)(W:World)(d:Lib.TabIs Tryz.prog W "internal/strconv.uint64pow10" .u64 Lib.pow10Tab):Qk 197 #[Qi n] W λe c=>e=.returned (.string ⟨(Lib.decDigits n).toArray⟩)/\Qb W c :=
 (Tryz.strconv_Itoa n Q0 Q0 W d).mono λ_ _ h=>⟨h.1.trans (by rw[Lib.itoa_nonneg]),by obtain⟨k,b,a⟩:=h.2;rw[a];exact zpA W k b⟩
def UR(T:ByteArray)(m:List Ai)(M:Nat)(l:Nat)(W:World):Prop :=
 ∃j g b c i f a k h d e H,Qg W l #[.string T,.string ⟨#[]⟩,.string T,.slice j g b,Qi 2,Qi (c:Nat),.slice i f a,.slice k h d,Qi (e:Nat),.bool true] 145/\Ar W 0 (.slice j g b) 2 c (.slice i f a) (.slice k h d) e m H DD/\c<=M
theorem Ar.kept{n:Nat}{w v:World}{m:Nat}{x:Value}{k i:Nat}{y z:Value}{j:Nat}{l:List Ai}{H:List HE}{r:BF}{h:Array Value}(a:Ar w m x k i y z j l H r)(u:Qg w n h 134)(t:Lib.OthersKept 5 (some n) w v):Ar v m x k i y z j l H r:=by
 have c:∀{e p d:Nat} {f:Value} {o:List Value},e≠134->e≠5->w.ownsRow m e p f d o->v.ownsRow m e p f d o:=λq s a=>zqp a λg i b=>(t g _ b (λe=>by
  cases e
  rw[u] at b;injection b with b
  injection b with _ b
  exact q b.symm) (λi A e=>by
  injection e with _ e
  exact s e)).trans b.symm
 exact⟨c Q5 Q5 a.iv,a.ix,c Q5 Q5 a.hv,a.hR,a.hc,a.ok,a.held,c Q5 Q5 a.rv,a.rok,a.dec,a.low⟩
theorem zmE:Enters Tryz.prog 189:=enters_of Tryz.func189 Q2 rfl
theorem znL:Enters Tryz.prog 191:=enters_of Tryz.func191 Q2 rfl
def LV(a b c:Nat)(x:List UInt8):Array Value:=#[Qi (a:Nat),Qi (b:Nat),Qi (c:Nat),.string ⟨x.toArray⟩]
def zA6(a:Nat)(X:List UInt8):Nat->Array Value
 |0=>LV 0 0 0 []
 |1=>LV a 0 0 []
 |_=>LV a 0 0 X
def zA9:Nat->Array Value
 |0=>LV 0 0 0 []
 |1=>LV 2 0 0 []
 |_=>LV 2 1 0 []
def zAZ(o n:Nat):Nat->Array Value
 |0=>LV 0 0 0 []
 |1=>LV 0 0 0 []
 |2=>LV 0 o 0 []
 |_=>LV 0 o n []
theorem zuN(W:World)(m:Int)(B:Qc W 0 0 (Qi m))(c:Nat)(a:Nat)(l:1<=a)(z:a<=9)(X:List UInt8)(E:X.length<=200)(j:Qg W c Ck 145) :
 Qk 75 #[Qp c 0,.string ⟨(IA a X).toArray⟩] W λe f=>e=.returned (.string ⟨#[111,107,10]⟩)/\Qg f c (Ck.setIfInBounds 0 (.string (Ba (I8 a X)))) 145/\Ab c W f:=by
 obtain⟨C,A⟩:=zrC a X
 have G:(IA a X).length<=1000:=by
  have:=OE (show a<1000 by omega)
  simp only[IA,AJ];unfold Gy;split
  ·simp;omega
  ·rw[M9];simp;omega
 refine Sr false W m B c _ j ⟨(IA a X).toArray⟩ (by show 0<(IA a X).length;simp[IA]) (by show(((112:UInt8).toNat:Int)==35)=false;decide) (by show(IA a X).length<=_;omega) [⟨(Lib.decDigits a).toArray⟩,⟨(Gy X).toArray⟩] [112,97,99,107] C A [110,104] 181 (by simp[Gd]) (λh=>by cases h) rfl Q5
  (zA6 a X) rfl (λi s=>by rcases i with - | - |i<;>exact⟨_,_,_,_,rfl⟩) ?_ YR _ ?_
 ·intro i s b x r t g p _ _ o
  rcases i with - | - |i
  ·obtain rfl:(110:UInt8)=b:=by simpa using r
   obtain rfl:(⟨(Lib.decDigits a).toArray⟩:ByteArray)=x:=by simpa using t
   refine(Pc g p 0 a Q0 (λw _=>RV a Q0 w) _ _ _ _ o Q5).mono ?_
   rintro e f ⟨rfl,n,q⟩;exact⟨rfl,n,q⟩
  ·obtain rfl:(104:UInt8)=b:=by simpa using r
   obtain rfl:(⟨(Gy X).toArray⟩:ByteArray)=x:=by simpa using t
   by_cases k:X=[]
   ·subst k
    refine(zuA g p 1).mono ?_;rintro e f ⟨rfl,rfl⟩;exact⟨rfl,Ab.refl _ _,o⟩
   ·rw[show Gy X=Dy X by unfold Gy;rw[if_neg k]]
    refine(zyH g p 1 X k Q0 _ _ _ _ o).mono ?_
    rintro e f ⟨rfl,n,q⟩;exact⟨rfl,n,q⟩
  ·simp at s
   omega
 ·intro g d
  refine(zpW g c _ (show 0<Ck.size by decide) (Al d j) ⟨X.toArray⟩ (by show X.length<=_;omega) a l z _ _).mono ?_
  rintro e f ⟨rfl,D,u,v⟩;refine⟨⟨_,rfl⟩,Q2,?_,?_⟩
  ·have l:=Al u (Al d j)
   have y:=Ak l 0 (.string (Ba (I8 a X)));exact(v.block c (Aj (Al d j))).trans y
  ·have F:=Aj j
   exact((Ab.of (d.trans (u.mono d.size))).set 0 _).below_then (v.mono d.size)
theorem V3(k:Nat)(h:k<10):(⟨(Lib.decDigits k).toArray⟩:ByteArray)=⟨#[UInt8.ofNat (48+k)]⟩:=by rw[Lib.decDigits_one h]
theorem zu2(W:World)(m:Int)(y:Qc W 0 0 (Qi m))(a:Nat)(T:ByteArray)(L:List Av)(B:Cu T L)(w:Ig L=true)(C:Bz (Cl L))(M:Nat)(o:Qg W a (Ck.setIfInBounds 0 (.string T)) 145) :
 Qk 75 #[Qp a 0,.string ⟨Iu.toArray⟩] W λe d=>e=.returned (.string ⟨#[111,107,10]⟩)/\UR T (Cl L) M a d/\Ab a W d:=by
 refine Sr false W m y a _ o ⟨Iu.toArray⟩ Q5 Q5 Q5 [⟨#[50]⟩,⟨#[49]⟩] [111,112,101,110] (by decide+kernel) (by decide+kernel) [110,110] 189 (by simp[Gd]) (λh=>by cases h) rfl Q5
  zA9 rfl (λi q=>by rcases i with - | - |i<;>exact⟨_,_,_,_,rfl⟩) ?_ zmE _ ?_
 ·intro i q b x n s f p _ _ r
  rcases i with - | - |i
  ·obtain rfl:(110:UInt8)=b:=by simpa using n
   obtain rfl:(⟨#[50]⟩:ByteArray)=x:=by simpa using s
   have h:=Pc f p 0 2 Q5 (λg _=>RV 2 Q5 g) _ _ _ _ r Q5
   rw[V3 2 Q5] at h
   refine h.mono ?_;rintro e d ⟨rfl,c,k⟩;exact⟨rfl,c,k⟩
  ·obtain rfl:(110:UInt8)=b:=by simpa using n
   obtain rfl:(⟨#[49]⟩:ByteArray)=x:=by simpa using s
   have h:=Pc f p 1 1 Q5 (λg _=>RV 1 Q5 g) _ _ _ _ r Q5
   rw[V3 1 Q5] at h
   refine h.mono ?_;rintro e d ⟨rfl,c,k⟩;exact⟨rfl,c,k⟩
  ·simp at q
   omega
 ·intro f l
  refine(zuY f a T _ _ _ _ _ _ _ _ _ (Al l o) L B w C _ _).mono ?_;rintro e d ⟨rfl,c,D,E,v,j⟩;obtain⟨A,u,rfl,-,-⟩:=Rd.isSlice (Rd.own j.rv);obtain⟨z,t,rfl,-,-⟩:=Rd.isSlice (Rd.own j.iv);exact⟨⟨_,rfl⟩,Q2,⟨z,_,t,0,none,0,0,A,1,u,0,[],v,j.mono (BI _),BI _⟩,(Ab.of l).trans c⟩
theorem zyo(x:List UInt8)(k:Nat):JT [.str [114,101,112,108,121],.err k,.byt x]=[114,101,112,108,121,32]++Lib.decDigits k++[32]++Gy x++[10]:=by
 simp[JT,Lib.join,FR,Gy]
theorem ztw(W:World)(m:Int)(U:Qc W 0 0 (Qi m))(a2:Lib.TabIs Tryz.prog W "internal/strconv.uint64pow10" .u64 Lib.pow10Tab)(k:Nat)(T:ByteArray)(a:List Ai)(P:Gz T.data.toList a)(X:List UInt8)(Q:Bi a=X)(M:Nat)(a3:M+3*a.length<=1099511627776)(p:Int × Int)(S:UR T a M k W) :
 Qk 75 #[Qp k 0,.string ⟨(Js p).toArray⟩] W λe f=>e=.returned (.string ⟨(KU X p).toArray⟩)/\UR T a (M+3*a.length) k f/\Ab k W f:=by
 obtain⟨C,z,s,c,B,y,r,D,A,t,L,H,I,g,a4⟩:=S;obtain⟨Z,R⟩:=zrL p;have a6:Fb p<250:=F8 _ Q5
 have a5:FI p<100:=F8 _ Q5
 have a7:=Z7 p
 have a1:KU X p=JT [.str [114,101,112,108,121],.err (if(Bi a).length<Fb p+FI p then 8 else 0),.byt (IY (Bi a) (Fb p) (FI p))]:=by
  rw[zyo,Q];unfold KU;rw[zvE];split
  ·simp[show Lib.decDigits 8=[56] from Lib.decDigits_one Q5]
  ·simp[show Lib.decDigits 0=[48] from Lib.decDigits_one Q5]
 refine Sr true W m U k _ I ⟨(Js p).toArray⟩ (by show 0<(Js p).length;simp[Js]) (by show(((114:UInt8).toNat:Int)==35)=false;decide) (by show(Js p).length<=_;omega) [⟨#[48]⟩,⟨(Lib.decDigits (Fb p)).toArray⟩,⟨(Lib.decDigits (FI p)).toArray⟩] [114,101,97,100] Z R [110,110,110] 191 (by simp[Gd]) (λ_=>rfl) rfl Q5
  (zAZ (Fb p) (FI p)) rfl (λi G=>by rcases i with - | - | - |i<;>exact⟨_,_,_,_,rfl⟩) ?_ znL _ ?_
 ·intro i G b x u w j q l Y v
  have F:∀n,n<1000000000->∀d,Ab q j d->Qk 197 #[Qi (n:Nat)] d λe f=>e=.returned (.string ⟨(Lib.decDigits n).toArray⟩)/\Qb d f:=λn V d E=>zwI n V d (Lib.tabBelow_of_tabIs a2 d (E.bel l Y (Af _)));rcases i with - | - | - |i
  ·obtain rfl:(110:UInt8)=b:=by simpa using u
   obtain rfl:(⟨#[48]⟩:ByteArray)=x:=by simpa using w
   have h:=Pc j q 0 0 Q5 (λd _=>RV 0 Q5 d) _ _ _ _ v Q5
   rw[V3 0 Q5] at h
   refine h.mono ?_;rintro e f ⟨rfl,g,o⟩;exact⟨rfl,g,o⟩
  ·obtain rfl:(110:UInt8)=b:=by simpa using u
   obtain rfl:(⟨(Lib.decDigits (Fb p)).toArray⟩:ByteArray)=x:=by simpa using w
   refine(Pc j q 1 (Fb p) Q0 (F _ Q0) _ _ _ _ v Q5).mono ?_
   rintro e f ⟨rfl,g,o⟩;exact⟨rfl,g,o⟩
  ·obtain rfl:(110:UInt8)=b:=by simpa using u
   obtain rfl:(⟨(Lib.decDigits (FI p)).toArray⟩:ByteArray)=x:=by simpa using w
   refine(Pc j q 2 (FI p) Q0 (F _ Q0) _ _ _ _ v Q5).mono ?_
   rintro e f ⟨rfl,g,o⟩;exact⟨rfl,g,o⟩
  ·simp at G
   omega
 ·intro j l
  refine(zs8 j k 0 T _ C B D z s y r A t c L (Al l I) a H (g.up l) P (Fb p) (FI p) Q0 Q0 Q0 _).mono ?_
  rintro e f ⟨rfl,E,C,z,s,K,B,y,r,D,A,t,a0,J,N,O,h3⟩;exact⟨⟨_,rfl⟩,by rw[a1],⟨C,z,s,K,B,y,r,D,A,t,a0,J,N,O.mono (BI _),Q0⟩,(Ab.of l).trans E⟩
def zBn(T:ByteArray)(a:List Ai):Nat->Nat->World->Prop
 |0,db,W=>Qg W db Ck 145
 |1,db,W=>Qg W db (Ck.setIfInBounds 0 (.string T)) 145
 |i+2,db,W=>UR T a (3*a.length*i) db W
theorem ztS:∀(l:List (List UInt8)) (B:Nat),(∀x∈l,x.length<=B)->l.length<=(l.flatMap λx=>x++[10]).length/\(l.flatMap λx=>x++[10]).length<=(B+1)*l.length
 | [],B,_=>by simp
 | x::l,B,h=>by
   obtain⟨b,c⟩:=ztS l B λy a=>h y (by simp[a])
   have d:=h x Q6
   simp only[IQ,AJ,Bt,D4,SF];omega
theorem ztB(w:World)(m:Int)(o:Qc w 0 0 (Qi m))(a4:Lib.TabIs Tryz.prog w "internal/strconv.uint64pow10" .u64 Lib.pow10Tab)(b:Nat)(X:List UInt8)(a:List (Int × Int))(B:1<=b)(C:b<=9)(V:X.length<=200)(a7:a.length<=30) :
 Qk 25 #[.string ⟨(Jt b X a).toArray⟩] w λe P=>e=.returned (.tuple #[.string ⟨(MP X a).toArray⟩,Qi 0])/\Qb w P:=by
 obtain⟨L,E,Z,a1,j⟩:=zoA b X B C Q0
 obtain⟨T,F⟩:=Qe (Ba (I8 b X):ByteArray);rw[F] at E j;have a0:=Wg o;have a2:(IV b X a).length=a.length+2:=by simp[IV]
 have a3:(IA b X).length<=500:=by
  have:=OE (show b<1000 by omega)
  simp only[IA,AJ];unfold Gy;split
  ·simp;omega
  ·rw[M9];simp;omega
 have R:∀x∈IV b X a,x.length<=500:=by
  intro x f;simp only[IV,CZ,C8] at f;rcases f with rfl|rfl|⟨p,-,rfl⟩
  ·exact a3
  ·decide
  ·have:=Z7 p;omega
 obtain⟨a8,a9⟩:=ztS (IV b X a) 500 R;have Q:=zwM b X a;have b0:(Jt b X a).length=((IV b X a).flatMap λx=>x++[10]).length:=rfl;have A:Jt b X a=(IV b X a).flatMap (λl=>l++[10])++[]:=by simp[Jt]
 refine(zvy w m o ⟨(Jt b X a).toArray⟩ (by show(Jt b X a).length<=_;omega) ((IV b X a).map λl=>⟨(l++[10]).toArray⟩)
  (by rw[Da,A];exact Wf 10 1 (Af _) _ [] Q) (by rw[Da,A];exact VQ 10 _ [] Q Q6) (by rw[Da];show _<=(Jt b X a).length;omega) (by rw[Da];omega)
  (by intro x f;obtain⟨l,hl,rfl⟩:=C8.1 f;have:=R l hl;show(l++[10]).length<=_;rw[AJ];simp;omega)
  (zBn T (Cl L)) (MQ X a) ?_ (λd W _ _ h=>h) ?_ ?_ ?_).mono ?_
 ·intro i
  unfold MQ;split
  ·decide
  ·cases h:a[i-2]? with
   |none=>simp
   | some p =>
     have:=Zy X p;simp;omega
 ·intro i d W h
  rcases i with - | - |i
  ·exact⟨_,h⟩
  ·exact⟨_,h⟩
  ·obtain⟨N,J,v,c,M,I,u,O,K,y,z,H,q,-,-⟩:=h
   exact⟨_,q⟩
 ·intro i d a5 g W S h n D
  have t:∀g,Qg W d g 145->Qg S d g 145:=λg h=>D d _ h (λe=>by
   cases e
   rw[h] at n;cases n) (λc fz e=>by cases e)
  rcases i with - | - |i
  ·exact t _ h
  ·exact t _ h
  ·obtain⟨N,J,v,c,M,I,u,O,K,y,z,H,q,U,Y⟩:=h
   exact⟨N,J,v,c,M,I,u,O,K,y,z,H,t _ q,U.kept n D,Y⟩
 ·intro i x f d W k a6 h
  have r:Qc W 0 0 (Qi m):=(k.cell (p:=⟨0,0,none⟩) a0).trans o;have s:∀l:List UInt8,Lib.trimSuffix (⟨(l++[10]).toArray⟩:ByteArray).data.toList [10]=l:=λl=>zuH l 10;rcases i with - | - |i
  ·obtain rfl:(⟨(IA b X++[10]).toArray⟩:ByteArray)=x:=by simpa [IV] using f
   rw[s];have:=zuN W m r d b B C X V h;rw[F] at this;exact this
  ·obtain rfl:(⟨(Iu++[10]).toArray⟩:ByteArray)=x:=by simpa [IV] using f
   rw[s];exact zu2 W m r d T L E Z j.ix _ h
  ·obtain⟨p,G,rfl⟩:∃p,a[i]?=some p/\(⟨(Js p++[10]).toArray⟩:ByteArray)=x:=by simpa [IV] using f
   rw[s];have hi:=(Cc.1 G).1;have b1:=j.ix.few;have b2:3*(Cl L).length*i<=3*100000*30:=Ou Q0 Q0
   have:=ztw W m r (Lib.tabBelow_of_tabIs a4 W k) d T (Cl L) j X a1 _ Q0 p h
   rw[show MQ X a (i+1+1)=KU X p by unfold MQ;rw[if_neg Q0,show i+1+1-2=i by omega,G];rfl]
   exact this
 ·rintro e P ⟨rfl,k⟩
  refine⟨?_,k⟩;rw[Da,a2]
  show Ending.returned (.tuple #[.string ⟨((List.range (a.length+2)).flatMap (MQ X a)).toArray⟩,Qi 0])=_
  rw[zmO X a a.length (Af _),Gp]
theorem zm2(w:World)(m:Int)(b:Qc w 0 0 (Qi m))(x:Lib.TabIs Tryz.prog w "internal/strconv.uint64pow10" .u64 Lib.pow10Tab)(s:ByteArray)(c d:Value)(g h:List (Int × Int))(u:Bn w c g)(v:Bn w d h)(a:Int)(n:-9223372036854775808<=a)(o:a<=9223372036854775807) :
 Qk 5 #[.string s,c,Qi a,d] w λe t=>e=.returned (.bool true)/\Qb w t :=
 zry w (ztr w m b) s c d g h u v a n o λq X r W i j k l f=>ztB W m ((f.cell (p:=⟨0,0,none⟩) (Wg b)).trans b) (Lib.tabBelow_of_tabIs x W f) q X r i j k l
end Go.Proofs.YtoejfkeofbdalaaGreatDoor
namespace Go.Proofs.YtoejfkeofbdalaaGreatDoor.topShell
open Go.ChangeShapes Go.WideShapes Go.ChangeAt Go.RowKit
open Go.ChangeMaps (open_string shut_string)
theorem own:ownKnob Tryz.prog.godebug=none:=Q2
theorem zuz:laidOutB Tryz.prog=true:=Q2
theorem zut:Rows.topSumsRow.laid=Rows.topShellRow.laid:=rfl
theorem zAx(w:World)(h:laidMetH Tryz.prog Rows.topShellRow.laid w):Lib.TabIs Tryz.prog w "internal/strconv.uint64pow10" .u64 Lib.pow10Tab:=by
 have a:=((laidMetH_iff.1 h).1).filter (λx=>x.1 == "internal/strconv.uint64pow10");have e:((Rows.topShellRow.laid.filter λx=>x.2.handleName?.isNone).filter λx=>x.1 == "internal/strconv.uint64pow10")=[("internal/strconv.uint64pow10", Lib.tabData .u64 Lib.pow10Tab)]:=Q2
 rw[e] at a;exact Lib.tabIs_of_head (g:=5) (t:=456) (e:=58) (n:=20) Q2 Q2 Q2 Q2 Q2 Q2 a
theorem lifted(os:Os)(c0:os.Started)(H:Type)(enc:TypeId × Value->H) :
 ReturnsInHanded {} Tryz.checked os 5 .any (λw a=>(Rows.topShellSpec.pre enc Tryz.prog Tryz.f5 Rows.topShellRow.domain false w a/\laidMetH Tryz.prog Rows.topShellRow.laid w)/\sizedMet enc Tryz.prog Tryz.f5 (OpenSpec.ofChange Rows.topShellSpec) false w a)
  (Rows.topShellSpec.post enc Tryz.prog Tryz.f5 false true false false):=by
 refine returnsInHanded_of_calls own c0 Q2
  (ChangeSpec.witness_shaped (enc:=enc) (C:=Tryz.checked) (os:=os) (X:=λw _=>laidMetH Tryz.prog Rows.topShellRow.laid w) false (laidW os) #[.string ByteArray.empty,.slice none 0 0,.int .i64 0,.slice none 0 0] 8 (zx5 os)
    (znB os _) Q2 Q2 Q2 (zut ▸ zuD os _)) ?_
 intro d g i _ a5 _ a2 b6 _;obtain⟨_,_,_,a0,b5,_,_,_,_,G⟩:=a2;obtain rfl:a0=Tryz.f5:=JN (b5.symm.trans Tryz.func5);obtain⟨⟨⟨M,gs,d9,a6,-⟩,E⟩,-⟩:=b6;have q:=DataW.Whole.of_heap (w':=d.forCall g i) Q7 a6
 have F:=zAx _ E;have b7:Lib.TabIs Tryz.prog (d.forCall g i) "internal/strconv.uint64pow10" .u64 Lib.pow10Tab:=F;clear F E;generalize d.forCall g i=W at*
 generalize i.args=a at*
 have c:∀(j:Nat) t v,Tryz.f5.params[j]?=some t->a[j]?=some v->Value.okWide Tryz.prog W .any d.heap.size t v:=G;have a1:=q;obtain⟨p,c2,D,P,rfl,c8,c9⟩:=q;have o:DataW.TrodAll enc Tryz.prog W 0 (λ_=>true) true Tryz.f5.params.toList a.toList M p:=D;rw[Tryz.params5] at o c;obtain⟨u,d4,d0,c4,p0,q0,d8,rfl,rfl,N,V⟩:=trodAll_cons o;obtain⟨y,d5,d1,c5,T,q1,rfl,rfl,rfl,k,Y⟩:=trodAll_cons V;obtain⟨z,d6,d2,c6,p2,q2,rfl,rfl,rfl,O,Z⟩:=trodAll_cons Y;obtain⟨A,d7,d3,c7,U,q3,rfl,rfl,rfl,n,r3⟩:=trodAll_cons Z;obtain⟨rfl,rfl,rfl⟩:=trodAll_nil r3;obtain rfl:a=#[u,y,z,A]:=by cases a;simp_all
 obtain⟨rfl,rfl⟩:=trodVars_none P;obtain⟨I,rfl,rfl,rfl,a9⟩:=open_string Nf (c 0 9 u rfl rfl) N;obtain⟨J,b8,b0,rfl⟩:=okWide_slice Tryz.underlying22 (c 1 22 y rfl rfl);have r:=k;have a7:∀x∈T,x.block<W.heap.size:=by obtain⟨m,b⟩:=r;exact DataW.trod_lt m _ _ _ b
 obtain⟨R,a3⟩:∃l,Bn W (.slice J b8 b0) l:=by obtain⟨b4,e⟩:=k;exact zpX e
 obtain⟨K,rfl,rfl,rfl,B⟩:=open_int J4 (c 2 3 z rfl rfl) O;obtain⟨L,b9,b3,rfl⟩:=okWide_slice Tryz.underlying22 (c 3 22 A rfl rfl);have s:=n;have a8:∀x∈U,x.block<W.heap.size:=by obtain⟨m,b⟩:=s;exact DataW.trod_lt m _ _ _ b
 obtain⟨S,a4⟩:∃l,Bn W (.slice L b9 b3) l:=by obtain⟨b4,e⟩:=n;exact zpX e
 clear D G;obtain⟨b1,b2⟩:=wf_i64 B;obtain⟨m,b⟩:=zoG W a5;refine(zm2 W m b b7 I _ _ R S a3 a4 K Q0 Q0).mono λc1 c3 ⟨Q,f⟩=>?_
 subst Q;refine ChangeSpec.post_blind ?_;exact⟨_,_,_,[],_,[],a1,(trodAll_cons_mk (shut_bool Tryz.underlying4 _) trodAll_mk0),(trodAll_cons_mk (shut_string Nf a9) (trodAll_cons_mk (Below.trod zuz Q2 (Kk Q2) r f a7) (trodAll_cons_mk (shut_int J4 B) (trodAll_cons_mk (Below.trod zuz Q2 (Kk Q2) s f a8) trodAll_mk0)))),rfl,f.frame _,λh=>by cases h⟩
end Go.Proofs.YtoejfkeofbdalaaGreatDoor.topShell