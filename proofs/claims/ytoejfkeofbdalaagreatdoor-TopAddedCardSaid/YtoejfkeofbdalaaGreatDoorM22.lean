import Derived.Test.YtoejfkeofbdalaaGreatDoorM13
import Derived.Test.YtoejfkeofbdalaaGreatDoorM11
import Derived.Test.YtoejfkeofbdalaaGreatDoorM21
import Derived.Laws.CopyRow
import Derived.Laws.IdiomCopy
import Derived.Lib.ConvBytes
import Derived.Laws.IdiomStrings
set_option linter.all false
set_option maxRecDepth 100000
set_option maxHeartbeats 8000000
namespace Go.Proofs.YtoejfkeofbdalaaGreatDoor
open Go.RowKit
variable {e:List UInt8} {g k m n:Nat} {v w w':World} {x:Value}
def Bo(w:World)(b:Nat)(U:List UInt8):Prop:=∃a,Qg w b a 5/\a.toList=byteCells U
theorem getElem?_byteC(U:List UInt8)(x:Nat):(byteCells U)[x]?=U[x]?.map λp=>.int .u8 (p.toNat:Int):=by simp[byteCells]
theorem Bo.cell{b:Nat}(h:Bo w b e)(x:Nat)(p:UInt8)(d:e[x]?=some p):Qc w b x (.int .u8 (p.toNat:Int)):=by
 obtain⟨f,a,c⟩:=h;rw[Ae a,<-Lj,c,getElem?_byteC,d];rfl
theorem Bo.frozen(h:Bo w n e)(x:Nat):w.frozen? ⟨n,x,none⟩=false:=by
 obtain⟨b,a,c⟩:=h;exact Ah a x
theorem Bo.lt(h:Bo w n e):n<w.heap.size:=by
 obtain⟨b,a,c⟩:=h;exact Aj a
theorem Bo.same(h:Bo w n e)(d:w'.heap[n]?=w.heap[n]?):Bo w' n e:=by
 obtain⟨a,b,c⟩:=h;exact⟨a,d.trans b,c⟩
theorem Bo.below(h:Bo w n e)(a:Qb w v):Bo v n e:=h.same (a.block n h.lt)
theorem Bo.set(h:Bo w n e)(x:Nat)(p:UInt8):Bo (w.setCell ⟨n,x,none⟩ (.int .u8 (p.toNat:Int))) n (e.set x p):=by
 obtain⟨c,a,b⟩:=h;refine⟨_,Ak a x _,?_⟩;have:byteCells (e.set x p)=(byteCells e).set x (.int .u8 (p.toNat:Int)):=by simp[byteCells,PI]
 rw[this,<-b];simp
theorem Bo.own{base:Nat}(h:Bo w n e)(d:base<=n)(g:e.length=k)(f:k<=maxLen):w.ownsRow base 5 1 (Qs n 0 k k) k (byteCells e):=by
 obtain⟨a,c,b⟩:=h;have i:a.size=k:=by rw[<-MX,b,L9,g]
 refine⟨by rw[L9];omega,.inr ⟨n,k,a,rfl,d,c,Af _,f,Q0,?_⟩⟩
 rw[b,BR (by rw[L9];omega)]
theorem Yz(n:Nat)(g:n<=17592186044416):∃a:Array Value,a.toList=byteCells (List.replicate n 0)/\∀W,(Instr.makeSlice 89 (Qi (n:Int)) (Qi (n:Int))).run Tryz.prog W=.ok (Qs W.heap.size 0 n n) (W.alloc (.cells a 5)):=by
 obtain⟨c,b,d,e,f⟩:=Ie TT;refine⟨madeCells #[.int .u8 0] (n*1),?_,λW=>?_⟩
 ·rw[toList_madeCells_one,PJ];simp[byteCells]
 ·have:=run_make (P:=Tryz.prog) W 89 5 c (.int .u8 0) Lt b d .i64 .i64 n n Q0 Q0 (by rw[f];omega) Q0
  rw[e,EM] at this;exact this
theorem Ap.below(h:Ap w n x e)(a:Qb w v):Ap v n x e:=Cd h a
theorem Ap.alloc(h:Ap w n x e)(o:Obj):Ap (w.alloc o) n x e:=World.ownsRow.alloc h o
def DE(s:ByteArray):List Nat:=s.data.toList.map (·.toNat)
theorem LA(s:ByteArray):(DE s).length=s.size:=by simp[DE]
theorem Wq(s:ByteArray)(i:Nat)(h:i<s.size):(DE s)[i]?=some (s[i]).toNat:=by
 unfold DE;rw[EA,Az (by simpa using h)]
 rfl
theorem zmV(s:ByteArray):∀x∈DE s,x<256:=λx a=>by
 simp only[DE,C8] at a;obtain⟨b,_,rfl⟩:=a;exact UInt8.toNat_lt b
def Ib(f:Nat->Nat):Array Value:=((List.range 257).map λc=>Value.int .i64 (f c:Nat)).toArray
theorem Uo(f:Nat->Nat):(Ib f).size=257:=by simp only[Ib,F6,Da,Gn]
theorem N9(f:Nat->Nat)(c:Nat)(h:c<257):(Ib f)[c]?=some (Qi (f c:Nat)):=by
 unfold Ib;rw[JM,EA,Ji h];rfl
theorem XC(f g:Nat->Nat)(c:Nat)(x:Nat)(h:∀d,d<257->g d=if d=c then x else f d):(Ib f).setIfInBounds c (Qi (x:Nat))=Ib g:=by
 apply KK
 intro i;rw[MU,Uo]
 by_cases a:i<257
 ·rw[N9 _ _ a,N9 _ _ a,h i a]
  by_cases e:c=i
  ·subst e;simp[a]
  ·rw[if_neg e,if_neg (Ne.symm e)]
 ·rw[IK (by rw[Uo];omega),IK (by rw[Uo];omega)]
  split
  ·rw[if_neg Q0]
  ·rfl
theorem WG(f g:Nat->Nat)(h:∀d,d<257->f d=g d):Ib f=Ib g:=by
 unfold Ib;rw[Gl λc a=>by rw[h c (EB.1 a)]]
theorem zy2:Ib (λ_=>0)=(List.replicate 257 (Value.int .i64 0)).toArray:=by
 apply KK
 intro i
 by_cases a:i<257
 ·rw[N9 _ _ a,JM,Ll,if_pos a];rfl
 ·rw[IK (by rw[Uo];omega),IK (by rw[F6,Jg];omega)]
theorem zzm:∀W,(zeroValue 254).run Tryz.prog W=.ok (.agg (Ib λ_=>0)) W:=λW=>by rw[zy2];kernel_rfl
def Mc(L:List Nat)(d:Nat):Nat:=if d=0 then 0 else L.count (d-1)
def Kg(L:List Nat)(c d:Nat):Nat:=if d<=c then K6 L d else L.count (d-1)
def Lg(L:List Nat)(i d:Nat):Nat:=K6 L d+(L.take i).count d
theorem zqL(s:ByteArray)(w:World)(hs:s.size<=1000000) :
 Qk 92 #[.string s] w λe J=>∃q c,e=.returned (.slice q s.size c)/\Ac J J.heap.size (.slice q s.size c) (ints (Ex (DE s)))/\Qb w J:=by
 have hz:=zzm;obtain⟨Z,G⟩:∃Z,Ib (λ_=>0)=Z:=⟨_,rfl⟩;rw[G] at hz;have a9:=Aa G;have W:=LA s;have T:=Aa (Wq s);have S:=Aa (zmV s);generalize DE s=L at*
 have u:=Aa W;obtain⟨cz,a5,c0⟩:=O7 s.size Q0
 have b2:=Aa a5
 have a4:∀k x,(L.take k).count x<=s.size:=λk x=>by
  have h1:(L.take k).count x<=(L.take k).length:=Mq;have h2:(L.take k).length<=L.length:=by rw[BO];omega
  omega
 have b1:=Aa a4;have y:∀c,K6 L c<=s.size:=λc=>by have:=zv9 L c;omega
 have b4:=Aa y;clear G a5 W a4 y
 go_enter Tryz.func92,Tryz.ntmps92
 go_wp2_with fail
 have a2:Qg (w.alloc (.cells Z 254)) w.heap.size Z 254:=Am _ _ _ rfl;have U:=Aa a2;clear a2
 go_loopw [10] (λi wr=>∃k:Nat,k<=s.size/\i=Qi k/\Hid (Qg wr w.heap.size (Ib (Mc (L.take k))) 254)/\Hid (Qb w wr)) (λi _=>s.size+1-(intOf i).toNat)
 case atStart=>exact⟨0,BI _,rfl,by
  show _=_
  rw[U.out,<-a9.out,WG (Mc (L.take 0)) (λ_=>0) (λd _=>by simp[Mc])],(Ag _ _).alloc (Af _) _⟩
 case round =>
  clear U;obtain⟨k,R,rfl,a,b⟩:=hrel
  by_cases b9:k<s.size
  ·have o:=T.out k b9
   have P:=(s[k]).toNat_lt;obtain⟨x,Q⟩:=Qe ((s[k]).toNat);rw[Q] at o P;have hc:=(Ae a.out (x+1)).trans (N9 _ _ Q0)
   have b8:=Ah a.out (x+1);obtain⟨m,l⟩:=Qe (Mc (L.take k) (x+1));rw[l] at hc;have c6:m<=s.size:=by rw[<-l];exact b1.out k x
   have f:=Ak a.out (x+1) (Qi ((m+1:Nat):Int));have z:L.take (k+1)=L.take k++[x]:=by rw[G7,o];rfl
   rw[XC (Mc (L.take k)) (Mc (L.take (k+1))) (x+1) (m+1) (λd H=>by
    rw[z];unfold Mc at l |-
    by_cases e:d=x+1
    ·subst e
     rw[if_pos rfl,if_neg Q0,<-l,if_neg Q0,Oo]
     simp
    ·rw[if_neg e]
     by_cases t:d=0
     ·rw[if_pos t,if_pos t]
     ·have E:List.count (d-1) [x]=0:=by rw[List.count_eq_zero,Li];omega
      rw[if_neg t,if_neg t,Oo,E,Ic])] at f
   have v:=Aa f;have n:Hid (((m+1:Nat):Int)=(m:Int)+1):=by show _=_;omega
   have K:Hid (Qb w (wr.setCell ⟨w.heap.size,x+1,none⟩ (Qi ((m+1:Nat):Int)))):=b.out.setCell (p:=⟨w.heap.size,_,none⟩) (Af _) _;clear f o z l
   go_wp2_with fail
   go_roundw
   case rel=>exact⟨k+1,Q0,by go_num,by rw[<-n.out];exact v,by rw[<-n.out];exact K⟩
   case measure=>simp[intOf];omega
  ·obtain rfl:k=s.size:=Q0
   have V:Hid (Qg wr w.heap.size (Ib (Kg L 0)) 254):=by
    show _=_
    rw[a.out,WG (Mc (L.take s.size)) (Kg L 0) (λd _=>by
     rw[BR (by rw[u.out];exact Af _)]
     unfold Mc Kg
     by_cases e:d=0
     ·subst e;simp[zmk]
     ·rw[if_neg e,if_neg Q0])]
   clear a
   go_wp2_with fail
   go_loopw [23] (λi wr=>∃k:Nat,k<=256/\i=Qi k/\Hid (Qg wr w.heap.size (Ib (Kg L k)) 254)/\Hid (Qb w wr)) (λi _=>257-(intOf i).toNat)
   case atStart=>exact⟨0,BI _,rfl,V,b⟩
   case round =>
    clear V b;obtain⟨k,R,rfl,a,b⟩:=hrel
    by_cases d3:k<256
    ·have N:=(Ae a.out (k+1)).trans (N9 _ _ Q0)
     have a3:=(Ae a.out k).trans (N9 _ _ Q0)
     have b8:=Ah a.out (k+1);obtain⟨m,l⟩:=Qe (Kg L k (k+1));obtain⟨p,j⟩:=Qe (Kg L k k);rw[l] at N;rw[j] at a3
     have O:m+p=K6 L (k+1):=by
      rw[<-l,<-j,Wz];unfold Kg;rw[if_neg Q0,if_pos (Af _),Mm]
      omega
     have d4:m+p<=s.size:=by rw[O];exact b4.out _
     have f:=Ak a.out (k+1) (Qi ((m+p:Nat):Int))
     rw[XC (Kg L k) (Kg L (k+1)) (k+1) (m+p) (λd H=>by
      rw[O];unfold Kg
      by_cases e:d=k+1
      ·subst e
       rw[if_pos (Af _),if_pos rfl]
      ·rw[if_neg e]
       by_cases t:d<=k
       ·rw[if_pos Q0,if_pos t]
       ·rw[if_neg Q0,if_neg t])] at f
     have v:=Aa f;have n:Hid (((m+p:Nat):Int)=(m:Int)+(p:Int)):=by show _=_;omega
     have K:Hid (Qb w (wr.setCell ⟨w.heap.size,k+1,none⟩ (Qi ((m+p:Nat):Int)))):=b.out.setCell (p:=⟨w.heap.size,_,none⟩) (Af _) _;have c7:IntKind.i64.wrap ((k:Int)+1)=(k:Int)+1:=AU _ Q0
     have c8:IntKind.i64.wrap ((m:Int)+(p:Int))=(m:Int)+(p:Int):=AU _ Q0
     have c9:0<=(k:Int)+1:=Q0
     have d0:(k:Int)+1<257:=Q0
     have d1:((k:Int)+1).toNat=k+1:=Q0
     have d2:(k:Int)<257:=Q0
     clear f l j O
     go_wp2_with fail
     go_still_tail 9,Q2
     go_wp2_with fail
     go_roundw
     case rel=>exact⟨k+1,Q0,by go_num,by rw[<-n.out];exact v,by rw[<-n.out];exact K.out.drew⟩
     case measure=>simp[intOf];omega
    ·obtain rfl:k=256:=Q0
     have B:Hid (Qg wr w.heap.size (Ib (Lg L 0)) 254):=by
      show _=_
      rw[a.out,WG (Kg L 256) (Lg L 0) (λd H=>by
       unfold Kg Lg;rw[if_pos Q0]
       simp)]
     have a6:=b.out.size;obtain⟨g,a1⟩:=Qe wr;rw[a1] at B b a6 |-;clear a a1
     go_wp2_with fail
     go_loopw [41] (λi wr=>∃(k:Nat)(X:List Nat),k<=s.size/\i=Qi k/\Hid (Qg wr w.heap.size (Ib (Lg L k)) 254)/\Hid (AQ wr g.heap.size X)/\Hid (X.length=s.size/\∀i,i<k->X[Ka L i]?=some i)/\Hid (Qb w wr)) (λi _=>s.size+1-(intOf i).toNat)
     case atStart =>
      exact⟨0,List.replicate s.size 0,BI _,rfl,Bb _ B.out,⟨cz,Am _ _ _ rfl,by rw[b2.out];simp[ints]⟩,⟨Q6,λi h=>by omega⟩,b.out.alloc a6 _⟩
     case round =>
      have c2:w.heap.size<g.heap.size:=Aj B.out;clear B b c0;obtain⟨k,X,R,rfl,a,A,r,b⟩:=hrel
      by_cases a7:k<s.size
      ·have o:=T.out k a7
       have P:=(s[k]).toNat_lt;obtain⟨x,Q⟩:=Qe ((s[k]).toNat);rw[Q] at o P;obtain⟨p,j⟩:=Qe (Lg L k x)
       have D:Ka L k=p:=by
        rw[<-j];unfold Ka Lg;rw[o];rfl
       have y:p<s.size:=by
        rw[<-D];have:=zvR L k (by rw[u.out];exact a7)
        rw[u.out] at this;exact this
       have N:=(Ae a.out x).trans (N9 _ _ Q0)
       rw[j] at N;have a3:=A.out.cell p (X[p]'(by rw[r.out.1];exact y)) (Az _)
       have c3:=Ah a.out x;have c4:=A.out.frozen p;have Y:=A.out.set p k;have C:Qg (wr.setCell ⟨g.heap.size,p,none⟩ (Qi ((k:Nat):Int))) w.heap.size (Ib (Lg L k)) 254:=(Bg _ _ _ _ (by show w.heap.size≠g.heap.size;omega)).trans a.out
       have b7:=(Ae C x).trans (N9 _ _ Q0)
       rw[j] at b7;have c5:=Ah C x;have f:=Ak C x (Qi ((p+1:Nat):Int));have z:L.take (k+1)=L.take k++[x]:=by rw[G7,o];rfl
       rw[XC (Lg L k) (Lg L (k+1)) x (p+1) (λd H=>by
        unfold Lg at j |-;rw[z,Oo]
        by_cases e:d=x
        ·subst e
         rw[if_pos rfl,<-j];simp;omega
        ·have E:List.count d [x]=0:=by rw[List.count_eq_zero,Li];exact e
         rw[if_neg e,E];omega)] at f
       have v:=Aa f;have a0:AQ ((wr.setCell ⟨g.heap.size,p,none⟩ (Qi ((k:Nat):Int))).setCell ⟨w.heap.size,x,none⟩ (Qi ((p+1:Nat):Int))) g.heap.size (X.set p k):=Y.same (Bg _ _ _ _ (by show g.heap.size≠w.heap.size;omega))
       have b3:=Aa a0
       have b5:Hid ((X.set p k).length=s.size/\∀i,i<k+1->(X.set p k)[Ka L i]?=some i):=by
        refine⟨by rw[Jm];exact r.out.1,λi I=>?_⟩
        by_cases e:i=k
        ·subst e
         rw[D,Px (by rw[r.out.1];exact y)]
        ·have c1:p≠Ka L i:=by
          rw[<-D];intro h;exact e (zyc L S.out i k (by rw[u.out];omega) (by rw[u.out];omega) h.symm)
         rw[Pv c1];exact r.out.2 i Q0
       have b0:Hid (Qb w ((wr.setCell ⟨g.heap.size,p,none⟩ (Qi ((k:Nat):Int))).setCell ⟨w.heap.size,x,none⟩ (Qi ((p+1:Nat):Int)))):=(b.out.setCell (p:=⟨g.heap.size,_,none⟩) (by show w.heap.size<=g.heap.size;omega) _).setCell (p:=⟨w.heap.size,_,none⟩) (Af _) _
       have n:Hid (((p+1:Nat):Int)=(p:Int)+1):=by show _=_;omega
       clear f o z j D Y a0 C
       go_wp2_with fail
       go_roundw
       case rel=>exact⟨k+1,X.set p k,Q0,by go_num,by rw[<-n.out];exact v,by rw[<-n.out];exact b3,b5,by rw[<-n.out];exact b0⟩
       case measure=>simp[intOf];omega
      ·obtain rfl:k=s.size:=Q0
       have b6:X=Ex L:=zvC L S.out X (by rw[r.out.1,u.out]) (λi I=>r.out.2 i (by rw[u.out] at I;exact I))
       have M:=r.out.1;subst b6;have F:=A.out.ints s.size s.size (Af _) (by simp[maxLen];omega) (by rw[M];exact Af _)
       rw[BR (by rw[M];exact Af _)] at F
       have a8:=Aa F;clear F M
       go_wp2_with fail
       go_ret
       exact⟨_,_,rfl,a8.out,b.out⟩
def JI(L:List Nat)(g:Nat):List UInt8:=(List.range L.length).map λk=>UInt8.ofNat (L[KT (Ex L) (k+1) g]?.getD 0)
theorem zqC(L:List Nat)(a:∀x∈L,x<256):∀k g,g<L.length->KT (Ex L) k g<L.length
 |0,g,h=>h
 |k+1,g,h=>zqC L a k _ (zoC L a g h)
theorem zni(s:ByteArray)(g:Nat)(w:World)(T:s.size<=1000000)(R:g<max s.size 1) :
 Qk 30 #[.string s,Qi (g:Nat)] w λe W=>e=.returned (.tuple #[.string ⟨(JI (DE s) g).toArray⟩,Qi 0])/\Qb w W:=by
 have x:=Aa (zqL s w T);have E:=LA s;have a1:=Aa (Wq s);have o:=Aa (zmV s);generalize DE s=L at*
 have c:=Aa E;obtain⟨O,I,a6⟩:=Yz s.size Q0
 have Z:=Aa I;obtain⟨n,t⟩:=Qe (max s.size 1);have b5:(if(s.size:Int)<1 then 1 else(s.size:Int))=(n:Int):=by rw[<-t];split<;>omega
 have a5:Hid (0<s.size->g<s.size):=λa9=>by omega
 rw[t] at R;have d1:decide ((g:Int)<0)=false:=AV Q0
 have d2:decide ((n:Int)<=(g:Int))=false:=AV Q0
 have d3:decide (n<=g)=false:=AV Q0
 clear E I t
 go_enter Tryz.func30,Tryz.ntmps30
 go_wp2_with fail
 refine x.out.mono ?_;rintro e d ⟨b0,a8,rfl,B,l⟩;have M:=Aa B;have X:=Aa l;have a7:=l.size;clear B l x
 go_wp2_with fail
 go_loopw [8,27] (λN m wr=>∃k a:Nat,k<=s.size/\m=Qi k/\N=Qi (a:Nat)/\Hid (a=KT (Ex L) k g)/\Hid (∃U,Bo wr d.heap.size U/\U.length=s.size/\U.take k=(JI L g).take k)/\Hid (Qb d wr)) (λ_ m _=>s.size+1-(intOf m).toNat)
 case atStart=>exact⟨0,g,BI _,rfl,rfl,rfl,⟨List.replicate s.size 0,⟨O,Am _ _ _ rfl,Z.out⟩,Q6,Q6⟩,(Ag _ _).alloc (Af _) _⟩
 case round =>
  clear a6;obtain⟨k,a,hk,rfl,rfl,y,z,j⟩:=hrel;obtain⟨U,A,F,G⟩:=z.out;have h:=Aa A;have i:=Aa F;have D:=Aa G;clear A F G z
  by_cases r:k<s.size
  ·have H:a<s.size:=by
    rw[y.out,<-c.out];exact zqC L o.out k g (by rw[c.out];exact a5.out Q0)
   have u:=TF L o.out;obtain⟨b,f⟩:∃b,(Ex L)[a]?=some b:=⟨_,Az (by rw[u,c.out];exact H)⟩
   have q:b<s.size:=by
    have:=(Qo L o.out b).1 (Cn f);rw[c.out] at this;exact this
   obtain⟨P,V,S,a4,v⟩:=M.out.at a (by rw[Bj,u,c.out];exact H)
   subst S;rw[show(ints (Ex L))[a]?.getD 0=(b:Int) by simp[ints,f]] at v
   have b4:=(j.out.cell (p:=⟨P,V+a,none⟩) a4).trans v;have b3:=h.out.frozen k;have b1:=h.out.cell k (U[k]'(by rw[i.out];exact r)) (Az _)
   have J:=h.out.set k (s[b]);have K:=Aa J;have Y:Hid (Qb d (wr.setCell ⟨d.heap.size,k,none⟩ (.int .u8 ((s[b]).toNat:Int)))):=j.out.setCell (p:=⟨d.heap.size,_,none⟩) (Af _) _
   have C:Hid (b=KT (Ex L) (k+1) g):=by
    show _=_
    rw[Zl,<-y.out,f];rfl
   have a2:Hid ((U.set k (s[b])).take (k+1)=(JI L g).take (k+1)):=by
    show _=_
    have Q:(U.set k (s[b]))[k]?=some (s[b]):=Px (by rw[i.out];exact r)
    rw[G7,G7,Q,List.take_set_of_le (Af _),D.out];congr 1
    unfold JI;rw[EA,Ji (by rw[c.out];exact r)]
    simp only[Iz];rw[<-C.out];simp[a1.out b q]
   have a0:Hid ((U.set k (s[b])).length=s.size):=by show _=_;rw[Jm];exact i.out
   clear J v f u
   go_wp2_with fail
   go_roundw
   case rel=>exact⟨k+1,b,Q0,by go_num,rfl,C,⟨_,K.out,a0.out,a2.out⟩,Y⟩
   case measure=>simp[intOf];omega
  ·obtain rfl:k=s.size:=Q0
   have q:(JI L g).length=s.size:=by simp[JI,c.out]
   have a3:U=JI L g:=by
    have:=D.out;rw[BR (by rw[i.out];exact Af _),BR Q0] at this
    exact this
   subst a3;have b2:=M8 _ (h.out.own (base:=0) (BI _) q (by simp[maxLen];omega))
   go_wp2_with fail
   go_ret2
   exact⟨rfl,X.out.trans (j.out.mono a7)⟩
def AP(w:World)(g:Nat)(U:List UInt8):Prop:=∀j p,U[j]?=some p->Qc w g j (.int .u8 (p.toNat:Int))/\w.frozen? ⟨g,j,none⟩=false
theorem frozen?_of_block{a:Addr}(h:v.heap[a.block]?=w.heap[a.block]?):v.frozen? a=w.frozen? a:=by
 simp only[World.frozen?,h]
theorem AP.blk{U:List UInt8}(h:AP w g U)(hb:w'.heap[g]?=w.heap[g]?):AP w' g U:=λj p hj=>by
 rw[KG (w:=w) hb,frozen?_of_block (w:=w) (a:=⟨g,j,none⟩) hb];exact h j p hj
theorem AP.set(h:AP w n e)(x:Nat)(p:UInt8):AP (w.setCell ⟨n,x,none⟩ (.int .u8 (p.toNat:Int))) n (e.set x p):=λj q a=>by
 rw[World.frozen?_setCell]
 by_cases c:x=j
 ·subst c
  have d:x<e.length:=by
   have:=(Cc.1 a).1
   rwa [Jm] at this
  rw[Px d] at a;injection a with a
  subst a;have b:=h x _ (Az d);refine⟨?_,b.2⟩;exact World.cell?_setCell_same' _ _ _ (by rw[b.1];rfl)
 ·rw[Pv c] at a
  have b:=h j q a;refine⟨?_,b.2⟩;rw[SI _ _ _ _ (λh=>c (Co Addr.off h))];exact b.1
theorem AP.cells(h:AP w g e)(o:Nat)(V:List UInt8)(m:o+V.length<=e.length):AP (w.setCells g o (byteCells V)) g (e.take o++V++e.drop (o+V.length)):=λj q a=>by
 have i:∀j,j<(byteCells V).length->(w.cell? ⟨g,o+j,none⟩).isSome=true:=λj a=>by
  rw[L9] at a;rw[(h (o+j) _ (Az Q0)).1]
  rfl
 rw[World.frozen?_setCells];have f:=(Cc.1 a).1;have k:(e.take o++V++e.drop (o+V.length)).length=e.length:=by simp;omega
 rw[k] at f;refine⟨?_,(h j _ (Az f)).2⟩
 by_cases b:j<o
 ·rw[World.cell?_setCells_out g _ o w _ (λ_ _=>.inl b)]
  rw[BN,FP Q4,Mj b] at a
  exact(h j q a).1
 ·by_cases l:j<o+V.length
  ·have c:=World.cell?_setCells_in g (byteCells V) o w i (j-o) (by rw[L9];omega)
   rw[show o+(j-o)=j by omega] at c
   rw[c];rw[FP Q4,F7 Q4] at a
   have d:=getElem?_byteC V (j-o);rw[BO,Fs Q0] at a
   rw[a,Az (by rw[L9];omega)] at d
   exact d
  ·rw[World.cell?_setCells_out g _ o w _ (λ_ _=>.inr (by rw[L9];show o+V.length<=j;omega))]
   rw[F7 Q4,Kh] at a
   refine(h j q ?_).1;rw[<-a];congr 1
   simp;omega
theorem YI(g:Nat):∀(a:List Value)(o:Nat)(w:World),Ab g w (w.setCells g o a)
 | [],_,w=>Ab.refl g w
 |v::a,o,w=>((Ab.refl g w).set o v).trans (YI g a (o+1) _)
def Kb(A:List UInt8)(k:Nat):List UInt8:=A.getD k 0::(A.take k++A.drop (k+1))
theorem Zp(A:List UInt8)(k:Nat)(h:k<A.length):(Kb A k).length=A.length:=by simp[Kb];omega
theorem zmj:(Tryz.prog.info? 5).map (·.size)=some 1:=Q2
theorem Wp:Tryz.prog.elem 89=5:=Q2
theorem Zb:Tryz.prog.underlying 89=some (.slice (Tryz.prog.elem 89)):=by rw[Wp];exact Lt
theorem ZM(w:World):(sizeOf 5).run Tryz.prog w=.ok 1 w:=Q2
theorem zpR(g n a:Nat)(c:1<=n)(b:n<=a):∃q,(a≠1->q=some ⟨g,1,none⟩)/\∀W,(Instr.slice 89 (Qs g 0 n a) (some (Qi 1)) none none).run Tryz.prog W=.ok (.slice q (n-1) (a-1)) W:=by
 refine⟨if a=1 then some ⟨g,0,none⟩ else some ⟨g,1,none⟩,λh=>if_neg h,λW=>?_⟩
 rw[run_slice_l W _ _ _ _ Zb _ _ Q0 Q0,Wp,ZM]
 simp only[KH,sliced];congr 2
theorem zxy(g n a k:Nat)(b:k<=a):∀W,(Instr.slice 89 (Qs g 0 n a) none (some (Qi (k:Int))) none).run Tryz.prog W=.ok (Qs g 0 k a) W:=λW=>by
 rw[run_slice_h W _ _ _ _ Zb _ _ Q0 Q0,Wp,ZM]
 simp only[KH,sliced];congr 2
 by_cases h:a=0
 ·simp[h]
 ·simp[Addr.add]
theorem zgM{y:Array Oper}{rest:List Oper}{c:Oper}{o:Act}{Q:Exit->Act->World->Prop}(D:c.guard=none)(d s:Operand)
 (u:c.op=.call { callee:=.builtin .copy,args:=#[d,s],argTypes:=#[89,89] }) (g n b k:Nat) (q:Option Addr) (A:List UInt8)
 (t:o.eval d=.slice q (n-1) (b-1)) (x:o.eval s=Qs g 0 k b) (E:A.length=n) (G:k<n) (F:n<=b) (B:b≠1->q=some ⟨g,1,none⟩) (e:AP w g A)
 (h:∀l,AP l g (A.take 1++A.take k++A.drop (1+k))->Ab g w l->wpList Tryz.prog y Q rest (o.put c.dst (Qi (k:Nat))) l) :
 wpList Tryz.prog y Q (c::rest) o w:=by
 refine wpList_plain D λK r=>?_
 by_cases C:b=1
 ·have m:k=0:=Q0
  have i:=run_copy_none (P:=Tryz.prog) w 89 89 c.type 5 q (some ⟨g,0,none⟩) (n-1) (b-1) k b Lt zmj (by subst m;exact Nat.zero_min _)
  unfold Oper.wp execOp;simp only[u,resolve,invoke,builtin,Ml,Mk,KH,MZ,Dz,Jl,t,x,i]
  have z:=h w (by
   subst m;rw[Nh,Eu,Er];exact e) (Ab.refl g w)
  subst m;exact r _ _ z
 ·have f:(byteCells (A.take k)).length=k:=by rw[L9,BO];omega
  have i:=run_copy_cells (P:=Tryz.prog) w 89 89 c.type 5 g 1 (n-1) (b-1) ⟨g,0,none⟩ k b (byteCells (A.take k)) Lt zmj
   (by rw[f];exact(Fs Q0).symm) (λj v a=>by
     rw[getElem?_byteC,Lp] at a;split at a
     ·rename_i H
      rw[Az (show j<A.length by omega)] at a
      rw[RQ,DC,(e j _ (Az (show j<A.length by omega))).1,<-a]
      rfl
     ·simp at a) (λj a=>by
     rw[f] at a;rw[(e (1+j) _ (Az Q0)).1]
     rfl) (λj a=>by
     rw[f] at a;exact(e (1+j) _ (Az Q0)).2) (Yn _)
  rw[f,<-B C] at i;unfold Oper.wp execOp;simp only[u,resolve,invoke,builtin,Ml,Mk,KH,MZ,Dz,Jl,t,x,i];have p:=e.cells 1 (A.take k) (by rw[BO];omega)
  rw[BO,Fs Q0] at p
  exact r _ _ (h _ p (YI g _ 1 w))
theorem znj(w:World)(g n cap k:Nat)(A:List UInt8)(hA:A.length=n)(hk:k<n)(hc:n<=cap)(hm:cap<=9223372036854775807)(hg:g<w.heap.size)(hE:AP w g A) :
 Qk 91 #[.agg #[Qs g 0 n cap],Qi (k:Nat)] w λe w'=>e=.returned (.int .u8 ((A.getD k 0).toNat:Int))/\AP w' g (Kb A k)/\Ab g w w':=by
 obtain⟨q,hq,hs1⟩:=zpR g n cap Q0 hc
 have hs2:=zxy g n cap k Q0
 obtain⟨x,hx⟩:∃x,A[k]?=some x:=⟨_,Az Q0⟩
 have hxd:A.getD k 0=x:=by rw[Cx,hx];rfl
 rw[hxd];have hgb:w.heap.size≠g:=Q0
 have hE1:AP (w.alloc (.cells #[Qs g 0 n cap] 161)) g A:=hE.blk (GV w _ g hg);have HE:=Aa hE1;have HX:=Aa hx;have HA:=Aa hA;have HXD:=Aa hxd;have HQ:=Aa hq;clear hE hE1 hx hA hxd hq;have hck:=(HE.out k x HX.out).1;have hk0:(0:Int)<=(k:Int):=Q0
 go_enter Tryz.func91,Tryz.ntmps91
 go_wp2_with fail
 have hbx:Qc (w.alloc (.cells #[Qs g 0 n cap] 161)) w.heap.size 0 (Qs g 0 n cap):=(Ae (Am w _ _ rfl) 0).trans rfl;have hO1:Ab g w (w.alloc (.cells #[Qs g 0 n cap] 161)):=Ab.of ((Ag _ w).alloc (Af _) _);have hwz:w.heap.size<(w.alloc (.cells #[Qs g 0 n cap] 161)).heap.size:=by simp
 obtain⟨W,hW⟩:=Qe (w.alloc (.cells #[Qs g 0 n cap] 161));rw[hW] at HE hck hbx hO1 hwz |-;have HO1:=Aa hO1;have HBX:=Aa hbx;clear hW hO1
 go_still_tail 7,Q2
 refine zgM rfl (.tmp 13) (.tmp 17) rfl g n cap k q A rfl rfl HA.out hk hc HQ.out HE.out ?_;intro w2 hR hO;have HR:=Aa hR;have HO:Hid (Ab g W w2):=(Ab.of (Ag _ W).drew).trans hO;have hlR:(A.take 1++A.take k++A.drop (1+k)).length=n:=by simp[HA.out];omega
 obtain⟨y,hy⟩:∃y,(A.take 1++A.take k++A.drop (1+k))[0]?=some y:=⟨_,Az Q0⟩
 have hc0:=(hR 0 y hy).1;have hf0:=(hR 0 y hy).2;have hb2:Qc w2 w.heap.size 0 (Qs g 0 n cap):=(KG (w:=W) (a:=⟨w.heap.size,0,none⟩) (HO.out.block _ hwz Q0)).trans HBX.out
 have hset:=hR.set 0 x
 have hfin:(A.take 1++A.take k++A.drop (1+k)).set 0 x=Kb A k:=by
  unfold Kb;rw[HXD.out];cases A with
  |nil=>have:=HA.out;simp at this;omega
  |cons a A=>simp[Mv]
 rw[hfin] at hset;have HS:=Aa hset;have HO2:=Aa (HO.out.set 0 (.int .u8 (x.toNat:Int)));clear hR hO hs1 hs2 hlR hset hfin hbx hck hy
 go_wp2_with fail
 go_ret
 exact⟨rfl,HS.out,HO1.out.trans HO2.out⟩
theorem zzC:∀W,(zeroValue 165).run Tryz.prog W=.ok (.agg (EL [])) W:=λ_=>by kernel_rfl
theorem Xe(A:List UInt8)(x:UInt8):EQ A x.toNat=decide (x∈A):=by
 rw[Ki];simp only[EQ,J8,FQ,Fj]
 constructor
 ·rintro⟨y,a,e⟩
  rw[<-UInt8.toNat_inj.1 e];exact a
 ·exact λh=>⟨x,h,rfl⟩
theorem ZO(s:ByteArray)(w:World)(K:s.size<=1000000) :
 Qk 90 #[.string s] w λe A=>e=.returned (.bool (decide s.data.toList.Nodup))/\Qb w A:=by
 have z:=zzC;obtain⟨Z,j⟩:=Qe (EL []);rw[j] at z;have r:=Aa j;clear j
 go_enter Tryz.func90,Tryz.ntmps90
 go_wp2_with fail
 have o:Qg (w.alloc (.cells Z 165)) w.heap.size Z 165:=Am _ _ _ rfl;have n:=Aa o;clear o
 go_loopw [7] (λi wr=>∃k:Nat,k<=s.size/\i=Qi k/\Hid ((s.data.toList.take k).Nodup)/\Hid (Qg wr w.heap.size (EL (s.data.toList.take k)) 165)/\Hid (Qb w wr)) (λi _=>s.size+1-(intOf i).toNat)
 case atStart=>exact⟨0,BI _,rfl,List.nodup_nil,by show _=_;rw[Nh,r.out];exact n.out,(Ag _ _).alloc (Af _) _⟩
 case round =>
  clear n;obtain⟨k,J,rfl,m,g,f⟩:=hrel
  by_cases G:k<s.size
  ·have y:=(s[k]).toNat_lt
   have F:k<s.data.toList.length:=by simpa using G
   have l:=(Ae g.out (s[k]).toNat).trans (Qd _ _ y);have I:=Ah g.out (s[k]).toNat;have d:s.data.toList.take (k+1)=s.data.toList.take k++[s[k]]:=Ep F
   have t:Hid (EL (s.data.toList.take (k+1))=(EL (s.data.toList.take k)).setIfInBounds (s[k]).toNat (.bool true)):=by
    show _=_
    rw[zqA,d]
   have H:=Aa (Ak g.out (s[k]).toNat (.bool true));have L:=Aa d;rw[Xe] at l
   by_cases c:s[k]∈s.data.toList.take k
   ·rw[Bl c] at l
    have q:¬ s.data.toList.Nodup:=λh=>by
     rw[<-Er (k+1) s.data.toList,d] at h;have u:=(Rf.1 h).1;have v:=(Rf.1 u).2.2 _ c _ (Li.2 rfl);exact v rfl
    have D:=Aa (AV q);clear c q d
    go_wp2_with fail
    go_ret
    exact⟨by rw[D.out];rfl,f.out⟩
   ·rw[AV c] at l
    have B:Hid ((s.data.toList.take (k+1)).Nodup):=by
     show List.Nodup _
     rw[d]
     exact Rf.2 ⟨m.out,Q6,λa x b E=>by
      rw[Li.1 E];exact λe=>c (e ▸ x)⟩
    clear c d
    go_wp2_with fail
    go_roundw
    case rel=>exact⟨k+1,Q0,by go_num,B,by show _=_;rw[t.out];exact H.out,f.out.setCell (p:=⟨w.heap.size,_,none⟩) (Af _) _⟩
    case measure=>simp[intOf];omega
  ·obtain rfl:k=s.size:=Q0
   have C:Hid (decide s.data.toList.Nodup=true):=by
    have:=m.out;rw[BR Q6] at this
    exact Bl this
   go_wp2_with fail
   go_ret
   exact⟨by rw[C.out];rfl,f.out⟩
theorem zkM(w:World)(s:ByteArray)(g:s.size<=1000000):∃(a:World)(b:Nat),(convert 9 89 (.string s)).run Tryz.prog w=.ok (Qs w.heap.size 0 s.size b) a/\s.size<=b/\b<=9223372036854775807/\AP a w.heap.size s.data.toList/\a.heap.size=w.heap.size+1/\Qb w a:=by
 refine⟨_,_,Lib.run_convert_string_bytes w 9 89 5 s Nf Lt Tryz.underlying5,grownCap_ge _ _ _ _,?_,λj p c=>?_,Lib.bytesWorld_size _ _ _,⟨rfl,rfl,rfl,by rw[Lib.bytesWorld_size];omega,λk d=>Lib.bytesWorld_at_old _ _ _ k d⟩⟩
 ·have:=grownCap_le_maxLen w s.size 0 5 (by unfold maxLen;omega)
  unfold maxLen at this;omega
 ·have e:j<s.size:=by simpa using(Cc.1 c).1
  refine⟨?_,?_⟩
  ·rw[Lib.bytesWorld_cell w 5 s j e,Cx,c]
   rfl
  ·have f:=Lib.bytesWorld_at_new w 5 s
   have h:j<(Lib.bytesCells w 5 s).size:=by simp[Lib.bytesCells];omega
   simp[World.frozen?,f];omega
def ND(a:Option (List UInt8 × List UInt8))(k:Int):Option (List UInt8 × List UInt8) :=
 a.bind λp=>if k<0\/(p.1.length:Int)<=k then none else some (Kb p.1 k.toNat,p.2++[p.1.getD k.toNat 0])
def Jb(A:List UInt8)(l:List Int):Option (List UInt8 × List UInt8):=l.foldl ND (some (A,[]))
def XU:Option (List UInt8 × List UInt8)->List UInt8 × Int
 |none=>([],5)
 |some p=>(p.2,0)
def Kw(A:List UInt8)(l:List Int):List UInt8 × Int:=if ¬ A.Nodup then([],1) else XU (Jb A l)
theorem znW(A:List UInt8)(l:List Int)(k:Int):Jb A (l++[k])=ND (Jb A l) k:=by simp[Jb]
theorem zso(l:List Int):l.foldl ND none=none:=by
 induction l with
 |nil=>rfl
 |cons k l a=>exact a
theorem znO{l:List Int}(h:Jb e (l.take k)=none):Jb e l=none:=by
 unfold Jb at h |-;rw[<-Er k l,Te,h];exact zso _
theorem Dq{i j:Nat}{s:List Value}(h:w.ownsRow m k i x j s)(f:Ab n w v)(p:n<m):v.ownsRow m k i x j s:=by
 refine⟨h.1,?_⟩;rcases h.2 with e|⟨g,l,o,a,b,c,d⟩
 ·exact .inl e
 ·exact .inr ⟨g,l,o,a,b,f.other c Q0,d⟩
theorem zjb(n:Nat)(g:n<=17592186044416):∃a:Array Value,a.size=n/\∀W,(Instr.makeSlice 89 (Qi 0) (Qi (n:Int))).run Tryz.prog W=.ok (Qs W.heap.size 0 0 n) (W.alloc (.cells a 5)):=by
 obtain⟨c,b,d,e,f⟩:=Ie TT;refine⟨madeCells #[.int .u8 0] (n*1),?_,λW=>?_⟩
 ·rw[<-MX,toList_madeCells_one,PJ];simp
 ·have:=run_make (P:=Tryz.prog) W 89 5 c (.int .u8 0) Lt b d .i64 .i64 0 n Q0 Q0 (by rw[f];omega) Q0
  rw[e,EM] at this;exact this
theorem zt8{h:Array Value}(a:Qg w m h 5)(d:h.size=k)(b:n<=m)(c:k<=maxLen):Ap w n (Qs m 0 0 k) [] :=
 ⟨by simp[byteCells],.inr ⟨m,k,h,rfl,b,a,BI _,c,Q0,by simp[byteCells]⟩⟩
theorem zl7(s:ByteArray)(a6:Value)(l:List Int)(w:World)(v:Ac w w.heap.size a6 l)(h0:0<s.size)(X:s.size<=1000000)(hl:l.length<=1000000) :
 Qk 29 #[.string s,a6] w λe e2=>e=.returned (.tuple #[.string ⟨(Kw s.data.toList l).1.toArray⟩,Qi (Kw s.data.toList l).2])/\Qb w e2:=by
 obtain⟨e0,d9,rfl,a4,g6⟩:=v.shape;obtain⟨N,G⟩:=Qe l.length;rw[G] at v hl a4 |-;have U:=Aa G;have a8:=Aa v;have u:=Aa (ZO s w X)
 by_cases q:s.data.toList.Nodup
 ·rw[Bl q] at u
  have c:Kw s.data.toList l=XU (Jb s.data.toList l):=by
   unfold Kw;rw[if_neg (λh=>h q)]
  rw[c];obtain⟨A,F⟩:=Qe s.data.toList;rw[F];have a3:A.length=s.size:=by rw[<-F];simp
  have e1:=Aa F;clear F;obtain⟨M,d8,f0⟩:=zjb N Q0
  have b1:=Aa d8;clear v G q c d8 a4
  go_enter Tryz.func29,Tryz.ntmps29
  go_wp2_with fail
  refine u.out.mono ?_;rintro e H ⟨rfl,C⟩;have J:=Aa C;have b3:=Aa (DS a8.out C);clear C u
  go_wp2_with fail
  obtain⟨a,b,a5,d7,g3,b5,c2,b4⟩:=zkM H s X;rw[a5];have i:=Aa b5;have e6:=Aa c2;have p:=Aa b4;have b6:H.heap.size<a.heap.size:=Q0
  clear a5 b5 c2 b4;obtain⟨g,W⟩:=Qe H.heap.size;have g5:Hid (Ac a a.heap.size (.slice e0 N d9) l):=DS b3.out p.out;have b0:Hid (Qb w a):=J.out.trans (p.out.mono J.out.size);have f1:w.heap.size<=g:=by rw[<-W];exact J.out.size
  rw[W] at i b6 |-;rw[e1.out] at i;clear W J b3 p e6;obtain⟨n,hn⟩:=Qe s.size;rw[hn] at d7 a3 h0 X |-;have e3:=Aa a3;clear hn a3;have f2:=b0.out.size;have a9:Hid (Qb w ((a.alloc (.cells #[Qs g 0 n b] 161)).alloc (.cells M 5))):=(b0.out.alloc f2 _).alloc Q4 _
  have d0:AP ((a.alloc (.cells #[Qs g 0 n b] 161)).alloc (.cells M 5)) g A:=(i.out.blk (GV _ _ g b6)).blk (GV _ _ g Q4)
  have d4:Ap ((a.alloc (.cells #[Qs g 0 n b] 161)).alloc (.cells M 5)) (a.heap.size+1) (Qs (a.heap.size+1) 0 0 N) []:=zt8 (znz _ _ _) b1.out (Af _) (by simp[maxLen];omega)
  have d6:Qg ((a.alloc (.cells #[Qs g 0 n b] 161)).alloc (.cells M 5)) a.heap.size #[.slice (some ⟨g,0,none⟩) n b] 161:=Bb _ (Am _ _ _ rfl);have c6:=Aa d0;have c8:=Aa d4;have c7:=Aa d6;clear d0 d4 d6 i b1
  go_wp2_with fail
  go_loopw [7,21] (λov Z wr=>∃(k:Nat)(f:Option Addr)(d:Nat)(B O:List UInt8),k<=N/\Z=Qi k/\ov=.slice f k d/\Hid (Jb A (l.take k)=some (B,O))/\Hid (B.length=n)/\Hid (O.length=k)/\Hid (AP wr g B)/\Hid (Ap wr (a.heap.size+1) (.slice f k d) O)/\Hid (Qg wr a.heap.size #[Qs g 0 n b] 161)/\Hid (Qb w wr)/\Hid (a.heap.size+1<=wr.heap.size)) (λ_ Z _=>N+1-(intOf Z).toNat)
  case atStart=>exact⟨0,_,_,A,[],BI _,rfl,rfl,rfl,e3.out,rfl,c6.out,c8.out,c7.out,a9.out,by show _<=_;simp⟩
  case round =>
   clear c6 c8 c7 a9 f0;obtain⟨k,f,d,B,O,hk,rfl,rfl,a7,z,K,i,a2,a0,m,V⟩:=hrel;have e9:=A8 a0.out
   by_cases b9:k<N
   ·obtain⟨x,Y⟩:∃x,l[k]?=some x:=⟨_,Az (by rw[U.out];exact b9)⟩
    obtain⟨g1,o1,hq,g7,c5⟩:=(DS a8.out m.out).at k (by rw[U.out];exact b9)
    subst hq;rw[Y] at c5;simp only[Es] at c5;have c4:l.take (k+1)=l.take k++[x]:=by rw[G7,Y];rfl
    have L:Hid (Jb A (l.take (k+1))=ND (some (B,O)) x):=by
     show _=_
     rw[c4,znW,a7.out]
    clear Y c4
    by_cases R:x<0
    ·have d1:decide (x<0)=true:=Bl R
     have E:Jb A l=none:=znO (k:=k+1) (by
      rw[L.out];simp[ND,R])
     have a1:=Aa E;clear E R
     go_wp2_with fail
     go_ret2
     exact⟨by rw[a1.out];rfl,m.out⟩
    ·have d1:decide (x<0)=false:=AV R
     obtain⟨j,hj⟩:∃j:Nat,x=(j:Int):=⟨x.toNat,Q0⟩
     subst hj
     by_cases P:n<=j
     ·have d2:decide ((n:Int)<=(j:Int))=true:=Bl Q0
      have d3:decide (n<=j)=true:=Bl P
      have E:Jb A l=none:=znO (k:=k+1) (by
       rw[L.out];simp[ND,z.out];omega)
      have a1:=Aa E;clear E P
      go_wp2_with fail
      go_ret2
      exact⟨by rw[a1.out];rfl,m.out⟩
     ·have b8:j<n:=Q0
      have d2:decide ((n:Int)<=(j:Int))=false:=AV Q0
      have d3:decide (n<=j)=false:=AV P
      have c1:Jb A (l.take (k+1))=some (Kb B j,O++[B.getD j 0]):=by
       rw[L.out];simp[ND,z.out];omega
      have b2:=Aa c1;have T:=Aa (znj wr g n b j B z.out b8 d7 g3 (by have:=V.out;omega) i.out)
      obtain⟨y,hy⟩:=Qe (B.getD j 0);rw[hy] at T b2;have f3:=UInt8.toNat_lt y;clear c1 hy P L
      go_wp2_with fail
      refine T.out.mono ?_;rintro e o ⟨rfl,d5,t⟩;have f5:=Aa d5;have g4:=Aa t;have c9:Hid (Ap (o.alloc (.cells #[.int .u8 (y.toNat:Int)] 5)) (a.heap.size+1) (.slice f k d) O):=Ap.alloc (Dq a2.out t Q0) _
      have e7:Hid (a.heap.size+1<=o.heap.size):=BU V.out t.size;have f7:Hid (Qg o a.heap.size #[Qs g 0 n b] 161):=t.other a0.out Q0
      have p:Hid (Qb w o):=t.bel m.out f1 (Af _);have f4:=e7.out;have g2:=p.out.size;clear T d5 t i a2 a0 m V e9
      go_wp2_with
       (at_builtin
        refine Tv rfl _ _ rfl (a.heap.size+1) (.slice f k d) O rfl c9.out o.heap.size y.toNat f3 rfl (Am _ _ _ rfl) (by rw[K.out];omega) Q4 ?_
        intro q3 c3 I S D g0;rw[K.out] at S |-;rw[Ta] at S;have f9:=Aa S;have b7:g<(o.alloc (.cells #[.int .u8 (y.toNat:Int)] 5)).heap.size:=by simp;omega
        have Q:∀r,(Value.slice f k d).ownBlock=some r->a.heap.size+1<=r:=λr e=>TI c9.out e;have f6:Hid (AP I g (Kb B j)):=(f5.out.blk (GV _ _ g Q0)).blk (D.block g b7 (λe=>by have:=Q g e.symm;omega))
        have f8:Hid (Qg I a.heap.size #[Qs g 0 n b] 161):=RB D (Bb _ f7.out) (λe=>by have:=Q _ e.symm;omega)
        have e4:Hid (Qb w I):=PZ D (p.out.alloc g2 _) (λr e=>by have:=Q r e;omega)
        have e8:Hid (a.heap.size+1<=I.heap.size):=BU f4 (BU Q6 D.size)
        clear S D g0 b7 Q)
      go_roundw
      case rel=>exact⟨k+1,_,_,Kb B j,O++[y],Q0,by go_num,rfl,b2.out,by show _=_;rw[Zp _ _ (by rw[z.out];exact b8)];exact z.out,by show _=_;rw[AJ,K.out];rfl,f6,f9,f8,e4,e8⟩
      case measure=>simp[intOf];omega
   ·obtain rfl:k=N:=Q0
    have c:Jb A l=some (B,O):=by
     have:=a7.out;rw[BR (by rw[U.out];exact Af _)] at this
     exact this
    have e5:=Aa c;have c0:=a2.out
    have a5:(convert 89 9 (.slice f k d)).run Tryz.prog wr=.ok (.string ⟨O.toArray⟩) wr:=M8 O (by
     have h:=c0;unfold Ap at h;rw[K.out] at h;exact h)
    clear c c0
    go_wp2_with fail
    go_ret2
    exact⟨by rw[e5.out];rfl,m.out⟩
 ·rw[AV q] at u
  have c:Kw s.data.toList l=([],1):=by unfold Kw;rw[if_pos q]
  rw[c];clear v G q c a4
  go_enter Tryz.func29,Tryz.ntmps29
  go_wp2_with fail
  refine u.out.mono ?_;rintro e H ⟨rfl,C⟩
  go_wp2_with fail
  go_ret2
  exact⟨rfl,C⟩
end Go.Proofs.YtoejfkeofbdalaaGreatDoor
namespace Go.Proofs.YtoejfkeofbdalaaGreatDoor
open Go.RowKit Go.Shelf
attribute [local go_sem] Oper.semAt_some
theorem TJ:∀(l:List UInt8),(Ef l).length<=l.length
 | []=>by rw[PW];exact Af _
 | c::t=>by
   have h:=TJ ((c::t).drop (Cr (c::t)));have a:=MF (l:=c::t) Q6
   rw[PO Q6,Bt]
   rw[D9] at h;simp only[Bt] at h |-;omega
termination_by l=>l.length
decreasing_by
 have hr:=MF (l:=c::t) Q6
 simp only[D9,Bt];omega
def EK(a:List (List UInt8)):Nat:=(a.map λp=>Ea p.length).sum
theorem UJ:∀a:List (List UInt8),EK a<=5*a.length
 | []=>Af _
 | p::a=>by
   have h:=UJ a;unfold EK at h |-;rw[Dz,IL,Bt];have:Ea p.length<=5:=by unfold Ea;split<;>omega
   omega
theorem WP(a:List (List UInt8))(p:List UInt8):EK (a++[p])=EK a+Ea p.length:=by
 simp[EK]
theorem Z5(n:Nat)(w:World)(c:n<=1000000) :
 Qk 113 #[Qi n] w λe b=>e=.returned (Qi (Ea n:Nat))/\w=b:=by
 have Cw:=Cw
 by_cases h:n<4
 ·have a:Ea n=n:=if_pos h
  go_enter Tryz.func113,Tryz.ntmps113
  go_wp2
  go_ret
  exact⟨by rw[a];rfl,rfl⟩
 ·have a:Ea n=5:=if_neg h
  go_enter Tryz.func113,Tryz.ntmps113
  go_wp2
  go_ret
  exact⟨by rw[a];rfl,rfl⟩
theorem zod(s:ByteArray)(w:World)(X:s.size<=1000000) :
 Qk 53 #[.string s] w λe l=>e=.returned (Qi (Gs s.data.toList:Nat))/\Qb w l:=by
 have M:=Aa (λW=>Wn s W);obtain⟨D,b6⟩:∃D:Nat,8<=D:=⟨8,Q0⟩
 have Z:1<=D:=Q0
 refine(Em (n:=D)).1 ?_;refine Lr Tryz.func53 rfl trivial ?_ rfl;simp only[Tryz.ntmps53,F6,Bt,D4,Nat.reduceAdd,Nat.reduceSub,GM,GL,GQ,GN,C6,Di]
 gi_wp2_with fail
 refine⟨trivial,(Em.2 (M.out _)).mono ?_⟩;rintro e w1 ⟨rfl,rfl⟩
 gi_wp2_with fail
 obtain⟨g,d⟩:=Qe w.heap.size;have C:Qg ((w.alloc (.cells #[Qi 0] 3)).alloc (.cells #[.string s] 9)) g #[Qi 0] 3:=Bb _ (Am _ _ _ d.symm);have F:Qg ((w.alloc (.cells #[Qi 0] 3)).alloc (.cells #[.string s] 9)) (g+1) #[.string s] 9:=Am _ _ _ (by simp[d])
 have H:((w.alloc (.cells #[Qi 0] 3)).alloc (.cells #[.string s] 9)).heap.size=g+2:=by simp[d]
 have B:Below g w ((w.alloc (.cells #[Qi 0] 3)).alloc (.cells #[.string s] 9)):=by
  rw[<-d];exact((Ag _ w).alloc (Af _) _).alloc Q6 _
 rw[d];generalize(w.alloc (.cells #[Qi 0] 3)).alloc (.cells #[.string s] 9)=N at*
 refine Ug (n:=D) (ib:=g+1) Z (gf:=164) (lb:=#[.pointer (some ⟨g+1,0,none⟩)]) rfl VA (encs:=Jf) (λ_=>rfl) LY (λk=>k=g)
  (Wk (D-1) Q0 (g+1) s X (λk=>k=g) N F (by show ¬ (g+1=g);omega)) (Ag _ _) Q0
  (λc W=>Boxed W g 3 (Qi (EK c:Nat))/\Below g w W)
  (λ_ _ _=>False)
  (I1 (Ko (boxed_own _ _ (λc:List (List UInt8)=>Qi (EK c:Nat))) _) (Nj Q0 Q0))
  (λc b3 u h=>⟨(Bg _ _ _ _ (by show g≠g+1;omega)).trans h.1,h.2.setCell (p:=⟨g+1,0,none⟩) (by show g<=g+1;omega) u⟩)
  (λ_ _ _ _ _ h _ _=>h)
  ⟨C,B⟩
  (λx v W=>LY x W/\v = { tmps:=#[.string s,undef,.pointer (some ⟨g,0,none⟩),.string ⟨x.toArray⟩,.string s,.func (.func 164) #[] #[.pointer (some ⟨g+1,0,none⟩)],.string ⟨x.toArray⟩,undef,undef,undef,undef,undef,undef],defers:=[] })
  (λx v s W b5 c5 h c3 hr=>h)
  ?assign ?body ?done ?stop
 case assign =>
  intro y c x W b4 V m a3 U;simp only[Jf]
  gi_wp2_with fail
  exact U _ _ (Pz _ _) (Ao.refl _ _) V ⟨m,rfl⟩
 case body =>
  rintro y c x v W ⟨a,f⟩ ⟨m,rfl⟩ a3 b1;have a4:=TJ s.data.toList;have a7:s.data.toList.length=s.size:=by simp
  have J:=UJ c;have b0:(⟨x.toArray⟩:ByteArray).size=x.length:=rfl;have a9:=m.2;have a2:Ea x.length<=5:=by unfold Ea;split<;>omega
  have o:=WP c x;obtain⟨S,G⟩:=Qe (EK c);obtain⟨T,z⟩:=Qe (Ea x.length);obtain⟨L,j⟩:=Qe x.length
  have b2:Hid (∀i,Qk 113 #[Qi L] i λe l=>e=.returned (Qi T)/\i=l):=λi=>by
   have:=Z5 L i Q0
   rw[<-j,z,j] at this;exact this
  rw[G] at a J o;rw[z] at o a2;rw[j] at b0 a9;have Y:=Aa o;have r:=Aa a;have A:=Aa f;have b8:S<=5000000:=Q0
  have b9:=a.cell;have c1:=a.frozen;have c4:Tryz.prog.follows .mixedOrders=true:=Q2
  clear o a f m a4 a7 J G z j b1 C F H B
  gi_wp2
  gi_region_with_o (refine⟨trivial,λ_=>by omega,?_⟩;refine(CallsIn.inRound y (Em.2 (b2.out _))).mono ?_;rintro e l ⟨rfl,rfl⟩)
  all_goals gi_wp2_with fail
  all_goals
   have a8:IntKind.i64.wrap ((S:Int)+(T:Int))=((EK (c++[x]):Nat):Int):=by rw[AU _ Q0,Y.out];omega
   rw[a8];exact⟨((FO W _ _).trans (KeepsOthers.drew _)).from _,λb O t P Q R=>((Ao.refl (λk=>k=g) W).set (q:=⟨g,0,none⟩) rfl _) b O t P Q R,Ak r.out 0 _,(A.out.setCell (p:=⟨g,0,none⟩) (Af g) _).drew⟩
 case done =>
  rintro E xs W b7 rfl ⟨a,f⟩ hd;have c0:=a.cell;have c2:=a.frozen;have r:=Aa a;have A:=Aa f;have K:E≠g:=Q0
  have a1:w.heap.size<=E:=Q0
  clear C F H B a f
  gi_wp2_with fail
  have I:Qh (W.setCell ⟨g,0,none⟩ (Qi ((EK (Ef s.data.toList):Nat):Int))) E (.deferred (some [])):=(Bg _ _ _ _ K).trans hd;have a5:Qg (W.setCell ⟨g,0,none⟩ (Qi ((EK (Ef s.data.toList):Nat):Int))) g #[Qi ((EK (Ef s.data.toList):Nat):Int)] 3:=Ak r.out 0 _;have a0:=A.out.setCell (p:=⟨g,0,none⟩) (Af g) (Qi ((EK (Ef s.data.toList):Nat):Int));refine⟨Q6,.inl ⟨_,_,rfl,J9 I,?_⟩⟩
  have a6:Qg ((W.setCell ⟨g,0,none⟩ (Qi ((EK (Ef s.data.toList):Nat):Int))).putObj E (.deferred none)) g #[Qi ((EK (Ef s.data.toList):Nat):Int)] 3:=(GK (λe=>K e.symm)).trans a5;refine⟨_,L7 rfl _ _ _ _ _ rfl (L8 _ _ _ ((Ae a6 0).trans rfl)),rfl,?_⟩;rw[d];refine a0.trans (Kn (w:=w) (EV d.symm) _ E _ _ a1 I rfl rfl)
 case stop=>exact λ_ _ _ _ _ _ h _=>h.elim
end Go.Proofs.YtoejfkeofbdalaaGreatDoor
namespace Go.Proofs.YtoejfkeofbdalaaGreatDoor
open Go.RowKit
theorem ztJ:∀k:Nat,k<10->(⟨#[48,49,50,51,52,53,54,55,56,57]⟩:ByteArray).extract k (k+1)=⟨#[UInt8.ofNat (48+k)]⟩:=Q5
theorem zoi(n:Nat):n<1000000->∀(w:World),Qk 24 #[Qi (n:Nat)] w λe s=>e=.returned (.string ⟨(Lib.decDigits n).toArray⟩)/\Qb w s:=by
 induction n using Nat.strongRecOn with
 | ind n i =>
   intro t w
   by_cases h:n<10
   ·have p:decide ((n:Int)<10)=true:=Bl Q0
    have g:=ztJ n h;have a:(⟨(Lib.decDigits n).toArray⟩:ByteArray)=⟨#[UInt8.ofNat (48+n)]⟩:=by rw[Lib.decDigits_one h]
    obtain⟨X,b⟩:=Qe ((⟨#[UInt8.ofNat (48+n)]⟩:ByteArray):ByteArray);rw[b] at a g;rw[a];have l:IntKind.i64.wrap ((n:Int)+1)=(n:Int)+1:=AU _ Q0
    have o:(n:Int)+1<=10:=Q0
    clear i b a
    go_enter Tryz.func24,Tryz.ntmps24
    go_wp2_with fail
    go_ret
    exact⟨Q6,Ag _ _⟩
   ·have p:decide ((n:Int)<10)=false:=AV Q0
    obtain⟨q,d⟩:=Qe (n / 10);obtain⟨r,f⟩:=Qe (n%10);have j:=Aa (i q Q0 Q0 w.drew)
    have g:=ztJ r Q0
    have a:(⟨(Lib.decDigits n).toArray⟩:ByteArray)=⟨(Lib.decDigits q).toArray⟩++⟨#[UInt8.ofNat (48+r)]⟩:=by
     rw[VF h,d,f];apply Ov
     simp
    have u:(n:Int).tdiv 10=(q:Int):=by rw[<-d,QR Q0];omega
    have v:(n:Int).tmod 10=(r:Int):=by rw[<-f,KE Q0];omega
    have x:(n:Int)/ 10=(q:Int):=Q0
    have y:(n:Int)%10=(r:Int):=Q0
    obtain⟨X,b⟩:=Qe ((⟨#[UInt8.ofNat (48+r)]⟩:ByteArray):ByteArray);obtain⟨Y,c⟩:=Qe ((⟨(Lib.decDigits q).toArray⟩:ByteArray):ByteArray);have B:X.size=1:=by rw[<-b];rfl
    have C:Y.size<=9:=by rw[<-c];exact Ty Q0
    rw[b,c] at a;rw[b] at g;rw[c] at j;rw[a];have l:IntKind.i64.wrap ((r:Int)+1)=(r:Int)+1:=AU _ Q0
    have z:IntKind.i64.wrap (q:Int)=(q:Int):=AU _ Q0
    have A:IntKind.i64.wrap (r:Int)=(r:Int):=AU _ Q0
    have o:(r:Int)+1<=10:=Q0
    clear i b a c d f
    go_enter Tryz.func24,Tryz.ntmps24
    go_wp2_with fail
    go_region_with
     (first
      |(go_at_call 24
        refine j.out.mono ?_;rintro e l ⟨rfl,k⟩;have m:=Aa (A9 k (Cq (Ag w.heap.size w)));clear k)
      |fail)
    all_goals
     go_wp2_with fail
     go_ret
     exact⟨rfl,m.out⟩
