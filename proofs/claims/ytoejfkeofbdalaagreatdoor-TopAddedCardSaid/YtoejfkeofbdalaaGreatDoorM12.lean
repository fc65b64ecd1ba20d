import Derived.Test.YtoejfkeofbdalaaGreatDoorM09
import Derived.BigRegion
import Derived.Deep.DeepCutAuto
set_option linter.all false
set_option maxRecDepth 100000
set_option maxHeartbeats 8000000
namespace Go.Proofs.YtoejfkeofbdalaaGreatDoor
open Go.RowKit
variable {a:Type}
def Aq(w:World)(g:Nat)(L:List Nat)(E:List Value):Prop:=∃a,Qg w g a 3/\a.toList=C4 (ints L)++E
section
variable {w w':World} {g:Nat} {L:List Nat} {E:List Value}
theorem Aq.cell(h:Aq w g L E)(x p:Nat)(a:L[x]?=some p):Qc w g x (Qi (p:Int)):=by
 obtain⟨e,b,c⟩:=h;have d:=(Cc.1 a).1;rw[Ae b,<-Lj,c,FP (by rw[I5,Bj];exact d),getElem?_intCells]
 simp[ints,a]
theorem Aq.frozen(h:Aq w g L E)(x:Nat):w.frozen? ⟨g,x,none⟩=false:=by
 obtain⟨b,a,c⟩:=h;exact Ah a x
theorem Aq.lt(h:Aq w g L E):g<w.heap.size:=by
 obtain⟨b,a,c⟩:=h;exact Aj a
theorem Aq.same(h:Aq w g L E)(d:w'.heap[g]?=w.heap[g]?):Aq w' g L E:=by
 obtain⟨a,b,c⟩:=h;exact⟨a,d.trans b,c⟩
theorem Aq.below(h:Aq w g L E)(a:Qb w w'):Aq w' g L E:=h.same (a.block g h.lt)
theorem Aq.set(h:Aq w g L E)(x p:Nat)(d:x<L.length):Aq (w.setCell ⟨g,x,none⟩ (Qi (p:Int))) g (L.set x p) E:=by
 obtain⟨e,a,b⟩:=h;refine⟨_,Ak a x _,?_⟩;have c:C4 (ints (L.set x p))=(C4 (ints L)).set x (Qi (p:Int)):=by simp[C4,ints,PI]
 rw[Vl,b,c,List.set_append,if_pos (by rw[I5,Bj];exact d)]
theorem Aq.ints(h:Aq w g L E)(c:Nat)(e:L.length<=c)(d:c<=maxLen):Ac w w.heap.size (Qs g 0 L.length c) (Go.Proofs.YtoejfkeofbdalaaGreatDoor.ints L):=by
 have b:(Go.Proofs.YtoejfkeofbdalaaGreatDoor.ints L).length=L.length:=Bj L;refine⟨by rw[I5,b];omega,_,c,by rw[b],by rw[b];exact e,d,λ_=>⟨g,0,rfl,h.lt,λi u a=>?_⟩⟩
 rw[getElem?_intCells] at a;simp only[Go.Proofs.YtoejfkeofbdalaaGreatDoor.ints,EA] at a;cases hx:L[i]? with
 |none=>rw[hx] at a;simp at a
 | some p =>
   rw[hx] at a;rw[DC,h.cell i p hx];simpa using a
theorem Aq.swap(h:Aq w g L E)(x y p q:Nat)(a:x<L.length)(b:y<L.length) :
 Aq (((w.setCell ⟨g,x,none⟩ (Qi (p:Int))).setCell ⟨g,y,none⟩ (Qi (q:Int))).drew) g ((L.set x p).set y q) E :=
 (((h.set x p a).set y q (by simpa using b))).same rfl
theorem Um{a:World}(h:Ab g a w)(x y:Nat)(u v:Value):Ab g a (((w.setCell ⟨g,x,none⟩ u).setCell ⟨g,y,none⟩ v).drew):=by
 have:=(h.set x u).set y v;exact⟨this.os,this.tape,this.output,this.size,this.block⟩
end
theorem VC(w:World)(g n T:Nat)(M:Value)(P A Q B S:List Nat)(E:List Value)(a b k:Nat)(z:Aq w g (P++(A++(Q++(B++S)))) E)(s:A.length=k)(t:B.length=k)
 (u:P.length=a) (v:a+k+Q.length=b) (j:(P++(A++(Q++(B++S)))).length=n) (a3:n<=1000000) :
 Qk 307 #[Qs g 0 n T,Qi a,Qi b,Qi k,M] w λe w'=>e=.returned (.tuple #[])/\Aq w' g (P++(B++(Q++(A++S)))) E/\Ab g w w':=by
 have r:=Aa z;have f:=Aa s;have m:=Aa t;have o:=Aa u;have J:a+k+Q.length+k+S.length=n:=by rw[<-j];simp;omega
 have a2:b+k<=n:=Q0
 have a1:a+k<=b:=Q0
 have I:=Aa v;have H:=Aa j;clear z s t u v j J
 go_enter Tryz.func307,Tryz.ntmps307
 go_wp2_with fail
 go_loopw [10] (λl wr=>∃(i:Nat)(L:List Nat),i<=k/\l=Qi i/\Hid (Cb P A Q B S i L)/\Hid (Aq wr g L E)/\Hid (Ab g w wr)) (λl _=>k+1-(intOf l).toNat)
 case atStart=>exact⟨0,_,BI _,rfl,Cb.start P A Q B S,r.out,Ab.refl _ _⟩
 case round =>
  obtain⟨i,L,Y,rfl,d,c,h⟩:=hrel
  by_cases G:i<k
  ·have a0:L.length=n:=by rw[d.out.length,<-H.out];simp;omega
   obtain⟨x,y,C,D,F⟩:=d.out.step (by rw[f.out];exact G) (by rw[m.out];exact G) (p:=a+i) (q:=b+i) (by rw[o.out]) (by rw[o.out,f.out,I.out])
   have U:=c.out.cell _ _ C;have V:=c.out.cell _ _ D;have W:=c.out.frozen (a+i);have X:=c.out.frozen (b+i);have O:=Aa (c.out.swap (a+i) (b+i) y x Q0 Q0)
   have N:=Aa (Um h.out (a+i) (b+i) (Qi (y:Int)) (Qi (x:Int)));have R:=Aa F;have m1:¬ a+i=b+i:=Q0
   have m2:¬ b+i=a+i:=Q0
   have w1:IntKind.i64.wrap ((a:Int)+(i:Int))=((a+i:Nat):Int):=by rw[AU _ Q0];omega
   have w2:IntKind.i64.wrap ((b:Int)+(i:Int))=((b+i:Nat):Int):=by rw[AU _ Q0];omega
   have Z:a+i<n:=Q0
   have l2:b+i<n:=Q0
   clear d c h r F C D;generalize a+i=p at*
   generalize b+i=q at*
   go_wp2_with fail
   go_region
   go_wp2_with fail
   go_roundw
   case rel=>exact⟨i+1,_,Q0,by go_num,R,O,N⟩
   case measure=>simp[intOf];omega
  ·obtain rfl:i=k:=Q0
   have K:=d.out.end_ f.out m.out;subst K
   go_wp2_with fail
   exact Fu (Dw rfl _ _ _) rfl ⟨rfl,c.out,h.out⟩
theorem zr5(w:World)(g n r:Nat)(q:Value)(X U V Y:List Nat)(E:List Value)(a m b:Nat)(R:Aq w g (X++(U++(V++Y))) E)
 (ha:X.length=a) (hm:a+U.length=m) (hb:m+V.length=b) (a2:0<U.length) (a3:0<V.length) (O:(X++(U++(V++Y))).length=n) (K:n<=1000000) :
 Qk 279 #[Qs g 0 n r,Qi a,Qi m,Qi b,q] w λe w'=>e=.returned (.tuple #[])/\Aq w' g (X++(V++(U++Y))) E/\Ab g w w':=by
 have d:=Aa R;have f:Hid (BP (X++(V++(U++Y))) m (m-a) (b-m) (X++(U++(V++Y)))):=⟨X,U,V,Y,rfl,Q0,Q0,Q0,rfl⟩
 have a7:b<=n:=by rw[<-O];simp;omega
 have a6:a<m:=Q0
 have a9:m<b:=Q0
 have a4:(X++(V++(U++Y))).length=n:=by rw[<-O];simp;omega
 have w1:IntKind.i64.wrap ((m:Int)-(a:Int))=((m-a:Nat):Int):=by rw[AU _ Q0];omega
 have w2:IntKind.i64.wrap ((b:Int)-(m:Int))=((b-m:Nat):Int):=by rw[AU _ Q0];omega
 obtain⟨T,I⟩:=Qe (m-a);obtain⟨W,J⟩:=Qe (b-m);have h1:0<T:=Q0
 have h2:0<W:=Q0
 rw[I,J] at f;rw[I] at w1;rw[J] at w2;generalize X++(V++(U++Y))=a0 at*
 generalize X++(U++(V++Y))=a1 at*
 clear R ha hm hb a2 a3 I J
 go_enter Tryz.func279,Tryz.ntmps279
 go_wp2_with fail
 go_loopw [10,11] (λD F wr=>∃(i j:Nat)(L:List Nat),D=Qi i/\F=Qi j/\0<i/\0<j/\Hid (BP a0 m i j L)/\Hid (Aq wr g L E)/\Hid (Ab g w wr)) (λD F _=>(intOf D).toNat+(intOf F).toNat)
 case atStart=>exact⟨T,W,a1,rfl,rfl,h1,h2,f,d.out,Ab.refl _ _⟩
 case round =>
  clear f d w1 w2;obtain⟨i,j,L,rfl,rfl,hi,hj,f,d,t⟩:=hrel;have u:=f.out.length;rw[a4] at u;have s:=u.1;have a8:=u.2.1;have a5:=u.2.2;rw[s] at a5;clear u;have w3:IntKind.i64.wrap ((m:Int)-(i:Int))=((m-i:Nat):Int):=by rw[AU _ Q0];omega
  rcases KJ i j with z|z|z
  ·obtain⟨P,A,Q,B,S,rfl,l,h,C,k,_,y⟩:=f.out.less z
   have c:Hid (Qk 307 #[Qs g 0 n r,Qi ((m-i:Nat):Int),Qi ((m+j-i:Nat):Int),Qi (i:Int),q] wr λe w'=>e=.returned (.tuple #[])/\Aq w' g (P++(B++(Q++(A++S)))) E/\Ab g wr w') :=
    VC wr g n r q P A Q B S E (m-i) (m+j-i) i d.out h k l Q0 s K
   have H:=Aa y;have w4:IntKind.i64.wrap ((m:Int)+(j:Int))=(m:Int)+(j:Int):=AU _ Q0
   have w5:IntKind.i64.wrap ((m:Int)+(j:Int)-(i:Int))=((m+j-i:Nat):Int):=by rw[AU _ Q0];omega
   have w6:IntKind.i64.wrap ((j:Int)-(i:Int))=((j-i:Nat):Int):=by rw[AU _ Q0];omega
   have M:((i:Int)==(j:Int))=false:=by simp;omega
   have d2:decide ((j:Int)<(i:Int))=false:=AV Q0
   have m1:(i+(j-i))<i+j:=Q0
   have G:0<j-i:=Q0
   clear d y h k l C s;generalize m-i=Z at*
   generalize m+j-i=mj at*
   generalize j-i=ji at*
   go_wp2_with fail
   refine c.out.mono ?_;rintro e w' ⟨rfl,p,o⟩;have x:=Aa p;have v:=Aa (t.out.trans o);clear p o c t
   go_wp2_with fail
   go_roundw
   case rel=>exact⟨i,ji,_,rfl,rfl,hi,G,H,x,v⟩
   case measure=>simp[intOf];omega
  ·subst z
   obtain⟨P,A,B,S,rfl,l,h,k,_,N⟩:=f.out.last
   have c:Hid (Qk 307 #[Qs g 0 n r,Qi ((m-i:Nat):Int),Qi (m:Int),Qi (i:Int),q] wr λe w'=>e=.returned (.tuple #[])/\Aq w' g (P++(B++([]++(A++S)))) E/\Ab g wr w') :=
    VC wr g n r q P A [] B S E (m-i) m i d.out h k l Q4 s K
   rw[<-N] at c;have M:((i:Int)==(i:Int))=true:=by simp
   clear d h k l s N;generalize m-i=Z at*
   go_wp2_with fail
   refine c.out.mono ?_;rintro e w' ⟨rfl,p,o⟩;have x:=Aa p;have v:=Aa (t.out.trans o);clear p o c t
   go_wp2_with fail
   exact Fu (Dw rfl _ _ _) rfl ⟨rfl,x.out,v.out⟩
  ·obtain⟨P,A,Q,B,S,rfl,l,h,C,k,_,y⟩:=f.out.more z
   have c:Hid (Qk 307 #[Qs g 0 n r,Qi ((m-i:Nat):Int),Qi (m:Int),Qi (j:Int),q] wr λe w'=>e=.returned (.tuple #[])/\Aq w' g (P++(B++(Q++(A++S)))) E/\Ab g wr w') :=
    VC wr g n r q P A Q B S E (m-i) m j d.out h k l Q0 s K
   have H:=Aa y;have w6:IntKind.i64.wrap ((i:Int)-(j:Int))=((i-j:Nat):Int):=by rw[AU _ Q0];omega
   have M:((i:Int)==(j:Int))=false:=by simp;omega
   have d2:decide ((j:Int)<(i:Int))=true:=Bl Q0
   have m1:((i-j)+j)<i+j:=Q0
   have G:0<i-j:=Q0
   clear d y h k l C s;generalize m-i=Z at*
   generalize i-j=ij at*
   go_wp2_with fail
   refine c.out.mono ?_;rintro e w' ⟨rfl,p,o⟩;have x:=Aa p;have v:=Aa (t.out.trans o);clear p o c t
   go_wp2_with fail
   go_roundw
   case rel=>exact⟨ij,j,_,rfl,rfl,G,hj,H,x,v⟩
   case measure=>simp[intOf];omega
def Eh(b:World)(g q M:Nat)(a:Nat->Nat->Bool):Prop:=∀W,Ab g b W->∀x y,x<M->y<M ->
 Qk 146 #[Qi x,Qi y,Qp q 0] W λe w'=>∃c:Int,e=.returned (Qi c)/\decide (c<0)=a x y/\Qb W w'
theorem Eh.only{b v:World}{g m k:Nat}{a:Nat->Nat->Bool}(h:Eh b g m k a)(d:Ab g b v):Eh v g m k a:=λW c=>h W (d.trans c)
abbrev Io(q:Nat):Value:=.func (.func 146) #[] #[.pointer (some ⟨q,0,none⟩)]
theorem Zw(w:World)(g n e3 q M:Nat)(G:Nat->Nat->Bool)(R:Nat->Nat->Prop)(ht:∀x b1 b2,R x b1->R b1 b2->R x b2)(X U Y:List Nat)(E:List Value)(a b:Nat)(D:Aq w g (X++(U++Y)) E)
 (ha:X.length=a) (hb:a+U.length=b) (hn:(X++(U++Y)).length=n) (g5:n<=1000000) (b7:U.Pairwise (IB R G)) (b6:∀x∈U,x<M) (hc:Eh w g q M G) :
 Qk 252 #[Qs g 0 n e3,Qi a,Qi b,Io q] w λe w'=>e=.returned (.tuple #[])/\(∃L,Aq w' g (X++(L++Y)) E/\L.Perm U/\L.Pairwise R)/\Ab g w w':=by
 have f:=Aa D;have a0:=Aa ha;have a1:=Aa hb;have d4:=Aa hn;have d5:=Aa b7;have b3:=Aa b6;have d3:=Aa hc;have b4:=Aa ht;have g1:b<=n:=by rw[<-hn];simp;omega
 have f9:a<=b:=Q0
 clear D ha hb hn b7 b6 hc ht;unfold Io
 go_enter Tryz.func252,Tryz.ntmps252
 go_wp2_with fail
 go_loopw [8] (λiv wr=>∃(d:Nat)(L:List Nat),iv=Qi ((a+d:Nat):Int)/\1<=d/\a+d<=b+1/\Hid (Aq wr g (X++(L++(U.drop d++Y))) E)/\Hid (L.Perm (U.take d))/\Hid (L.Pairwise R)/\Hid (Ab g w wr)) (λiv _=>b+1-(intOf iv).toNat)
 case atStart =>
  refine⟨1,U.take 1,by go_num,Af _,Q0,?_,KL _,?_,Ab.refl _ _⟩
  ·show Aq _ _ _ _
   rw[<-BN (U.take 1),Er];exact f.out
  ·cases U with
   |nil=>exact List.Pairwise.nil
   |cons x U=>exact SK _ _
 case round =>
  clear f;obtain⟨d,L,rfl,e7,e8,f,r,a2,l⟩:=hrel
  by_cases f3:a+d<b
  ·have a6:=a1.out
   obtain⟨v,z⟩:∃v,U[d]?=some v:=⟨_,Az Q0⟩
   have a7:U.drop d=v::U.drop (d+1):=by
    rw[IJ Q0]
    congr 1
    rw[Az Q0] at z
    exact JN z
   have c5:L.length=d:=by rw[r.out.length_eq,BO];omega
   have c7:∀x∈L,IB R G x v:=by
    intro x hx;obtain⟨i,g2,e9⟩:=List.mem_take_iff_getElem.1 (r.out.mem_iff.1 hx);obtain⟨P,O⟩:=Cc.1 z;rw[<-e9,<-O];exact Oe.1 d5.out i d Q0 P Q0
   have f4:v<M:=b3.out v (Cn z);have c4:∀x∈L,x<M:=λx hx=>b3.out x (Ls (r.out.mem_iff.1 hx));have d8:=Aa c7;have d9:=Aa c4;have b5:=Aa z;have f8:=Aa a7;have b9:=Aa c5;clear c7 c4 z a6 c5;rw[a7] at f;have f:=Aa f.out;clear a7;obtain⟨i,hi⟩:=Qe (a+d);rw[hi] at f3 e8 |-;have t:=Aa hi;have g0:a<i:=Q0
   clear hi e7
   go_wp2_with fail
   go_loopw [9] (λjv wq=>∃(j:Nat)(K:List Nat),jv=Qi (j:Int)/\a<=j/\j<=i/\Hid (Du R X L (U.drop (d+1)++Y) v j K)/\Hid (Aq wq g K E)/\Hid (Ab g w wq)) (λjv _=>(intOf jv).toNat)
   case atStart =>
    refine⟨i,_,rfl,Q0,Af _,?_,f.out,l.out⟩
    exact Du.start R (by rw[a0.out,b9.out];exact t.out)
   case round =>
    clear f l;obtain⟨j,K,rfl,g3,g4,u,f,l⟩:=hrel
    by_cases f0:a<j
    ·have e6:X.length<j:=by rw[a0.out];exact f0
     obtain⟨x,c9,H,d0,c8⟩:=u.out.step d8.out e6
     have c3:K.length=n:=by
      obtain⟨U1,k,h,m,o,_⟩:=u.out;have h1:=Co List.length h;have h2:=d4.out;have h3:=b9.out;have h4:=a1.out;have h5:=t.out;rw[o];simp only[AJ,Bt,D9] at h1 h2 |-;omega
     have f5:x<M:=by
      obtain⟨U1,k,h,m,o,_⟩:=u.out
      have f6:x∈L:=by
       rw[o] at H
       have h1:(X++(U1++(v::(k++(U.drop (d+1)++Y)))))[j-1]?=(U1)[j-1-X.length]?:=by
        rw[F7 Q0,FP Q0]
       rw[h1] at H;rw[h];exact Ol _ (Cn H)
      exact d9.out x f6
     have cv:=f.out.cell _ _ c9;have cx:=f.out.cell _ _ H;have Z:=f.out.lt;have Q:Hid (∀W,Qb wr W->Qk 146 #[Qi v,Qi x,Qp q 0] W λe w'=>∃c:Int,e=.returned (Qi c)/\decide (c<0)=G v x/\Qb W w'):=λW d7=>d3.out W (l.out.trans (Ab.of d7)) v x f4 f5;have B:Hid (∀{y:World},Qb wr y->Qc y g j (Qi (v:Int))/\Qc y g (j-1) (Qi (x:Int))):=λb0=>⟨(b0.cell (p:=⟨g,j,none⟩) Z).trans cv,(b0.cell (p:=⟨g,j-1,none⟩) Z).trans cx⟩;have J:Qb wr wr:=Ag _ _;have w1:IntKind.i64.wrap ((j:Int)-1)=((j-1:Nat):Int):=by rw[AU _ Q0];omega
     have l1:j<n:=Q0
     have l2:j-1<n:=Q0
     have d1:decide ((a:Int)<(j:Int))=true:=Bl Q0
     have m1:¬ j=j-1:=Q0
     have m2:¬ j-1=j:=Q0
     have m3:a<=j-1:=Q0
     have m4:j-1<=i:=Q0
     have m5:j-1<j:=Q0
     have V:=Aa d0;have T:=Aa c8;have b8:=Aa c3;clear d0 c8 c9 H c3 u;obtain⟨d2,D⟩:=Qe (G v x);rw[D] at Q V T;clear D;generalize j-1=F at*
     go_wp2_with fail
     go_region_held3 (λy=>Qc y g j (Qi (v:Int))/\Qc y g F (Qi (x:Int)))
      ((first|exact B.out J.drew|exact B.out s.out|fail))
      ((first
        |(go_at_call 146
          refine(Q.out _ J.drew).mono ?_;rintro e w8 ⟨c,rfl,c6,c0⟩;have s:=Aa (A9 c0 J.drew);have S:=Aa c6;clear c0 c6)
        |fail))
     rename_i f7
     clear f7;have a3:=Aa (l.out.trans (Ab.of s.out));have A:=Aa (f.out.below s.out);cases d2 with
     | true =>
       have c1:=(B.out s.out).1;have c2:=(B.out s.out).2;have f1:=A.out.frozen j;have f2:=A.out.frozen F;have e1:=Aa (A.out.swap j F x v (by rw[b8.out];exact l1) (by rw[b8.out];exact l2))
       have e0:=Aa (Um a3.out j F (Qi (x:Int)) (Qi (v:Int)));have e2:=Aa (V.out rfl);rw[S.out];clear A a3 f l B Q s T V cv cx J S Z
       go_wp2_with fail
       go_region
       go_wp2_with fail
       go_roundw
       case rel=>exact⟨F,_,by go_num,m3,m4,e2,e1,e0⟩
       case measure=>simp[intOf];omega
     | false =>
       obtain⟨U1,k,h,m,o,d6,C,e5⟩:=T.out rfl;rw[S.out];have N:(U1++v::k).Pairwise R:=Yd b4.out (by rw[<-h];exact a2.out) o (.inr ⟨d6,x,C,e5⟩)
       have I:(U1++v::k).Perm (U.take (d+1)):=by
        obtain⟨P,O⟩:=Cc.1 b5.out;rw[Ep P,O];refine List.perm_middle.trans (((h ▸ r.out).cons v).trans ?_);exact MW (l₁:=[v])
       rw[m] at A;have a5:=Aa N;have a4:=Aa I;have a8:a+(d+1)<=b+1:=by have:=t.out;omega
       have a9:i+1=a+(d+1):=by have:=t.out;omega
       clear f l B Q s T V cv cx J S Z h m o C e5 N I
       go_wp2_with fail
       go_roundw
       case rel =>
        refine⟨d+1,U1++v::k,?_,Q0,a8,?_,a4,a5,a3⟩
        ·rw[<-a9];go_num
        ·show Aq _ _ _ _
         have:=A.out;simpa using this
       case measure=>simp[intOf];omega
    ·obtain rfl:j=a:=Q0
     obtain⟨U1,k,h,m,o,C⟩:=u.out;have e4:U1=[]:=Ey (by have:=a0.out;omega)
     subst e4;have N:(v::k).Pairwise R:=Yd (U1:=[]) b4.out (by rw[<-h];exact a2.out) C (.inl rfl)
     have I:(v::k).Perm (U.take (d+1)):=by
      obtain⟨P,O⟩:=Cc.1 b5.out;rw[Ep P,O];have hl:=r.out;rw[h] at hl;refine((C6 k ▸ hl).cons v).trans ?_;exact MW (l₁:=[v])
     rw[o] at f;have a5:=Aa N;have a4:=Aa I;have a8:j+(d+1)<=b+1:=by have:=t.out;omega
     have a9:i+1=j+(d+1):=by have:=t.out;omega
     have d1:decide ((j:Int)<(j:Int))=false:=AV Q0
     clear h m o C N I u
     go_wp2_with fail
     go_region
     go_wp2_with fail
     go_roundw
     case rel =>
      refine⟨d+1,v::k,?_,Q0,a8,?_,a4,a5,(l.out.trans (Ab.of (EW (Ag _ _) 1)))⟩
      ·rw[<-a9];go_num
      ·show Aq _ _ _ _
       have:=f.out;simpa using this.same (w':=wr.drew) rfl
     case measure=>simp[intOf];omega
  ·have a6:=a1.out
   have h:U.take d=U:=BR Q0
   have m:U.drop d=[]:=Gm Q0
   rw[h] at r;rw[m,C6] at f;have dd:decide (((a+d:Nat):Int)<(b:Int))=false:=AV Q0
   clear h m a6
   go_wp2_with fail
   exact Fu (Dw rfl _ _ _) rfl ⟨rfl,⟨L,f.out,r.out,a2.out⟩,l.out⟩
theorem zyY(X V Y:List a)(u:a)(d:Nat)(h:d<V.length)(k:Nat)(j:k=X.length+d) :
 ∃y,(X++(V.take d++(u::(V.drop d++Y))))[k]?=some u/\(X++(V.take d++(u::(V.drop d++Y))))[k+1]?=some y/\V[d]?=some y /\
  ((X++(V.take d++(u::(V.drop d++Y)))).set k y).set (k+1) u=X++(V.take (d+1)++(u::(V.drop (d+1)++Y))):=by
 have e:V.drop d=V[d]::V.drop (d+1):=IJ h;have i:V.take (d+1)=V.take d++[V[d]]:=Ep h;have f:(X++V.take d).length=k:=by simp;omega
 refine⟨V[d],?_,?_,Q6,?_⟩
 ·rw[<-BN];exact LG f.symm
 ·rw[e,show X++(V.take d++u::(V[d]::V.drop (d+1)++Y))=(X++(V.take d++[u]))++V[d]::(V.drop (d+1)++Y) by simp only[BN,Di,C6]]
  exact LG Q4
 ·rw[i,show V.drop d++Y=V[d]::(V.drop (d+1)++Y) by rw[e];rfl]
  have b:=MJ (L:=X++V.take d) (M:=V[d]::(V.drop (d+1)++Y)) (x:=u) V[d] (k:=k) f.symm;have c:=MJ (L:=X++(V.take d++[V[d]])) (M:=V.drop (d+1)++Y) (x:=V[d]) u (k:=k+1) Q4
  simp only[BN,Di,C6] at b c |-;rw[b,c]
theorem zsp(w:World)(g n e0 q M:Nat)(r:Nat->Nat->Bool)(R:Nat->Nat->Prop)(ht:∀x y a9,R x y->R y a9->R x a9)(X V Y:List Nat)(u:Nat)(E:List Value)(a m b:Nat)(C:Aq w g (X++(u::(V++Y))) E)
 (T:X.length=a) (hm:a+1=m) (U:m+V.length=b) (hn:(X++(u::(V++Y))).length=n) (f4:n<=1000000) (b5:V.Pairwise R) (b3:∀y∈V,IB R r u y) (hu:u<M) (b4:∀x∈V,x<M) (hc:Eh w g q M r) :
 Qk 253 #[Qs g 0 n e0,Qi a,Qi m,Qi b,Io q] w λe w'=>e=.returned (.tuple #[])/\(∃L,Aq w' g (X++(L++Y)) E/\L.Perm (u::V)/\L.Pairwise R)/\Ab g w w':=by
 have e8:b<=n:=by rw[<-hn];simp;omega
 have a4:∀i (h:i<V.length),(X++(u::(V++Y)))[m+i]?.getD 0=V[i]:=by
  intro i h;rw[F7 Q0,show m+i-X.length=i+1 by omega,Me,FP h,Az h]
  rfl
 have d0:∀c,m<=c->c<b->(X++(u::(V++Y)))[c]?=some ((X++(u::(V++Y)))[c]?.getD 0)/\(X++(u::(V++Y)))[c]?.getD 0<M:=by
  intro c Q h2;have h3:=a4 (c-m) Q0
  rw[show m+(c-m)=c by omega] at h3
  refine⟨?_,by rw[h3];exact b4 _ (Et _)⟩
  rw[Az Q0]
  rfl
 have c1:(X++(u::(V++Y)))[a]?=some u:=LG T.symm
 have P:Hid (∀k,Bu (λc=>r ((X++(u::(V++Y)))[c]?.getD 0) u) m b k k->m<=k/\k-m<=V.length/\(V.take (k-m)++u::V.drop (k-m)).Perm (u::V)/\(V.take (k-m)++u::V.drop (k-m)).Pairwise R):=λk B =>
  znu R ht r b5 (λy hy=>b3 y hy) (λc=>(X++(u::(V++Y)))[c]?.getD 0) a4 (by rw[U];exact B)
 have a0:=Aa d0;have b6:=Aa c1;have f:=Aa C;have b2:=Aa hn;have d9:=Aa T;have d4:=Aa U;have d5:=Aa hc;have e4:m<=b:=Q0
 have e7:a<m:=Q0
 have d8:=Aa hm;obtain⟨K,S⟩:=Qe (X++(u::(V++Y)));have b1:=Aa S;rw[S] at P a0 b6 f b2;have w0:IntKind.i64.wrap ((m:Int)-(a:Int))=1:=by rw[AU _ Q0];omega
 have e5:((b:Int)-(m:Int)=1)↔b=m+1:=Q0
 clear C T U hn b5 b3 b4 hc a4 d0 c1 S ht e5 hm;unfold Io
 go_enter Tryz.func253,Tryz.ntmps253
 go_wp2_with fail
 go_loopw [10,11] (λiv jv wr=>∃i j:Nat,iv=Qi i/\jv=Qi j/\Hid (Bu (λc=>r (K[c]?.getD 0) u) m b i j)/\Hid (Aq wr g K E)/\Hid (Ab g w wr)) (λiv jv _=>(intOf jv-intOf iv).toNat)
 case atStart=>exact⟨m,b,rfl,rfl,Bu.start _ e4,f.out,Ab.refl _ _⟩
 case round =>
  clear f;obtain⟨i,j,rfl,rfl,o,f,l⟩:=hrel;obtain⟨e9,e3,f0⟩:m<=i/\i<=j/\j<=b:=⟨o.out.1,o.out.2.1,o.out.2.2.1⟩
  by_cases f3:i<j
  ·obtain⟨h,hh⟩:=Qe ((i+j)/ 2)
   have c6:i<=h:=Q0
   have c5:h<j:=Q0
   have hz:((i:Int)+(j:Int))/ 2=(h:Int):=Q0
   clear hh;obtain⟨a6,c9⟩:=a0.out h Q0 Q0
   obtain⟨x,hx⟩:=Qe (K[h]?.getD 0);have a8:=o.out.up c6 c5;have a5:=o.out.down c6 c5;rw[hx] at a6 c9 a8 a5;have A:=f.out.cell _ _ a6;have t:=f.out.cell _ _ b6.out;have O:=f.out.lt;have H:Hid (∀W,Qb wr W->Qk 146 #[Qi x,Qi u,Qp q 0] W λe w'=>∃c:Int,e=.returned (Qi c)/\decide (c<0)=r x u/\Qb W w'):=λW d6=>d5.out W (l.out.trans (Ab.of d6)) x u c9 hu;have J:Hid (∀{s:World},Qb wr s->Qc s g h (Qi (x:Int))/\Qc s g a (Qi (u:Int))):=λh0=>⟨(h0.cell (p:=⟨g,h,none⟩) O).trans A,(h0.cell (p:=⟨g,a,none⟩) O).trans t⟩;have G:Qb wr wr:=Ag _ _;have l1:h<n:=Q0
   have l2:a<n:=Q0
   have N:=Aa a8;have I:=Aa a5;clear a8 a5 a6 hx o;obtain⟨d3,C⟩:=Qe (r x u);rw[C] at H N I;clear C
   go_wp2_with fail
   go_region_held3 (λs=>Qc s g h (Qi (x:Int))/\Qc s g a (Qi (u:Int)))
    ((first|exact J.out G.drew|exact J.out D.out|fail))
    ((first
      |(go_at_call 146
        refine(H.out _ G.drew).mono ?_;rintro e w8 ⟨c,rfl,c2,c0⟩;have D:=Aa (A9 c0 G.drew);have a1:=Aa c2;clear c0 c2)
      |fail))
   have b8:=Aa (l.out.trans (Ab.of D.out));have b9:=Aa (f.out.below D.out);rw[a1.out];cases d3 with
   | true =>
     have a2:=Aa (N.out rfl);clear f l J H D I N A t G a1 O
     go_wp2_with fail
     go_roundw
     case rel=>exact⟨h+1,j,by go_num,rfl,a2,b9,b8⟩
     case measure=>simp[intOf];omega
   | false =>
     have a2:=Aa (I.out rfl);clear f l J H D I N A t G a1 O
     go_wp2_with fail
     go_roundw
     case rel=>exact⟨i,h,rfl,rfl,a2,b9,b8⟩
     case measure=>simp[intOf];omega
  ·obtain rfl:i=j:=Q0
   have d1:=P.out i o.out;have w1:IntKind.i64.wrap ((i:Int)-1)=(i:Int)-1:=AU _ Q0
   have b0:=Aa d1;clear d1 o P a0 e3
   go_wp2_with fail
   go_loopw [13] (λkv wr=>∃d:Nat,kv=Qi ((a+d:Nat):Int)/\d+m<=i/\Hid (Aq wr g (X++(V.take d++(u::(V.drop d++Y)))) E)/\Hid (Ab g w wr)) (λkv _=>(i-(intOf kv).toNat))
   case atStart =>
    refine⟨0,rfl,Q0,?_,l⟩
    show Aq _ _ _ _
    rw[Nh,C6,Ni,b1.out];exact f.out
   case round =>
    clear f l;obtain⟨d,rfl,hd,f,l⟩:=hrel
    by_cases e6:d+m<i
    ·obtain⟨y,c3,c4,e2,d2⟩:=zyY X V Y u d (by have:=d4.out;omega) (a+d) (by rw[d9.out])
     have e1:(X++(V.take d++(u::(V.drop d++Y)))).length=n:=by
      have Q:=b2.out;rw[<-b1.out] at Q;rw[<-Q];have h2:=Co List.length (Er d V);simp only[AJ,Bt] at h2 |-;omega
     have A:=f.out.cell _ _ c3;have t:=f.out.cell _ _ c4;have f1:=f.out.frozen (a+d);have f2:=f.out.frozen (a+d+1);have c8:a+d+1<n:=Q0
     have z:=f.out.swap (a+d) (a+d+1) y u Q0 Q0
     rw[d2] at z;have z:=Aa z;have a3:=Aa (Um l.out (a+d) (a+d+1) (Qi (y:Int)) (Qi (u:Int)));have B:decide (((a+d:Nat):Int)<(i:Int)-1)=true:=Bl Q0
     have c7:a+d+1<=i:=Q0
     have Z:a+(d+1)=a+d+1:=rfl;clear f l c3 c4 e2 d2 e1;obtain⟨k,F⟩:=Qe (a+d);rw[F] at A t f1 f2 c8 z a3 B c7 Z |-;have m1:¬ k=k+1:=Q0
     have m2:¬ k+1=k:=Q0
     have w2:IntKind.i64.wrap ((k:Int)+1)=((k+1:Nat):Int):=by rw[AU _ Q0];omega
     have l1:k<n:=Q0
     obtain⟨k1,a7⟩:=Qe (k+1);rw[a7] at t f2 c8 z a3 c7 Z m1 m2 w2;have d7:=Aa a7;clear a7 F
     go_wp2_with fail
     go_region
     go_wp2_with fail
     go_roundw
     case rel=>exact⟨d+1,by rw[Z],Q0,z,a3⟩
     case measure=>have:=d7.out;simp[intOf];omega
    ·have hf:=b0.out
     rw[show i-m=d by omega] at hf
     have b7:=Aa hf;have B:decide (((a+d:Nat):Int)<(i:Int)-1)=false:=AV (by have:=d8.out;omega)
     clear hf b0 e6 hd;obtain⟨k,F⟩:=Qe (a+d);rw[F] at B |-;clear F
     go_wp2_with fail
     refine BV (v:=.tuple #[]) (Dw rfl _ _ _) rfl ⟨rfl,⟨_,?_,b7.out.2.2.1,b7.out.2.2.2⟩,l.out⟩;have:=f.out;simpa using this
theorem zwa(X U Y:List a)(v:a)(d:Nat)(h:d<U.length)(k:Nat)(j:k=X.length+d) :
 ∃y,(X++(U.take (d+1)++(v::(U.drop (d+1)++Y))))[k+1]?=some v/\(X++(U.take (d+1)++(v::(U.drop (d+1)++Y))))[k]?=some y/\U[d]?=some y /\
  ((X++(U.take (d+1)++(v::(U.drop (d+1)++Y)))).set (k+1) y).set k v=X++(U.take d++(v::(U.drop d++Y))):=by
 have f:U.drop d++Y=U[d]::(U.drop (d+1)++Y):=by rw[IJ h];rfl
 have e:U.take (d+1)=U.take d++[U[d]]:=Ep h;have i:(X++U.take d).length=k:=by simp;omega
 refine⟨U[d],?_,?_,Q6,?_⟩
 ·rw[<-BN];exact LG Q4
 ·rw[e,show X++(U.take d++[U[d]]++v::(U.drop (d+1)++Y))=(X++U.take d)++U[d]::(v::(U.drop (d+1)++Y)) by simp only[BN,Di,C6]]
  exact LG Q0
 ·rw[e,f]
  have b:=MJ (L:=X++(U.take d++[U[d]])) (M:=U.drop (d+1)++Y) (x:=v) U[d] (k:=k+1) Q4
  have c:=MJ (L:=X++U.take d) (M:=U[d]::(U.drop (d+1)++Y)) (x:=U[d]) v (k:=k) i.symm;simp only[BN,Di,C6] at b c |-;rw[b,c]
theorem zpG(w:World)(g n e3 q M:Nat)(r:Nat->Nat->Bool)(R:Nat->Nat->Prop)(ht:∀x y b0,R x y->R y b0->R x b0)(X U Y:List Nat)(v:Nat)(E:List Value)(a m b:Nat)(B:Aq w g (X++(U++(v::Y))) E)
 (ha:X.length=a) (hm:a+U.length=m) (hb:m+1=b) (H:2<=U.length) (hn:(X++(U++(v::Y))).length=n) (f7:n<=1000000) (b6:U.Pairwise R) (b4:∀x∈U,IB R r x v) (hv:v<M) (b5:∀x∈U,x<M) (hc:Eh w g q M r) :
 Qk 253 #[Qs g 0 n e3,Qi a,Qi m,Qi b,Io q] w λe w'=>e=.returned (.tuple #[])/\(∃L,Aq w' g (X++(L++Y)) E/\L.Perm (U++[v])/\L.Pairwise R)/\Ab g w w':=by
 have f0:b<=n:=by rw[<-hn];simp;omega
 have a5:∀i (h:i<U.length),(X++(U++(v::Y)))[a+i]?.getD 0=U[i]:=by
  intro i h;rw[F7 Q0,show a+i-X.length=i by omega,FP h,Az h]
  rfl
 have d4:∀c,a<=c->c<m->(X++(U++(v::Y)))[c]?=some ((X++(U++(v::Y)))[c]?.getD 0)/\(X++(U++(v::Y)))[c]?.getD 0<M:=by
  intro c S H;have h3:=a5 (c-a) Q0
  rw[show a+(c-a)=c by omega] at h3
  refine⟨?_,by rw[h3];exact b5 _ (Et _)⟩
  rw[Az Q0]
  rfl
 have c3:(X++(U++(v::Y)))[m]?=some v:=by rw[<-BN];exact LG Q4
 have Q:Hid (∀k,Bu (λc=>!r v ((X++(U++(v::Y)))[c]?.getD 0)) a m k k->a<=k/\k-a<=U.length/\(U.take (k-a)++v::U.drop (k-a)).Perm (U++[v])/\(U.take (k-a)++v::U.drop (k-a)).Pairwise R):=λk Z =>
  zwp R ht r b6 (λy hy=>b4 y hy) (λc=>(X++(U++(v::Y)))[c]?.getD 0) a5 (by rw[hm];exact Z)
 have a0:=Aa d4;have b7:=Aa c3;have f:=Aa B;have b3:=Aa hn;have e2:=Aa ha;have d8:=Aa hc;have f6:m<b:=Q0
 have e6:a<m:=Q0
 have G:=Aa hm;have e9:=Aa hb;have c1:Hid (U.take U.length=U/\U.drop U.length=[]):=⟨Gp,List.drop_length⟩;obtain⟨K,T⟩:=Qe (X++(U++(v::Y)));have b2:=Aa T;rw[T] at Q a0 b7 f b3;have w0:IntKind.i64.wrap ((m:Int)-(a:Int))=(m:Int)-(a:Int):=AU _ Q0
 have d0:((m:Int)-(a:Int)==1)=false:=by simp;omega
 have w1:IntKind.i64.wrap ((b:Int)-(m:Int))=1:=by rw[AU _ Q0];omega
 clear B ha hb hn b6 b4 b5 hc a5 d4 c3 T ht hm H;unfold Io
 go_enter Tryz.func253,Tryz.ntmps253
 go_wp2_with fail
 go_loopw [14,15] (λiv jv wr=>∃i j:Nat,iv=Qi i/\jv=Qi j/\Hid (Bu (λc=>!r v (K[c]?.getD 0)) a m i j)/\Hid (Aq wr g K E)/\Hid (Ab g w wr)) (λiv jv _=>(intOf jv-intOf iv).toNat)
 case atStart=>exact⟨a,m,rfl,rfl,Bu.start _ (KI e6),f.out,Ab.refl _ _⟩
 case round =>
  clear f;obtain⟨i,j,rfl,rfl,o,f,l⟩:=hrel;obtain⟨f3,e8,f4⟩:a<=i/\i<=j/\j<=m:=⟨o.out.1,o.out.2.1,o.out.2.2.1⟩
  by_cases f5:i<j
  ·obtain⟨h,hh⟩:=Qe ((i+j)/ 2)
   have c8:i<=h:=Q0
   have c7:h<j:=Q0
   have hz:((i:Int)+(j:Int))/ 2=(h:Int):=Q0
   clear hh;obtain⟨a7,d3⟩:=a0.out h Q0 Q0
   obtain⟨x,hx⟩:=Qe (K[h]?.getD 0);have a9:=o.out.up c8 c7;have a6:=o.out.down c8 c7;rw[hx] at a7 d3 a9 a6;have t:=f.out.cell _ _ a7;have A:=f.out.cell _ _ b7.out;have O:=f.out.lt;have F:Hid (∀W,Qb wr W->Qk 146 #[Qi v,Qi x,Qp q 0] W λe w'=>∃c:Int,e=.returned (Qi c)/\decide (c<0)=r v x/\Qb W w'):=λW e0=>d8.out W (l.out.trans (Ab.of e0)) v x hv d3;have J:Hid (∀{s:World},Qb wr s->Qc s g h (Qi (x:Int))/\Qc s g m (Qi (v:Int))):=λh0=>⟨(h0.cell (p:=⟨g,h,none⟩) O).trans t,(h0.cell (p:=⟨g,m,none⟩) O).trans A⟩;have D:Qb wr wr:=Ag _ _;have l1:h<n:=Q0
   have l2:m<n:=Q0
   have N:=Aa a9;have I:=Aa a6;clear a9 a6 a7 hx o;obtain⟨d7,B⟩:=Qe (r v x);rw[B] at F N I;clear B
   go_wp2_with fail
   go_region_held3 (λs=>Qc s g h (Qi (x:Int))/\Qc s g m (Qi (v:Int)))
    ((first|exact J.out D.drew|exact J.out C.out|fail))
    ((first
      |(go_at_call 146
        refine(F.out _ D.drew).mono ?_;rintro e w8 ⟨c,rfl,c4,c2⟩;have C:=Aa (A9 c2 D.drew);have a1:=Aa c4;clear c2 c4)
      |fail))
   have b9:=Aa (l.out.trans (Ab.of C.out));have c0:=Aa (f.out.below C.out);rw[a1.out];cases d7 with
   | false =>
     have a2:=Aa (N.out rfl);clear f l J F C I N t A D a1 O
     go_wp2_with fail
     go_roundw
     case rel=>exact⟨h+1,j,by go_num,rfl,a2,c0,b9⟩
     case measure=>simp[intOf];omega
   | true =>
     have a2:=Aa (I.out rfl);clear f l J F C I N t A D a1 O
     go_wp2_with fail
     go_roundw
     case rel=>exact⟨i,h,rfl,rfl,a2,c0,b9⟩
     case measure=>simp[intOf];omega
  ·obtain rfl:i=j:=Q0
   have d5:=Q.out i o.out;have b1:=Aa d5;clear d5 o Q a0 e8
   go_wp2_with fail
   go_loopw [17] (λkv wr=>∃d:Nat,kv=Qi ((a+d:Nat):Int)/\i<=a+d/\a+d<=m/\Hid (Aq wr g (X++(U.take d++(v::(U.drop d++Y)))) E)/\Hid (Ab g w wr)) (λkv _=>((intOf kv).toNat))
   case atStart =>
    refine⟨U.length,by rw[G.out],by have:=G.out;omega,by have:=G.out;omega,?_,l⟩
    show Aq _ _ _ _
    rw[c1.out.1,c1.out.2,C6,b2.out];exact f.out
   case round =>
    clear f l;obtain⟨d,rfl,hd,e7,f,l⟩:=hrel
    by_cases P:i<a+d
    ·obtain⟨d,rfl⟩:∃d9,d=d9+1:=⟨d-1,Q0⟩
     obtain⟨y,c5,c6,e5,d6⟩:=zwa X U Y v d (by have:=G.out;omega) (a+d) (by rw[e2.out])
     have e4:(X++(U.take (d+1)++(v::(U.drop (d+1)++Y)))).length=n:=by
      have S:=b3.out;rw[<-b2.out] at S;rw[<-S];have H:=Co List.length (Er (d+1) U);simp only[AJ,Bt] at H |-;omega
     have t:=f.out.cell _ _ c5;have A:=f.out.cell _ _ c6;have f1:=f.out.frozen (a+d);have f2:=f.out.frozen (a+d+1);have d2:a+d+1<n:=Q0
     have u:=f.out.swap (a+d+1) (a+d) y v Q0 Q0
     rw[d6] at u;have u:=Aa u;have a4:=Aa (Um l.out (a+d+1) (a+d) (Qi (y:Int)) (Qi (v:Int)));have c9:i<=a+d:=Q0
     have d1:a+d<=m:=Q0
     have he:a+(d+1)=a+d+1:=rfl;rw[he] at P |-;clear f l c5 c6 e5 d6 e4 he hd e7;obtain⟨k,z⟩:=Qe (a+d);rw[z] at t A f1 f2 d2 u a4 c9 d1 P |-;have m1:¬ k=k+1:=Q0
     have m2:¬ k+1=k:=Q0
     have l1:k<n:=Q0
     obtain⟨k1,a8⟩:=Qe (k+1);have w2:IntKind.i64.wrap ((k1:Int)-1)=(k:Int):=by rw[AU _ Q0];omega
     rw[a8] at t f2 d2 u a4 m1 m2 P |-;have e1:=Aa a8;have a3:=Aa z;clear a8 z
     go_wp2_with fail
     go_region
     go_wp2_with fail
     go_roundw
     case rel=>exact⟨d,by rw[a3.out],by rw[a3.out];exact c9,by rw[a3.out];exact d1,u,a4⟩
     case measure=>have:=e1.out;simp[intOf];omega
    ·have V:=b1.out
     rw[show i-a=d by omega] at V
     have b8:=Aa V;have Z:decide (i<a+d)=false:=AV Q0
     clear V b1 P hd;obtain⟨k,z⟩:=Qe (a+d);rw[z] at Z |-;clear z
     go_wp2_with fail
     refine BV (v:=.tuple #[]) (Dw rfl _ _ _) rfl ⟨rfl,⟨_,?_,b8.out.2.2.1,b8.out.2.2.2⟩,l.out⟩;have:=f.out;simpa using this
theorem zpi(g n y q:Nat)(R:Nat->Nat->Prop)(E:List Value)(w:World)(X o h p j Y:List Nat)(a m b i e r nn:Nat)
 (b0:i<=m) (b4:m<=e) (a9:e<=b)
 (a5:Hid (i<m->m<e->Qk 279 #[Qs g 0 n y,Qi i,Qi m,Qi e,.func (.func 146) #[] #[.pointer (some ⟨q,0,none⟩)]] w λv w'=>v=.returned (.tuple #[])/\Aq w' g (X++(o++(p++(h++(j++Y))))) E/\Ab g w w'))
 (a4:Hid ((decide (i<m)&& decide (m<e))=false->Aq w g (X++(o++(p++(h++(j++Y))))) E))
 (a2:Hid (∀W,Aq W g (X++(o++(p++(h++(j++Y))))) E->Ab g w W->a<i->i<r->Qk 253 #[Qs g 0 n y,Qi a,Qi i,Qi r,.func (.func 146) #[] #[.pointer (some ⟨q,0,none⟩)]] W λv w'=>v=.returned (.tuple #[])/\(∃L,Aq w' g (X++(L++(h++(j++Y)))) E/\L.Perm (o++p)/\L.Pairwise R)/\Ab g W w'))
 (a3:Hid ((decide (a<i)&& decide (i<r))=false->(o++p).Pairwise R))
 (P:Hid (∀W c,c.length=(o++p).length->Aq W g (X++(c++(h++(j++Y)))) E->Ab g w W->r<e->e<b->Qk 253 #[Qs g 0 n y,Qi r,Qi e,Qi b,.func (.func 146) #[] #[.pointer (some ⟨q,0,none⟩)]] W λv w'=>v=.returned (.tuple #[])/\(∃L,Aq w' g (X++(c++(L++Y))) E/\L.Perm (h++j)/\L.Pairwise R)/\Ab g W w'))
 (F:Hid ((decide (r<e)&& decide (e<b))=false->(h++j).Pairwise R))
 {z1 z2 z3 z4 z5 z6 z7 z8 z9 a1:Go.Code} (hc:Tryz.f253.body=some (z1.seq (z2.seq (z3.seq (z4.seq (z5.seq (z6.seq (z7.seq (z8.seq (z9.seq a1))))))))))
 (a0:Exit->Act->World->Prop) (Q:Hid (∀(ts:Array Value)(w':World)(c S:List Nat),c.Perm (o++p)->S.Perm (h++j)->c.Pairwise R->S.Pairwise R->Aq w' g (X++(c++(S++Y))) E->Ab g w w'->a0 .normal { tmps:=ts,defers:=[] } w'))
 {u5 u6 u7 u8 u9 u10 u11 u12 u13 u14 u15 u16 u17 u21 u22 u23 u25 u26 u27 u28 u29 u30 u31 u32 u33 u34 u35 u36 u37 u38 u39 u40 u41 u42 u43 u44 u45 u46 u47 u48 u49 u50 u51 u52 u53 u54 u55 u56 u57 u58 u59 u60 u61 u62 u63 u64 u65 u66 u67 u68 u69 u70 u71 u72 u73 u74 u75 u76 u77 u78 u79 u80 u81 u82 u83 u84 u85 u86 u87 u88 u89 u90 u91 u92 u93 u94 u95 u96 u97 u98 u99 u100 u101 u102 u103 u104 u105 u106 u107 u108 u109 u110 u111 u112 u113 u114 u115 u116 u117 u118 u119 u120 u121 u122 u123 u124 u125 u126 u127 u128 u129 u130 u131 u132 u133 u134 u135 u136 u137 u138 u139 u140 u141 u142 u143 u144 u145 u146 u147 u148 u149 u150 u151 u152 u153 u154 u155 u156 u157 u158 u159 u160 u161 u162 u163 u164 u165 u166 u167 u168 u169 u170 u171 u172 u173 u174 u175 u176 u177 u178 u179 u180 u181 u182 u183 u184 u185 u186 u187 u188 u189 u190 u191 u192 u193 u194 u195 u196 u197 u198 u199 u200 u201 u202 u203 u204 u205 u206 u207 u208 u209 u210 u211 u212 u213 u214 u215 u216 u217 u218 u219:Value} :
 Code.wp Tryz.prog a1 a0 { tmps:=#[.slice (some ⟨g,0,none⟩) n y,Qi (a:Nat),Qi (m:Nat),Qi (b:Nat),.func (.func 146) #[] #[.pointer (some ⟨q,0,none⟩)],u5,u6,u7,u8,u9,u10,u11,u12,u13,u14,u15,u16,u17,Qi (r:Nat),Qi (nn:Nat),Qi (i:Nat),u21,u22,u23,Qi (e:Nat),u25,u26,u27,u28,u29,u30,u31,u32,u33,u34,u35,u36,u37,u38,u39,u40,u41,u42,u43,u44,u45,u46,u47,u48,u49,u50,u51,u52,u53,u54,u55,u56,u57,u58,u59,u60,u61,u62,u63,u64,u65,u66,u67,u68,u69,u70,u71,u72,u73,u74,u75,u76,u77,u78,u79,u80,u81,u82,u83,u84,u85,u86,u87,u88,u89,u90,u91,u92,u93,u94,u95,u96,u97,u98,u99,u100,u101,u102,u103,u104,u105,u106,u107,u108,u109,u110,u111,u112,u113,u114,u115,u116,u117,u118,u119,u120,u121,u122,u123,u124,u125,u126,u127,u128,u129,u130,u131,u132,u133,u134,u135,u136,u137,u138,u139,u140,u141,u142,u143,u144,u145,u146,u147,u148,u149,u150,u151,u152,u153,u154,u155,u156,u157,u158,u159,u160,u161,u162,u163,u164,u165,u166,u167,u168,u169,u170,u171,u172,u173,u174,u175,u176,u177,u178,u179,u180,u181,u182,u183,u184,u185,u186,u187,u188,u189,u190,u191,u192,u193,u194,u195,u196,u197,u198,u199,u200,u201,u202,u203,u204,u205,u206,u207,u208,u209,u210,u211,u212,u213,u214,u215,u216,u217,u218,u219],defers:=[] } w:=by
 have k:Hid (Ab g w w):=Ab.refl _ _;obtain⟨b1,f⟩:=Qe ((decide (i<m)&& decide (m<e)));obtain⟨b2,a6⟩:=Qe ((decide (a<i)&& decide (i<r)));obtain⟨b3,a7⟩:=Qe ((decide (r<e)&& decide (e<b)));have K:=Aa f;have M:=Aa a6;have N:=Aa a7;clear f a6 a7;simp only[Tryz.f253,Om,Code.seq.injEq] at hc;obtain⟨-,-,-,-,-,-,-,-,-,rfl⟩:=hc
 dsimp only
 go_upto_region 39 with(fail)
 go_cut [0,185] from 178 (λB T t=>B=Qs g 0 n y/\T=.bool b1/\t=w)
 case first =>
  as_aux_lemma =>
   have f:=K.out
   by_cases x:i<m
   ·rw[Bl x,Nc] at f
    go_wp2_with fail
    go_meet
    case rel=>exact⟨rfl,by rw[<-f],rfl⟩
   ·rw[AV x,Bool.false_and] at f
    subst f
    go_wp2_with fail
    go_meet
    case rel=>exact⟨rfl,rfl,rfl⟩
 case rest =>
  obtain⟨rfl,rfl,G⟩:=hcut;rw[G];clear G
  go_upto_if 185 with(fail)
  go_cut [0] from 178 (λB t=>B=Qs g 0 n y/\Hid (Aq t g (X++(o++(p++(h++(j++Y))))) E)/\Hid (Ab g w t))
  case first =>
   as_aux_lemma =>
    cases b1 with
    | true =>
      have s:=K.out;simp only[GP,Fj] at s;have C:=Aa (a5.out s.1 s.2);clear s
      go_wp2_with fail
      refine C.out.mono ?_;rintro v U ⟨rfl,d,z⟩;have l:=Aa d;have H:=Aa (k.out.trans z);clear d z
      go_wp2_with fail
      go_meet
      case rel=>exact⟨rfl,l,H⟩
    | false =>
      have l:=Aa (a4.out K.out)
      go_wp2_with fail
      go_meet
      case rel=>exact⟨rfl,l,k⟩
  case rest =>
   clear k a5 a4 K;obtain⟨rfl,A,k⟩:=hcut
   go_upto_region 41 with(fail)
   go_cut [0,199] from 178 (λB T t=>B=Qs g 0 n y/\T=.bool b2/\t=wc)
   case first =>
    as_aux_lemma =>
     have f:=M.out
     by_cases x:a<i
     ·rw[Bl x,Nc] at f
      go_wp2_with fail
      go_meet
      case rel=>exact⟨rfl,by rw[<-f],rfl⟩
     ·rw[AV x,Bool.false_and] at f
      subst f
      go_wp2_with fail
      go_meet
      case rel=>exact⟨rfl,rfl,rfl⟩
   case rest =>
    obtain⟨rfl,rfl,G⟩:=hcut;rw[G];clear G
    go_upto_if 199 with(fail)
    go_cut [0] from 178 (λB t=>B=Qs g 0 n y/\∃c:List Nat,Hid (c.Perm (o++p))/\Hid (c.Pairwise R)/\Hid (Aq t g (X++(c++(h++(j++Y)))) E)/\Hid (Ab g w t))
    case first =>
     as_aux_lemma =>
      cases b2 with
      | true =>
        have s:=M.out;simp only[GP,Fj] at s;have C:=Aa (a2.out _ A.out k.out s.1 s.2);clear s
        go_wp2_with fail
        refine C.out.mono ?_;rintro v U ⟨rfl,⟨L,d,I,J⟩,z⟩;have l:=Aa d;have V:=Aa I;have u:=Aa J;have H:=Aa (k.out.trans z);clear d z I J
        go_wp2_with fail
        go_meet
        case rel=>exact⟨rfl,L,V,u,l,H⟩
      | false =>
        have u:=Aa (a3.out M.out);have d:=A.out;rw[<-BN o p] at d;have l:=Aa d;clear d
        go_wp2_with fail
        go_meet
        case rel=>exact⟨rfl,o++p,KL _,u,l,k⟩
    case rest =>
     clear A k a2 a3 M;obtain⟨rfl,c,O,Z,A,k⟩:=hcut;have a8:=O.out.length_eq;have f:=N.out
     by_cases x:r<e
     ·by_cases h2:e<b
      ·have C:=Aa (P.out _ c a8 A.out k.out x h2)
       clear f N F
       go_wp2_with fail
       refine C.out.mono ?_;rintro v U ⟨rfl,⟨L,d,I,J⟩,z⟩;have l:=Aa d;have V:=Aa I;have u:=Aa J;have H:=Aa (k.out.trans z);clear d z I J
       go_wp2_with fail
       exact Q.out _ U c L O.out V.out Z.out u.out l.out H.out
      ·have D:=F.out (by rw[AV h2,Bool.and_false])
       have d:Aq wc g (X++(c++((h++j)++Y))) E:=by simpa using A.out
       have u:=Aa D;have l:=Aa d;clear f N F P D d
       go_wp2_with fail
       exact Q.out _ wc c (h++j) O.out (KL _) Z.out u.out l.out k.out
     ·have D:=F.out (by rw[AV x,Bool.false_and])
      have d:Aq wc g (X++(c++((h++j)++Y))) E:=by simpa using A.out
      have u:=Aa D;have l:=Aa d;clear f N F P D d
      go_wp2_with fail
      exact Q.out _ wc c (h++j) O.out (KL _) Z.out u.out l.out k.out
end Go.Proofs.YtoejfkeofbdalaaGreatDoor
namespace Go.Proofs.YtoejfkeofbdalaaGreatDoor
variable {L n:Nat} {a c:Nat->Nat} {f:List Nat}
def Gg(S:List Nat)(k L:Nat):List Nat:=(List.range L).map λi=>S[(k+i)%S.length]?.getD 0
theorem Zo(S:List Nat)(k L:Nat):(Gg S k L).length=L:=by simp[Gg]
theorem Ur(S:List Nat)(k L M:Nat):Gg S k (L+M)=Gg S k L++Gg S ((k+L)%S.length) M:=by
 unfold Gg;rw[List.range_add,D3,Gq];congr 1
 apply Gl
 intro i _;simp only[Function.comp];rw[Nat.mod_add_mod,Lv]
theorem TW(S:List Nat)(k:Nat)(b:k<S.length):Gg S k S.length=Dg S k:=by
 apply KF
 intro i;unfold Gg Dg
 by_cases a:i<S.length
 ·rw[EA,Ji a]
  simp only[Iz]
  by_cases h:k+i<S.length
  ·rw[Mt h,FP Q4,Kh,Az h];rfl
  ·rw[Nat.mod_eq_sub_mod Q0,Mt Q0,F7 Q4,D9,Mj Q0]
   rw[show k+i-S.length=i-(S.length-k) by omega]
   rw[Az Q0];rfl
 ·rw[EU Q4,EU Q4]
theorem zjh(x y u v:List Nat)(d:x.length=y.length):Dx (x++u) (y++v)=true↔(Dx y x=false\/x=y/\Dx u v=true):=by
 induction x generalizing y with
 | nil =>
   cases y with
   |nil=>simp[Dx]
   |cons b y=>simp at d
 | cons a x e =>
   cases y with
   |nil=>simp at d
   | cons b y =>
     have:=e y (by simpa using d)
     simp only[Di,Dx,J5,Fj,GP,FQ,Bool.or_eq_false_iff,QU,SG,List.cons.injEq,this];rcases KJ a b with h|rfl|h
     ·constructor
      ·intro _;exact .inl ⟨Q0,.inl Q4⟩
      ·intro _;exact .inl h
     ·simp
     ·constructor
      ·rintro(c|⟨c,_⟩)<;>omega
      ·rintro(⟨c,_⟩|⟨⟨c,_⟩,_⟩)<;>omega
def BQ(S:List Nat)(a:Nat->Nat)(L:Nat):Prop:=∀x y,x<S.length->y<S.length->(a x<=a y↔Dx (Gg S x L) (Gg S y L)=true)
theorem BQ.eq(h:BQ f c L){m k:Nat}(a:m<f.length)(b:k<f.length):c m=c k↔Gg f m L=Gg f k L:=by
 constructor
 ·intro e
  exact Tx _ _ ((h m k a b).1 Q0) ((h k m b a).1 Q0)
 ·intro e
  have d:=(h m k a b).2 (by rw[e];exact Ub _)
  have i:=(h k m b a).2 (by rw[e];exact Ub _)
  omega
theorem BQ.lt(h:BQ f a L){m k:Nat}(b:m<f.length)(c:k<f.length):a m<a k↔Dx (Gg f k L) (Gg f m L)=false:=by
 rw[<-Bool.not_eq_true,<-h k m c b];omega
theorem zq7(S:List Nat):BQ S (λk=>S[k]?.getD 0) 1:=by
 intro x y a b;simp only[Gg,List.range_one,Dz,Jl,Ic,Mt a,Mt b,Dx,J5,Fj,Bool.and_true,FQ];omega
def JW(m:Nat):Nat:=max (2*m) 1
def Fx(n:Nat)(a:Nat->Nat)(m x y:Nat):Bool:=decide (a x<a y) ||(decide (a x=a y)&& decide (a ((x+m)%n)<a ((y+m)%n)))
theorem JQ(n:Nat)(a:Nat->Nat)(m x y:Nat):Fx n a m x y=true↔a x<a y\/a x=a y/\a ((x+m)%n)<a ((y+m)%n):=by simp[Fx]
theorem Nx(n:Nat)(a:Nat->Nat)(m x y:Nat):Fx n a m x y=false↔¬ (a x<a y\/a x=a y/\a ((x+m)%n)<a ((y+m)%n)):=by rw[<-JQ];simp
theorem Xv(h:BQ f c (max n 1)){m k:Nat}(a:m<f.length)(b:k<f.length):Fx f.length c n m k=false↔Dx (Gg f k (JW n)) (Gg f m (JW n))=true:=by
 rw[Nx];have d:0<f.length:=Q0
 by_cases l:n=0
 ·subst l
  have e:JW 0=1:=rfl;rw[e];have j:BQ f c 1:=h;rw[<-j k m b a,Ic,Ic,Mt a,Mt b];omega
 ·have i:max n 1=n:=Q0
  rw[i] at h;have e:JW n=n+n:=by unfold JW;omega
  have o:=F8 (m+n) d;have p:=F8 (k+n) d;rw[e,Ur,Ur,zjh _ _ _ _ (by rw[Zo,Zo]),<-h.lt b a,<-h.eq b a,<-h _ _ p o]
  omega
def Dk(n:Nat)(a:Nat->Nat)(m x y:Nat):Prop:=Fx n a m x y=true\/Fx n a m y x=false/\x<y
theorem Dk.trans(n:Nat)(a:Nat->Nat)(m:Nat):∀x y z,Dk n a m x y->Dk n a m y z->Dk n a m x z:=by
 intro x y z h g;simp only[Dk,JQ,Nx] at*
 omega
theorem zvS(b:Nat)(c:Nat->Nat)(a:Nat){n m:Nat}(h:n<m):(Fx b c a m n=true->Dk b c a m n)/\(Fx b c a m n=false->Dk b c a n m) :=
 ⟨λd=>.inl d,λd=>by
   by_cases e:Fx b c a n m=true
   ·exact .inl e
   ·exact .inr ⟨d,h⟩⟩
def IE(n:Nat)(b:Nat->Nat)(m:Nat)(a:List Nat):Nat->Nat
 |0=>0
 |t+1=>IE n b m a t+(if Fx n b m (a[t]?.getD 0) (a[t+1]?.getD 0) then 1 else 0)
theorem zzo(n:Nat)(a:Nat->Nat)(m:Nat)(b:List Nat)(t:Nat):IE n a m b t<=t:=by
 induction t with
 |zero=>exact Af _
 |succ t c=>simp only[IE];split<;>omega
theorem zmA(b:Nat)(c:Nat->Nat)(a:Nat)(d:List Nat){n m:Nat}(h:n<=m):IE b c a d n<=IE b c a d m:=by
 induction m with
 |zero=>rw[show n=0 by omega];exact Af _
 | succ m f =>
   by_cases e:n=m+1
   ·subst e;exact Af _
   ·exact BU (f Q0) (by simp only[IE];omega)
theorem zzS{m:Nat}(j:f.Pairwise (Dk n a m)){k i:Nat}(t:k<=i)(l:i<f.length) :
 IE n a m f k<IE n a m f i↔Fx n a m (f[k]?.getD 0) (f[i]?.getD 0)=true:=by
 induction i with
 | zero =>
   rw[show k=0 by omega]
   constructor
   ·intro h;omega
   ·intro h;rw[JQ] at h;omega
 | succ i r =>
   by_cases q:k=i+1
   ·subst q
    constructor
    ·intro h;omega
    ·intro h;rw[JQ] at h;omega
   ·have o:=r Q0 Q0
    have s:=zmA n a m f (show k<=i by omega)
    have d:f[i]?.getD 0=f[i]:=by rw[Az Q0];rfl
    have p:f[i+1]?.getD 0=f[i+1]:=by rw[Az l];rfl
    have e:f[k]?.getD 0=f[k]:=by rw[Az Q0];rfl
    have u:Dk n a m f[i] f[i+1]:=Oe.1 j i (i+1) Q0 l Q0
    have c:k=i\/Dk n a m f[k] f[i]:=by
     rcases Gb k i with h|h
     ·exact .inr (Oe.1 j k i Q0 Q0 h)
     ·exact .inl Q0
    simp only[IE];rw[e,d] at o;rw[d,p,e]
    by_cases b:Fx n a m f[i] f[i+1]=true
    ·rw[if_pos b]
     have:Fx n a m f[k] f[i+1]=true:=by
      rcases c with rfl|c
      ·exact b
      ·simp only[Dk,JQ,Nx] at*
       omega
     constructor
     ·intro _;exact this
     ·intro _;omega
    ·rw[if_neg b,Ic,o]
     rcases c with rfl|c
     ·constructor
      ·intro h;rw[JQ] at h;omega
      ·intro h;exact absurd h b
     ·simp only[Dk,JQ,Nx] at*
      omega
theorem zvi{ρ m:Nat->Nat}{out:List Nat}(h:BQ f ρ (max n 1))(p:out.Perm (List.range f.length))(i:out.Pairwise (Dk f.length ρ n))
 (e:∀t,t<out.length->m (out[t]?.getD 0)=IE f.length ρ n out t):BQ f m (JW n):=by
 intro x y j l;rw[<-Xv h l j]
 have o:∀z,z<f.length->∃t,t<out.length/\out[t]?.getD 0=z:=λz q=>by
  obtain⟨t,a,rfl⟩:=List.mem_iff_getElem.1 (p.mem_iff.2 (EB.2 q));exact⟨t,a,by rw[Az a];rfl⟩
 obtain⟨s,b,rfl⟩:=o x j;obtain⟨t,a,rfl⟩:=o y l;rw[e s b,e t a];rcases Nat.le_total t s with c|c
 ·rw[<-Bool.not_eq_true,<-zzS i c b];omega
 ·constructor
  ·intro _
   rcases Gb s t with d|d
   ·have k:=Oe.1 i s t b a d
    rw[Az b,Az a];simp only[Es];simp only[Dk,JQ,Nx] at*
    omega
   ·rw[show s=t by omega,Nx];omega
  ·intro _;exact zmA _ _ _ _ c
def Sv(S:List Nat)(x y:Nat):Prop:=Dx (Dg S x) (Dg S y)=true/\(Dg S x=Dg S y->x<y)
theorem zv1{k:Nat->Nat}{B:List Nat}(h:BQ f k (max n 1))(t:B.Perm (List.range f.length))(u:B.Pairwise (Dk f.length k n))(A:f.length<=JW n):B.Pairwise (Sv f):=by
 have o:∀x∈B,x<f.length:=λx a=>EB.1 (t.mem_iff.1 a);refine u.imp_of_mem λ{x y} a c b=>?_;have a:=o x a;have c:=o y c;obtain⟨d,r⟩:∃d,JW n=f.length+d:=⟨JW n-f.length,Q0⟩
 have z:Fx f.length k n y x=false:=by simp only[Dk,JQ,Nx] at*;omega
 have m:=(Xv h c a).1 z;refine⟨?_,λe=>?_⟩
 ·rw[r,Ur,Ur,TW f x a,TW f y c] at m
  exact VX _ _ _ _ (by rw[Ry,Ry]) m
 ·rcases b with b|b
  ·exfalso
   have q:∀L,Gg f x L=Gg f y L:=by
    have v:∀j,j<f.length->f[(x+j)%f.length]?.getD 0=f[(y+j)%f.length]?.getD 0:=λj s=>by
     have p:Gg f x f.length=Gg f y f.length:=by rw[TW f x a,TW f y c,e]
     have:=Co (λl=>l[j]?) p;simpa [Gg,s] using this
    intro L;apply Gl
    intro i _;have:=v (i%f.length) (F8 _ Q0)
    rwa [Nat.add_mod_mod,Nat.add_mod_mod] at this
   have:Fx f.length k n x y=false:=(Xv h a c).2 (by rw[q];exact Ub _)
   rw[this] at b;cases b
  ·exact b.2
theorem YO:∀l m:List Nat,l.Perm m->l.Pairwise (Sv f)->m.Pairwise (Sv f)->l=m
 | [],m,hp,_,_=>(List.nil_perm.1 hp).symm
 |x::l,[],hp,_,_=>by simp at hp
 | x::l,y::m,hp,hl,hm=>by
   obtain⟨h,j⟩:=IM.1 hl;obtain⟨i,k⟩:=IM.1 hm
   have e:x=y:=by
    have c:=hp.mem_iff.1 (Jh (a:=x) (l:=l));have d:=hp.mem_iff.2 (Jh (a:=y) (l:=m));rcases CZ.1 c with c|c
    ·exact c
    ·rcases CZ.1 d with d|d
     ·exact d.symm
     ·have a:=h y d
      have b:=i x c;have e:=Tx _ _ a.1 b.1;have:=a.2 e;have:=b.2 e.symm;omega
   subst e;rw[YO l m ((List.perm_cons x).1 hp) j k]
def GZ(S:List Nat):List Nat:=(List.range S.length).mergeSort λx y=>Dx (Dg S x) (Dg S y)&& (!(Dx (Dg S y) (Dg S x)) ||decide (x<=y))
theorem MB(S:List Nat):(GZ S).Perm (List.range S.length):=List.mergeSort_perm _ _
theorem YV(S:List Nat):(GZ S).Pairwise (Sv S):=by
 have f:(GZ S).Pairwise λx y=>(Dx (Dg S x) (Dg S y)&& (!(Dx (Dg S y) (Dg S x)) ||decide (x<=y)))=true:=by
  refine List.pairwise_mergeSort (λx y z h g=>?_) (λx y=>?_) _
  ·simp only[GP,J5,P8,Fj] at h g |-
   refine⟨Ua _ _ _ h.1 g.1,?_⟩
   by_cases e:Dx (Dg S z) (Dg S x)=true
   ·have c:=Ua _ _ _ g.1 e
    have d:=Ua _ _ _ e h.1;rw[c] at h;rw[d] at g;simp at h g;exact .inr Q0
   ·exact .inl (by simpa using e)
  ·simp only[J5,GP,P8,Fj]
   by_cases b:Dx (Dg S x) (Dg S y)=true<;>by_cases a:Dx (Dg S y) (Dg S x)=true
   ·rw[b,a]
    rcases Nat.le_total x y with h|h
    ·exact .inl ⟨rfl,.inr h⟩
    ·exact .inr ⟨rfl,.inr h⟩
   ·exact .inl ⟨b,.inl (by simpa using a)⟩
   ·exact .inr ⟨a,.inl (by simpa using b)⟩
   ·rcases Z9 (Dg S x) (Dg S y) with h|h
    ·exact absurd h b
    ·exact absurd h a
 have i:(GZ S).Nodup:=(MB S).nodup_iff.2 QS;refine(f.and i).imp λ{x y} ⟨h,j⟩=>?_;simp only[GP,J5,P8,Fj] at h;refine⟨h.1,λe=>?_⟩;rcases h.2 with a|a
 ·rw[e,Ub] at a;cases a
 ·omega
theorem zwu{B:List Nat}(a:B.Perm (List.range f.length))(b:B.Pairwise (Sv f)):B=GZ f:=YO _ _ (a.trans (MB f).symm) b (YV f)
theorem znl(S:List Nat):OY ((GZ S).map (Dg S)):=List.pairwise_map.2 ((YV S).imp λh=>h.1)
