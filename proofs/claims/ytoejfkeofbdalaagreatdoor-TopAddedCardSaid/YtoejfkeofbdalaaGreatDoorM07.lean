import Derived.Test.YtoejfkeofbdalaaGreatDoorM04
set_option linter.all false
set_option maxRecDepth 100000
set_option maxHeartbeats 8000000
namespace Go.Proofs.YtoejfkeofbdalaaGreatDoor
variable {c i j k m n s:Nat} {p:Nat->Bool}
def Bu(p:Nat->Bool)(a b i j:Nat):Prop:=a<=i/\i<=j/\j<=b/\(i=a\/p (i-1)=true)/\(j=b\/p j=false)
theorem Bu.start(p:Nat->Bool){n m:Nat}(h:n<=m):Bu p n m n m:=⟨Af _,h,Af _,.inl rfl,.inl rfl⟩
theorem Bu.up(H:Bu p n m k i)(f:k<=j)(g:j<i)(h:p j=true):Bu p n m (j+1) i:=by
 obtain⟨a,b,c,d,e⟩:=H;exact⟨Q0,Q0,c,.inr (by rwa [Mm]),e⟩
theorem Bu.down(H:Bu p n m k i)(f:k<=j)(h:j<i)(g:p j=false):Bu p n m k j:=by
 obtain⟨a,b,c,d,e⟩:=H;exact⟨a,f,Q0,d,.inr g⟩
section
variable {α:Type} (R:α->α->Prop)
theorem TQ(g:∀x y z,R x y->R y z->R x z){l m:List α}(n:l.Pairwise R)(o:m.Pairwise R)
 (h:∀(c:l≠[])(d:m≠[]),R (l.getLast c) (m.head d)):∀x∈l,∀y∈m,R x y:=by
 intro x a y i;have c:l≠[]:=List.ne_nil_of_mem a;have d:m≠[]:=List.ne_nil_of_mem i;have f:=h c d
 have j:x=l.getLast c\/R x (l.getLast c):=by
  have e:=Vg c;rw[<-e] at n a;rcases FZ.1 a with a|a
  ·exact .inr ((Lm.1 n).2.2 x a _ Q6)
  ·exact .inl (by simpa using a)
 have k:y=m.head d\/R (m.head d) y:=by
  cases m with
  |nil=>exact absurd rfl d
  | cons b m =>
    rcases CZ.1 i with rfl|i
    ·exact .inl rfl
    ·exact .inr ((IM.1 o).1 y i)
 rcases j with rfl|j<;>rcases k with rfl|k
 ·exact f
 ·exact g _ _ _ f k
 ·exact g _ _ _ j f
 ·exact g _ _ _ (g _ _ _ j f) k
theorem zs6(A:∀x y z,R x y->R y z->R x z)(lt:α->α->Bool){U V:List α}{n m k i:Nat}{j:Nat}(T:j=(n+k)/ 2)(M:n+U.length=m)(N:m+V.length=k)
 (E:U.Pairwise R) (F:V.Pairwise R) (w:∀x∈U,∀y∈V,(lt y x=true->R y x)/\(lt y x=false->R x y))
 (b:Nat->α) (C:∀a (h:a<(U++V).length),b (n+a)=(U++V)[a])
 (B f:Nat) (t:B=if j<m then j+m-k else n) (s:f=if j<m then j else m)
 (H:Bu (λc=>!lt (b (j+m-1-c)) (b c)) B f i i) (O:0<U.length) (P:0<V.length) :
 n<=i/\i<=m/\m<=j+m-i/\j+m-i<=k /\
 (∀x∈U.take (i-n),∀y∈V.drop (j-i),R x y)/\(∀y∈V.take (j-i),∀x∈U.drop (i-n),R y x)/\i<=j:=by
 obtain⟨o,_,p,d,e⟩:=H;have I:n<=i:=by rw[t] at o;split at o<;>omega
 have J:i<=m:=by rw[s] at p;split at p<;>omega
 have K:i<=j:=by rw[s] at p;split at p<;>omega
 have L:j+m-i<=k:=by rw[t] at o;split at o<;>omega
 have S:(U++V).length=k-n:=by simp;omega
 have u:∀a,(f:a<U.length)->b (n+a)=U[a]:=λa f=>by rw[C a Q4,List.getElem_append_left f]
 have v:∀a,(f:a<V.length)->b (m+a)=V[a]:=λa f=>by
  have:=C (U.length+a) Q4
  rw[List.getElem_append_right Q0] at this
  rw[show m+a=n+(U.length+a) by omega,this]
  congr 1;omega
 refine⟨I,J,Q0,L,?_,?_,K⟩
 ·
  refine TQ R A (E.sublist (Re _ _)) (F.sublist (Rh _ _)) λg l=>?_
  have G:0<i-n:=by
   rcases IP (i-n) with h|h
   ·rw[h] at g;simp at g
   ·exact h
  have D:j-i<V.length:=by
   rcases Gb (j-i) V.length with h|h
   ·exact h
   ·exact absurd (Gm h) l
  rcases d with d|d
  ·exfalso
   rw[t] at d;split at d<;>omega
  ·have q:b (i-1)=(U.take (i-n)).getLast g:=by
    rw[SL,Ob];have:=u (i-1-n) Q0
    rw[show n+(i-1-n)=i-1 by omega] at this
    rw[this];congr 1
    simp;omega
   have r:b (j+m-1-(i-1))=(V.drop (j-i)).head l:=by
    rw[List.head_drop];have:=v (j-i) D;rw[show m+(j-i)=j+m-1-(i-1) by omega] at this
    exact this
   simp only[q,r,P8] at d;exact(w _ (Ls (List.getLast_mem _)) _ (J7 (List.head_mem _))).2 d
 ·refine TQ R A (F.sublist (Re _ _)) (E.sublist (Rh _ _)) λg l=>?_
  have D:0<j-i:=by
   rcases IP (j-i) with h|h
   ·rw[h] at g;simp at g
   ·exact h
  have G:i-n<U.length:=by
   rcases Gb (i-n) U.length with h|h
   ·exact h
   ·exact absurd (Gm h) l
  have Q:j-i<=V.length:=Q0
  rcases e with e|e
  ·exfalso
   rw[s] at e;split at e<;>omega
  ·have q:b (j+m-1-i)=(V.take (j-i)).getLast g:=by
    rw[SL,Ob];have:=v (j-i-1) Q0
    rw[show m+(j-i-1)=j+m-1-i by omega] at this
    rw[this];congr 1
    simp;omega
   have r:b i=(U.drop (i-n)).head l:=by
    rw[List.head_drop];have:=u (i-n) G;rw[show n+(i-n)=i by omega] at this
    exact this
   simp only[q,r,Bool.not_eq_false'] at e;exact(w _ (J7 (List.head_mem _)) _ (Ls (List.getLast_mem _))).1 e
theorem zxE{c d e f g h:List α}(i:g.Perm (c++e))(j:h.Perm (d++f))(m:g.Pairwise R)(n:h.Pairwise R)
 (k:(c++d).Pairwise R) (l:(e++f).Pairwise R) (o:∀x∈c,∀y∈f,R x y) (p:∀y∈e,∀x∈d,R y x) :
 (g++h).Perm ((c++d)++(e++f))/\(g++h).Pairwise R:=by
 refine⟨(i.append j).trans ?_,Lm.2 ⟨m,n,λx a y b=>?_⟩⟩
 ·have:(c++e++(d++f)).Perm (c++d++(e++f)):=by
   simp only[BN];refine List.Perm.append_left _ ?_;rw[<-BN,<-BN];exact List.Perm.append_right _ MW
  exact this
 ·have a:=(i.mem_iff).1 a
  have b:=(j.mem_iff).1 b;rcases FZ.1 a with a|a<;>rcases FZ.1 b with b|b
  ·exact(Lm.1 k).2.2 x a y b
  ·exact o x a y b
  ·exact p x a y b
  ·exact(Lm.1 l).2.2 x a y b
theorem znu(j:∀x y z,R x y->R y z->R x z)(lt:α->α->Bool){u:α}{V:List α}{m k:Nat}(g:V.Pairwise R)
 (p:∀y∈V,(lt y u=true->R y u)/\(lt y u=false->R u y)) (e:Nat->α) (s:∀i (h:i<V.length),e (m+i)=V[i])
 (A:Bu (λc=>lt (e c) u) m (m+V.length) k k) :
 m<=k/\k-m<=V.length/\(V.take (k-m)++u::V.drop (k-m)).Perm (u::V)/\(V.take (k-m)++u::V.drop (k-m)).Pairwise R:=by
 obtain⟨w,_,B,a,b⟩:=A;refine⟨w,Q0,?_,?_⟩
 ·refine List.perm_middle.trans ?_
  rw[Er]
 ·have o:∀x∈V.take (k-m),∀y∈[u],R x y:=by
   refine TQ R j (g.sublist (Re _ _)) (SK _ _) λf l=>?_
   have q:0<k-m:=by
    rcases IP (k-m) with h|h
    ·rw[h] at f;simp at f
    ·exact h
   rcases a with a|a
   ·omega
   ·have t:e (k-1)=(V.take (k-m)).getLast f:=by
     rw[SL,Ob];have:=s (k-1-m) Q0
     rw[show m+(k-1-m)=k-1 by omega] at this
     rw[this];congr 1
     simp;omega
    simp only[t] at a;exact(p _ (Ls (List.getLast_mem _))).1 a
  have n:∀x∈[u],∀y∈V.drop (k-m),R x y:=by
   refine TQ R j (SK _ _) (g.sublist (Rh _ _)) λf l=>?_
   have q:k-m<V.length:=by
    rcases Gb (k-m) V.length with h|h
    ·exact h
    ·exact absurd (Gm h) l
   rcases b with b|b
   ·omega
   ·have v:e k=(V.drop (k-m)).head l:=by
     rw[List.head_drop];have:=s (k-m) q;rw[show m+(k-m)=k by omega] at this
     exact this
    simp only[v] at b;exact(p _ (J7 (List.head_mem _))).2 b
  refine Lm.2 ⟨g.sublist (Re _ _),IM.2 ⟨λy d=>n u Q6 y d,g.sublist (Rh _ _)⟩,λx r y d=>?_⟩
  rcases CZ.1 d with rfl|d
  ·exact o x r _ Q6
  ·exact j _ _ _ (o x r u Q6) (n u Q6 y d)
theorem zwp(f:∀x y z,R x y->R y z->R x z)(lt:α->α->Bool){v:α}{U:List α}{n k:Nat}(j:U.Pairwise R)
 (b:∀x∈U,(lt v x=true->R v x)/\(lt v x=false->R x v)) (a:Nat->α) (g:∀i (h:i<U.length),a (n+i)=U[i])
 (e:Bu (λc=>!lt v (a c)) n (n+U.length) k k) :
 n<=k/\k-n<=U.length/\(U.take (k-n)++v::U.drop (k-n)).Perm (U++[v])/\(U.take (k-n)++v::U.drop (k-n)).Pairwise R:=by
 have h:=znu R f (λy u=>!lt u y) (u:=v) (V:=U) (m:=n) (k:=k) j (λy d=>⟨λh=>(b y d).2 (by simpa using h),λh=>(b y d).1 (by simpa using h)⟩) a g e
 exact⟨h.1,h.2.1,h.2.2.1.trans (by simpa using MW (l₁:=[v]) (l₂:=U)),h.2.2.2⟩
end
section
variable {α:Type}
theorem MJ{L M:List α}{x:α}(y:α){k:Nat}(h:k=L.length):(L++x::M).set k y=L++y::M:=by subst h;simp
theorem LG{L M:List α}{x:α}(h:n=L.length):(L++x::M)[n]?=some x:=by subst h;simp
def Cb(P A Q B S:List α)(i:Nat)(l:List α):Prop:=∃a c b d,A=a++c/\B=b++d/\a.length=i/\b.length=i/\l=P++(b++(c++(Q++(a++(d++S)))))
theorem Cb.start(P A Q B S:List α):Cb P A Q B S 0 (P++(A++(Q++(B++S)))):=⟨[],A,[],B,rfl,rfl,rfl,rfl,Q6⟩
theorem Cb.length{P A Q B S l:List α}(h:Cb P A Q B S n l):l.length=P.length+A.length+Q.length+B.length+S.length:=by
 obtain⟨a,b,c,d,rfl,rfl,e,f,rfl⟩:=h;simp;omega
theorem Cb.step{P A Q B S l:List α}(h:Cb P A Q B S n l)(m:n<A.length)(o:n<B.length){p q:Nat}(r:p=P.length+n)(e:q=P.length+A.length+Q.length+n) :
 ∃x y,l[p]?=some x/\l[q]?=some y/\Cb P A Q B S (n+1) ((l.set p y).set q x):=by
 obtain⟨c,a,d,b,rfl,rfl,i,j,rfl⟩:=h;cases a with
 |nil=>simp at m;omega
 | cons x a =>
   cases b with
   |nil=>simp at o;omega
   | cons y b =>
     refine⟨x,y,?_,?_,c++[x],a,d++[y],b,Q6,Q6,by simp[i],by simp[j],?_⟩
     ·rw[<-BN];exact LG Q4
     ·rw[show P++(d++(x::a++(Q++(c++(y::b++S)))))=(P++(d++(x::a++(Q++c))))++y::(b++S) by simp]
      exact LG (by simp at e |-;omega)
     ·have f:(P++(d++(x::a++(Q++(c++(y::b++S)))))).set p y=P++(d++(y::a++(Q++(c++(y::b++S))))):=by
       have:=MJ (L:=P++d) (M:=a++(Q++(c++(y::b++S)))) (x:=x) y (k:=p) Q4
       simpa using this
      have g:(P++(d++(y::a++(Q++(c++(y::b++S)))))).set q x=P++(d++(y::a++(Q++(c++(x::b++S))))):=by
       have:=MJ (L:=P++(d++(y::a++(Q++c)))) (M:=b++S) (x:=y) x (k:=q) (by simp at e |-;omega)
       simpa using this
      rw[f,g];simp
theorem Cb.end_{P A Q B S l:List α}(h:Cb P A Q B S n l)(c:A.length=n)(d:B.length=n):l=P++(B++(Q++(A++S))):=by
 obtain⟨e,a,f,b,rfl,rfl,g,i,rfl⟩:=h;have:a=[]:=Ey (by simp at c;omega)
 have:b=[]:=Ey (by simp at d;omega)
 subst a b;simp
def BP(F:List α)(m i j:Nat)(l:List α):Prop:=∃X U V Y,l=X++(U++(V++Y))/\X.length+i=m/\U.length=i/\V.length=j/\F=X++(V++(U++Y))
theorem BP.more{F l:List α}(h:BP F n m k l)(f:k<m) :
 ∃P A Q B S,l=P++(A++(Q++(B++S)))/\P.length=n-m/\A.length=k/\Q.length=m-k/\B.length=k/\m<=n/\BP F n (m-k) k (P++(B++(Q++(A++S)))):=by
 obtain⟨X,U,V,Y,rfl,c,d,a,b⟩:=h;refine⟨X,U.take k,U.drop k,V,Y,by rw[<-BN (U.take k),Er],Q0,Q4,Q4,a,Q0,X++V,U.drop k,U.take k,Y,Q6,Q4,Q4,Q4,?_⟩
 rw[b];have e:U++Y=U.take k++(U.drop k++Y):=by rw[<-BN,Er]
 rw[e];simp
theorem BP.less{F l:List α}(h:BP F n m k l)(f:m<k) :
 ∃P A Q B S,l=P++(A++(Q++(B++S)))/\P.length=n-m/\A.length=m/\Q.length=k-m/\B.length=m/\m<=n/\BP F n m (k-m) (P++(B++(Q++(A++S)))):=by
 obtain⟨X,U,V,Y,rfl,a,b,d,c⟩:=h;refine⟨X,U,V.take (k-m),V.drop (k-m),Y,?_,Q0,b,Q4,Q4,Q0,X,V.drop (k-m),V.take (k-m),U++Y,Q6,a,Q4,Q4,?_⟩
 ·rw[<-BN (V.take (k-m)),Er]
 ·rw[c]
  have e:V++(U++Y)=V.take (k-m)++(V.drop (k-m)++(U++Y)):=by rw[<-BN (V.take (k-m)),Er]
  rw[e]
theorem BP.last{F l:List α}(h:BP F n m m l) :
 ∃P A B S,l=P++(A++([]++(B++S)))/\P.length=n-m/\A.length=m/\B.length=m/\m<=n/\F=P++(B++([]++(A++S))):=by
 obtain⟨X,U,V,Y,rfl,d,a,b,c⟩:=h;exact⟨X,U,V,Y,Q6,Q0,a,b,Q0,by simp[c]⟩
theorem BP.length{F l:List α}(h:BP F n m k l):l.length=F.length/\m<=n/\n+k<=l.length:=by
 obtain⟨X,U,V,Y,rfl,a,b,c,rfl⟩:=h;simp;omega
end
section
variable {α:Type} (R:α->α->Prop) (lt:α->α->Bool)
def IB(x y:α):Prop:=(lt y x=true->R y x)/\(lt y x=false->R x y)
def Du(X U Y:List α)(v:α)(j:Nat)(l:List α):Prop:=∃a b,U=a++b/\X.length+a.length=j/\l=X++(a++(v::(b++Y)))/\∀x∈b,R v x
theorem Du.start{X U Y:List α}{v:α}(h:X.length+U.length=n):Du R X U Y v n (X++(U++(v::Y))):=⟨U,[],Q6,h,Q6,λx a=>by simp at a⟩
variable {R lt}
theorem Du.step{X U Y l:List α}{v:α}(h:Du R X U Y v n l)(o:∀x∈U,IB R lt x v)(q:X.length<n) :
 ∃x,l[n]?=some v/\l[n-1]?=some x/\(lt v x=true->Du R X U Y v (n-1) ((l.set n x).set (n-1) v))/\
  (lt v x=false->∃b a,U=b++a/\l=X++(b++(v::(a++Y)))/\(∀y∈a,R v y)/\∃W,b=W++[x]/\R x v):=by
 obtain⟨b,a,rfl,c,rfl,j⟩:=h;have p:b≠[]:=λe=>by subst e;simp at c;omega
 obtain⟨W,x,rfl⟩:∃W x,b=W++[x]:=⟨_,_,(Vg p).symm⟩;have m:=o x Q6
 refine⟨x,?_,?_,λd=>⟨W,x::a,Q6,by simp at c;omega,?_,λy f=>?_⟩,λd=>⟨W++[x],a,rfl,rfl,j,W,rfl,m.2 d⟩⟩
 ·rw[<-BN];exact LG (by simp at c |-;omega)
 ·rw[show X++(W++[x]++v::(a++Y))=(X++W)++x::(v::(a++Y)) by simp];exact LG (by simp at c |-;omega)
 ·have g:=MJ (L:=X++(W++[x])) (M:=a++Y) (x:=v) x (k:=n) (by simp at c |-;omega)
  have i:=MJ (L:=X++W) (M:=x::(a++Y)) (x:=x) v (k:=n-1) (by simp at c |-;omega)
  simp only[BN,Di,C6] at g i |-;rw[g,i]
 ·rcases CZ.1 f with rfl|f
  ·exact m.1 d
  ·exact j y f
theorem Yd(i:∀x y z,R x y->R y z->R x z){U1 b:List α}{v:α}(h:(U1++b).Pairwise R)(g:∀y∈b,R v y)(f:U1=[]\/∃W x,U1=W++[x]/\R x v) :
 (U1++v::b).Pairwise R:=by
 obtain⟨e,j,k⟩:=Lm.1 h;refine Lm.2 ⟨e,IM.2 ⟨g,j⟩,λx a y c=>?_⟩
 have l:R x v:=by
  rcases f with rfl|⟨W,z,rfl,d⟩
  ·simp at a
  ·rcases FZ.1 a with a|a
   ·exact i _ _ _ ((Lm.1 e).2.2 x a z Q6) d
   ·have:x=z:=by simpa using a
    subst this;exact d
 rcases CZ.1 c with rfl|c
 ·exact l
 ·exact k x a y c
def Rn(R:α->α->Prop)(l d:List α):Prop:=l.Perm d/\l.Pairwise R
def part(l:List α)(p s:Nat):List α:=(l.drop p).take s
theorem WI{X M Y:List α}{p:Nat}(h:p+s<=X.length):part (X++(M++Y)) p s=part X p s:=by
 unfold part;rw[Pt Q0,QN Q4]
theorem zsr{X M M' Y:List α}(a:M.length=M'.length)(h:X.length+M.length<=n):part (X++(M++Y)) n m=part (X++(M'++Y)) n m:=by
 unfold part
 have e:∀N:List α,N.length=M.length->(X++(N++Y)).drop n=Y.drop (n-(X.length+M.length)):=λN b=>by
  rw[<-BN,Th,Gm (by rw[AJ];omega),AJ,b];rfl
 rw[e M rfl,e M' a.symm]
theorem zwn{X M Y:List α}(a:n=X.length)(b:m=M.length):part (X++(M++Y)) n m=M:=by
 subst a b;simp[part]
theorem ZP(l:List α)(p s t:Nat)(h:p+s<=l.length\/True):part l p (s+t)=part l p s++part l (p+s) t:=by
 unfold part;rw[<-List.drop_drop,List.take_add]
theorem Yc(l:List α)(p s:Nat):l=l.take p++(part l p s++l.drop (p+s)):=by
 conv=>lhs;rw[<-Er p l,<-Er s (l.drop p)]
 rw[List.drop_drop];rfl
theorem zqk{l:List α}{x:α}(h:x∈part l n m):∃i,n<=i/\i<n+m/\l[i]?=some x:=by
 obtain⟨i,a,rfl⟩:=List.mem_iff_getElem.1 h;have b:i<m/\i<l.length-n:=by simp only[part,BO,D9] at a;omega
 refine⟨n+i,Q0,Q0,?_⟩
 simp only[part,Ob,List.getElem_drop];rw[Az Q0]
theorem zo7{D U V:List α}(b:D.Pairwise (IB R lt)){n m k i:Nat}(t:n+m<=k)(c:U.Perm (part D n m))(d:V.Perm (part D k i)):∀x∈U,∀y∈V,IB R lt x y:=by
 intro x g y h;obtain⟨a,p,q,e⟩:=zqk (c.mem_iff.1 g);obtain⟨j,r,s,f⟩:=zqk (d.mem_iff.1 h);obtain⟨l,rfl⟩:=Cc.1 e;obtain⟨o,rfl⟩:=Cc.1 f;exact Oe.1 b a j l o Q0
def Br(R:α->α->Prop)(D:List α)(s a:Nat)(l:List α):Prop:=l.length=D.length/\(∀k,2*s*k<a->Rn R (part l (2*s*k) (2*s)) (part D (2*s*k) (2*s)))/\∀k,a<=s*k->Rn R (part l (s*k) s) (part D (s*k) s)
theorem Uu{l d:List α}(c:l.length=d.length)(h:l.length<=n):Rn R (part l n m) (part d n m):=by
 have a:part l n m=[]:=by unfold part;rw[Gm h,List.take_nil]
 have b:part d n m=[]:=by unfold part;rw[Gm Q0,List.take_nil]
 rw[a,b];exact⟨KL _,List.Pairwise.nil⟩
theorem Br.merge{D l:List α}(h:Br R D n m l)(P:0<n)(b:m=2*n*i)(N:n<c)(Q:c<=2*n)(O:m+c<=l.length)(w:c=2*n\/m+c=l.length) :
 ∃X U V Y,l=X++(U++(V++Y))/\X.length=m/\U.length=n/\V.length=c-n/\U.Pairwise R/\V.Pairwise R/\(D.Pairwise (IB R lt)->∀x∈U,∀y∈V,IB R lt x y)/\
  ∀M,M.Perm (U++V)->M.Pairwise R->Br R D n (m+2*n) (X++(M++Y)):=by
 obtain⟨t,C,o⟩:=h;have e:=o (2*i) (by rw[b,<-Lx,Km n 2];exact Af _)
 have f:=o (2*i+1) (by rw[b,Ng,<-Lx,Km n 2];omega)
 have s:n*(2*i)=m:=by rw[b,<-Lx,Km n 2]
 have B:n*(2*i+1)=m+n:=by rw[Ng,s];omega
 rw[s] at e;rw[B] at f;have z:(part l m n).length=n:=by simp[part];omega
 have p:part l (m+n) n=part l (m+n) (c-n):=by
  rcases w with rfl|G
  ·congr 1;omega
  ·unfold part
   rw[BR Q4,BR Q4]
 have LQ:(part l (m+n) (c-n)).length=c-n:=by simp[part];omega
 have K:part l m c=part l m n++part l (m+n) (c-n):=by
  have:=ZP l m n (c-n) (.inr trivial);rw[show n+(c-n)=c by omega] at this
  exact this
 refine⟨l.take m,part l m n,part l (m+n) (c-n),l.drop (m+c),?_,Q4,z,LQ,e.2,by rw[<-p];exact f.2,λF=>?_,λM u H=>?_⟩
 ·rw[<-BN (part l m n),<-K]
  exact Yc l m c
 ·exact zo7 F (Af _) e.1 (by rw[<-p];exact f.1)
 ·have j:M.length=c:=by rw[u.length_eq,AJ,z,LQ];omega
  have d:l=l.take m++(part l m c++l.drop (m+c)):=Yc l m c;have r:(part l m c).length=c:=by simp[part];omega
  have A:(l.take m).length=m:=by simp;omega
  refine⟨?_,λk v=>?_,λk v=>?_⟩
  ·have:=Co List.length d
   rw[AJ,AJ,r] at this;rw[AJ,AJ,j,<-this];exact t
  ·by_cases a:2*n*k<m
   ·have S:2*n*k+2*n<=m:=by
     rw[b] at a |-;have:k<i:=S9 a;have:=QP (2*n) (show k+1<=i by omega)
     rw[Ng] at this;omega
    have g:=C k a;rw[WI Q0]
    rw[d,WI Q0] at g
    exact g
   ·have L:2*n*k=m:=by
     rw[b] at v a |-;have E:2*n*k<2*n*(i+1):=by rw[Ng];omega
     have:k<i+1:=S9 E;have:¬ k<i:=λq=>a (Vk q Q0)
     rw[show k=i by omega]
    rw[L]
    have J:part (l.take m++(M++l.drop (m+c))) m (2*n)=M:=by
     rcases w with rfl|G
     ·exact zwn A.symm j.symm
     ·rw[Gm Q0,Eu]
      unfold part;rw[List.drop_left' A,BR Q0]
    have I:part D m (2*n)=part D m n++part D (m+n) n:=by
     rw[<-ZP D m n n (.inr trivial)];congr 1;omega
    rw[J,I];exact⟨u.trans (e.1.append (by rw[<-p];exact f.1)),H⟩
  ·have g:=o k Q0
   by_cases q:l.length<=n*k
   ·refine Uu ?_ ?_
    ·have:=Co List.length d
     rw[AJ,AJ,r] at this;rw[AJ,AJ,j,<-this];exact t
    ·have:=Co List.length d
     rw[AJ,AJ,r] at this;rw[AJ,AJ,j,<-this];exact q
   ·rw[zsr (M':=part l m c) Q0 Q0,<-d]
    exact g
theorem Br.rest{D l:List α}(h:Br R D n m l)(t:0<n)(f:m=2*n*k)(r:l.length<=m+n):Br R D (2*n) 0 l:=by
 obtain⟨c,o,p⟩:=h;refine⟨c,λa q=>by omega,λa q=>?_⟩
 by_cases d:2*n*a<m
 ·exact o a d
 ·by_cases g:2*n*a=m
  ·have i:=p (2*k) (by rw[f,<-Lx,Km n 2];exact Af _)
   have j:n*(2*k)=m:=by rw[f,<-Lx,Km n 2]
   rw[j] at i;rw[g]
   have e:∀b:List α,b.length=l.length->part b m (2*n)=part b m n:=λb s=>by
    unfold part;rw[BR Q4,BR Q4]
   rw[e l rfl,e D c.symm];exact i
  ·refine Uu c ?_
   have:k<a:=by
    rw[f] at d g;rcases KJ a k with h|h|h
    ·exact absurd (Vk h (by omega:0<2*n)) d
    ·subst h;exact absurd rfl g
    ·exact h
   have:=QP (2*n) (show k+1<=a by omega)
   rw[Ng] at this;omega
theorem Br.up{D l:List α}(h:Br R D n m l)(f:l.length<=m):Br R D (2*n) 0 l:=by
 obtain⟨a,b,e⟩:=h;refine⟨a,λk c=>by omega,λk c=>?_⟩
 by_cases d:2*n*k<m
 ·exact b k d
 ·exact Uu a Q0
theorem Br.whole{D l:List α}(h:Br R D n 0 l)(a:l.length<=n):Rn R l D:=by
 have g:=h.2.2 0 Q0
 have e:∀m:List α,m.length=l.length->part m (n*0) n=m:=λm b=>by
  unfold part;rw[Nat.mul_zero,Ni,BR Q0]
 rwa [e l rfl,e D h.1.symm] at g
def Cm(R:α->α->Prop)(D:List α)(s a:Nat)(l:List α):Prop:=∃X,l=X++D.drop a/\X.length=a/\a<=D.length/\∀k,s*k<a->Rn R (part X (s*k) s) (part D (s*k) s)
theorem Cm.start(D:List α)(s:Nat):Cm R D s 0 D:=⟨[],Q6,rfl,BI _,λk a=>by omega⟩
theorem Cm.length{D l:List α}(h:Cm R D n m l):l.length=D.length:=by
 obtain⟨X,rfl,a,b,_⟩:=h;simp;omega
theorem Cm.next{D l:List α}(h:Cm R D s m l)(u:0<s)(e:m=s*i)(z:c<=s)(r:m+c<=D.length)(v:c=s\/m+c=D.length) :
 ∃X U Y,l=X++(U++Y)/\X.length=m/\U.length=c/\(D.Pairwise (IB R lt)->U.Pairwise (IB R lt))/\∀M,M.Perm U->M.Pairwise R->Cm R D s (m+c) (X++(M++Y)):=by
 obtain⟨X,rfl,b,y,j⟩:=h;refine⟨X,part D m c,D.drop (m+c),?_,b,by simp[part];omega,λo=>?_,λM d t=>⟨X++M,Q6,?_,r,λk q=>?_⟩⟩
 ·congr 1
  rw[<-Er c (D.drop m),List.drop_drop];rfl
 ·exact o.sublist ((Re _ _).trans (Rh _ _))
 ·rw[AJ,b,d.length_eq];simp[part];omega
 ·have B:M.length=c:=by rw[d.length_eq];simp[part];omega
  by_cases a:s*k<m
  ·have C:s*k+s<=m:=by
    rw[e] at a |-;have:k<i:=S9 a;have:=QP s (show k+1<=i by omega)
    rw[Ng] at this;omega
   have:=WI (X:=X) (M:=M) (Y:=[]) (p:=s*k) (s:=s) Q0
   rw[Eu] at this;rw[this];exact j k a
  ·have x:s*k=m:=by
    rw[e] at q a |-;have n:s*k<s*(i+1):=by rw[Ng];omega
    have:k<i+1:=S9 n;have:¬ k<i:=λw=>a (Vk w u);rw[show k=i by omega]
   rw[x]
   have f:part (X++M) m s=M:=by
    unfold part;rw[List.drop_left' b,BR Q0]
   have g:part D m s=part D m c:=by
    rcases v with rfl|A
    ·rfl
    ·unfold part
     rw[BR Q4,BR Q4]
   rw[f,g];exact⟨d,t⟩
theorem Cm.done{D l:List α}(h:Cm R D n D.length l):Br R D n 0 l:=by
 obtain⟨X,rfl,a,d,c⟩:=h;rw[List.drop_length,Eu];refine⟨a,λk b=>by omega,λk _=>?_⟩
 by_cases b:n*k<D.length
 ·exact c k b
 ·exact Uu a Q0
end
end Go.Proofs.YtoejfkeofbdalaaGreatDoor
namespace Go.Proofs.YtoejfkeofbdalaaGreatDoor
open Go.RowKit
variable {D:Nat->Nat} {f:List Nat} {k m n:Nat}
structure Ld(N:Nat)(D:Nat->Nat)(U:List Nat)(f:Nat)(s:List NP)(n:Nat):Prop where
 row:ER s n
 len:s.length+n=2*N
 fuel:s.length<=f
 ul:U.length=2*N-1
 old:∀x,x<n->(∀y∈s,y.2≠x)->∃p,U[x]?=some p/\x<p/\p<n/\D x=D p+1
 now:∀x,(n<=x\/∃y∈s,y.2=x)->D x=C9 f s n x
 last:N<n->∃y∈s,y.2+1=n
theorem Ld.start(b:∀x∈f,1<=x)(U:List Nat)(a:U.length=2*f.length-1):Ld f.length (DB f) U f.length (Gu (DF f)) f.length:=by
 have e:(Gu (DF f)).length=f.length:=by rw[R7,PQ]
 refine⟨TL b,Q0,Q0,a,λx c d=>?_,λx _=>rfl,λh=>by omega⟩
 exfalso
 exact d (f[x],x) (UE (Az c)) rfl
theorem Ld.step{a b:NP}{r:List NP}(h:Ld n D f (m+1) (a::b::r) k) :
 Ld n D ((f.set a.2 k).set b.2 k) m (Eg (a.1+b.1,k) r) (k+1)/\a.2<f.length/\b.2<f.length/\a.2≠b.2:=by
 obtain⟨g,E,z,B,F,j,-⟩:=h;have I:=g.lt a Q6
 have J:=g.lt b Q6
 simp only[Bt] at E z;have A:b.2≠a.2:=(Be.cons.1 g.nums).1 b Q6
 have H:(Eg (a.1+b.1,k) r).length=r.length+1:=Tz _ _
 have o:D k=C9 m (Eg (a.1+b.1,k) r) (k+1) k:=by
  rw[j k (.inl (Af _)),C9,if_neg Q0]
 have q:a.2<f.length:=Q0
 have s:b.2<f.length:=Q0
 refine⟨⟨g.step,Q0,Q0,by simp[B],λx i t=>?_,λx i=>?_,λ_=>⟨_,AY.2 (.inl rfl),rfl⟩⟩,q,s,λe=>A e.symm⟩
 ·have K:x≠k:=λe=>t _ (AY.2 (.inl rfl)) e.symm
  rw[P7,P7]
  by_cases d:b.2=x
  ·subst d
   refine⟨k,by simp[s],Q0,Q0,?_⟩
   rw[j b.2 (.inr ⟨b,Q6,rfl⟩),C9,if_pos (.inr rfl),o]
  ·by_cases l:a.2=x
   ·subst l
    refine⟨k,by simp[d,q],Q0,Q0,?_⟩
    rw[j a.2 (.inr ⟨a,Q6,rfl⟩),C9,if_pos (.inl rfl),o]
   ·obtain⟨p,u,v,G,w⟩:=F x Q0 (λy c=>by
     rcases CZ.1 c with rfl|c
     ·exact l
     ·rcases CZ.1 c with rfl|c
      ·exact d
      ·exact t y (AY.2 (.inr c)))
    exact⟨p,by simp[d,l,u],v,Q0,w⟩
 ·have C:x≠a.2/\x≠b.2:=by
   rcases i with i|⟨y,c,rfl⟩
   ·omega
   ·rcases AY.1 c with rfl|c
    ·simp only;omega
    ·exact⟨(Be.cons.1 g.nums).1 y (by simp[c]),(Be.cons.1 (Be.cons.1 g.nums).2).1 y c⟩
  have d:D x=C9 (m+1) (a::b::r) k x:=j x (by
   rcases i with i|⟨y,c,rfl⟩
   ·exact .inl Q0
   ·rcases AY.1 c with rfl|c
    ·exact .inl (Af _)
    ·exact .inr ⟨y,by simp[c],rfl⟩)
  rw[d,C9,if_neg (by simp[C])]
theorem Ld.done{s:List NP}(h:Ld n D f m s k)(A:k=2*n-1)(v:2<=n) :
 D (2*n-2)=0/\∀x,x<2*n-2->∃p,f[x]?=some p/\x<p/\p<=2*n-2/\D x=D p+1:=by
 obtain⟨B,c,w,E,t,q,d⟩:=h
 obtain⟨z,rfl⟩:∃z,s=[z]:=by
  match s,c with
  | [],c=>simp at c;omega
  | [z],_=>exact⟨z,rfl⟩
  |a::b::r,c=>simp at c;omega
 obtain⟨y,j,F⟩:=d Q0
 clear d;obtain rfl:y=z:=by simpa using j
 have o:y.2=2*n-2:=Q0
 refine⟨?_,λx C=>?_⟩
 ·rw[<-o,q y.2 (.inr ⟨y,Q6,rfl⟩)]
  cases m with
  |zero=>rfl
  |succ m=>rfl
 ·obtain⟨p,e,g,u,i⟩:=t x Q0 (λz l=>by
   obtain rfl:z=y:=by simpa using l
   omega)
  exact⟨p,e,g,Q0,i⟩
theorem zwq(x:NP)(l:List NP):((Eg x l).map (·.1)).sum=x.1+(l.map (·.1)).sum:=by
 rw[Uq (λy:NP=>y.1) (OD x l),Dz,IL]
theorem zoO(a:List Nat)(k x:Nat)(h:a[k]?=some x):(DF a).take (k+1)=(DF a).take k++[(x,k)]:=by
 rw[G7];congr 1
 unfold DF;rw[List.getElem?_zipIdx,h];simp
theorem zrv(a:List Nat):((DF a).map (·.1)).sum=a.sum:=by
 unfold DF;rw[show(λx:NP=>x.1)=Prod.fst from rfl,XR]
def FC(w:List Nat):List Nat:=w.map λx=>x / 2+1
theorem TH(w:List Nat):(FC w).length=w.length:=by simp[FC]
theorem znM(w:List Nat):∀x∈FC w,1<=x:=λx a=>by
 simp only[FC,C8] at a;obtain⟨y,_,rfl⟩:=a;omega
theorem znK(w:List Nat)(i:Nat):(FC w)[i]?=w[i]?.map λx=>x / 2+1:=by simp[FC]
def KO(w:List Nat)(a:Nat):Bool:=(Dl w).any λd=>decide (a<d)
def KR:Nat->List Nat->Nat->List Nat
 |0,w,_=>Dl w
 |n+1,w,most=>if KO w most then KR n (FC w) most else Dl w
theorem ZF(w:List Nat)(c:Nat):KO w c=true↔∃i,i<w.length/\c<DB w i:=by
 unfold KO;rw[J8]
 constructor
 ·rintro⟨d,e,h⟩
  obtain⟨i,a,f⟩:=QV e;rw[JA] at a;have b:=O5 w i a;rw[Az (by rw[JA];exact a),f] at b
  injection b with b
  exact⟨i,a,by rw[<-b];simpa using h⟩
 ·rintro⟨i,a,h⟩
  exact⟨DB w i,Cn (O5 w i a),by simpa using h⟩
theorem zn3(e:∀x∈f,1<=x)(b:2<=f.length)(p:f.length<=258)(j:∀x∈f,x<=2):∀i,i<f.length->DB f i<=9:=by
 obtain⟨d,g,l,_⟩:=zpS e b (λi k a c=>zwF e b (Az a) (Az c) (.inr (j _ (Et c))))
 have o:d<9:=by
  rcases Gb d 9 with h|h
  ·exact h
  ·have m:(2:Nat)^ 9<=2 ^ d:=Jj Q0 h
   have n:(2:Nat)^ 9=512:=Q5
   omega
 intro i a;have:=g i a;omega
theorem zvf(w:List Nat)(b:∀x∈w,1<=x):(FC w).sum<=w.sum/\((∃x∈w,3<=x)->(FC w).sum<w.sum):=by
 induction w with
 |nil=>exact⟨Af _,λ⟨x,a,_⟩=>by simp at a⟩
 | cons y w f =>
   obtain⟨g,c⟩:=f λx a=>b x (by simp[a])
   have h:=b y Q6
   have e:(FC (y::w)).sum=(y / 2+1)+(FC w).sum:=by simp[FC]
   rw[e,IL];refine⟨Q0,λ⟨x,a,d⟩=>?_⟩
   rcases CZ.1 a with rfl|a
   ·omega
   ·have:=c ⟨x,a,d⟩
    omega
theorem ztW(a:∀x∈f,1<=x)(h:0<f.length):0<f.sum:=by
 cases f with
 |nil=>simp at h
 |cons x f=>have:=a x Q6;rw[IL];omega
theorem Wm(a:∀x∈f,1<=x)(c:2<=f.length)(l:f.length<=258){n:Nat}(q:9<=n)(b:KO f n=true){m:Nat}(r:f.sum<=m):∃k,m=k+1/\(FC f).sum<=k/\KR m f n=KR k (FC f) n:=by
 have o:=ztW a Q0
 obtain⟨k,rfl⟩:∃k,m=k+1:=⟨m-1,Q0⟩
 have d:∃x∈f,3<=x:=by
  obtain⟨i,e,p⟩:=(ZF f n).1 b;refine Classical.byContradiction λj=>?_
  have:=zn3 a c l (λx g=>by
   rcases Gb x 3 with h|h
   ·omega
   ·exact absurd ⟨x,g,h⟩ j) i e
  omega
 have:=(zvf f a).2 d;exact⟨k,rfl,Q0,by rw[KR,if_pos b]⟩
theorem YB(b:KO f n=false)(a:Nat):KR a f n=Dl f:=by
 cases a with
 |zero=>rfl
 |succ a=>rw[KR,if_neg (by rw[b];simp)]
theorem zlx(n:Nat):∀(w:List Nat)(a:Nat),(∀x∈w,1<=x)->2<=w.length->w.length<=258->9<=a->w.sum<=n ->
 ∃u,KR n w a=Dl u/\u.length=w.length/\(∀x∈u,1<=x)/\(∀i,i<w.length->DB u i<=a)/\(∀i k:Nat,w[i]?=w[k]?->u[i]?=u[k]?)/\(KO w a=false->u=w):=by
 induction n with
 | zero =>
   intro w a b c _ _ g;have:=ztW b Q0
   omega
 | succ n r =>
   intro w a b c l f g;cases ht:KO w a with
   | false =>
     refine⟨w,YB ht _,rfl,b,λi q=>?_,λi k h=>h,λ_=>rfl⟩;rcases Gb a (DB w i) with h|h
     ·have:=(ZF w a).2 ⟨i,q,h⟩
      rw[ht] at this;cases this
     ·exact h
   | true =>
     obtain⟨k,v,s,t⟩:=Wm b c l f ht g;obtain rfl:n=k:=Q0
     obtain⟨u,m,d,o,e,p,_⟩:=r (FC w) a (znM w) (by rw[TH];exact c) (by rw[TH];exact l) f s
     rw[TH] at d e;exact⟨u,t.trans m,d,o,e,λi j h=>p i j (by rw[znK,znK,h]),λh=>by cases h⟩
