import Derived.Test.YtoejfkeofbdalaaGreatDoorM02
set_option linter.unusedVariables false
set_option maxRecDepth 100000
set_option maxHeartbeats 8000000
namespace Go.Proofs.YtoejfkeofbdalaaGreatDoor
section
variable {α:Type}
theorem zdo {L M:List α} {x:α} (y:α) {k:Nat} (h:k=L.length):(L++x::M).set k y=L++y::M:=by subst h;simp
theorem zcV {L M:List α} {x:α} {k:Nat} (h:k=L.length):(L++x::M)[k]?=some x:=by subst h;simp
def Swapped (P A Q B S:List α) (i:Nat) (l:List α):Prop:=∃ A1 A2 B1 B2,A=A1++A2∧B=B1++B2∧A1.length=i∧B1.length=i∧l=P++(B1++(A2++(Q++(A1++(B2++S)))))
theorem Swapped.start (P A Q B S:List α):Swapped P A Q B S 0 (P++(A++(Q++(B++S)))):=⟨[],A,[],B,rfl,rfl,rfl,rfl,by simp⟩
theorem Swapped.length {P A Q B S l:List α} {i:Nat} (h:Swapped P A Q B S i l):l.length=P.length+A.length+Q.length+B.length+S.length:=by
  obtain⟨A1,A2,B1,B2,rfl,rfl,h1,h2,rfl⟩:=h;simp;omega
theorem Swapped.step {P A Q B S l:List α} {i:Nat} (h:Swapped P A Q B S i l) (hA:i<A.length) (hB:i<B.length) {p q:Nat} (hp:p=P.length+i) (hq:q=P.length+A.length+Q.length+i) :
    ∃ x y,l[p]?=some x∧l[q]?=some y∧Swapped P A Q B S (i+1) ((l.set p y).set q x):=by
  obtain⟨A1,A2,B1,B2,rfl,rfl,h1,h2,rfl⟩:=h;cases A2 with
  | nil=>simp at hA;omega
  | cons x A2 =>
    cases B2 with
    | nil=>simp at hB;omega
    | cons y B2 =>
      refine⟨x,y,?_,?_,A1++[x],A2,B1++[y],B2,by simp,by simp,by simp[h1],by simp[h2],?_⟩
      · rw[←List.append_assoc];exact zcV (by simp;omega)
      · rw[show P++(B1++(x::A2++(Q++(A1++(y::B2++S)))))=(P++(B1++(x::A2++(Q++A1))))++y::(B2++S) by simp]
        exact zcV (by simp at hq ⊢;omega)
      · have e1:(P++(B1++(x::A2++(Q++(A1++(y::B2++S)))))).set p y=P++(B1++(y::A2++(Q++(A1++(y::B2++S))))):=by
          have:=zdo (L:=P++B1) (M:=A2++(Q++(A1++(y::B2++S)))) (x:=x) y (k:=p) (by simp;omega)
          simpa using this
        have e2:(P++(B1++(y::A2++(Q++(A1++(y::B2++S)))))).set q x=P++(B1++(y::A2++(Q++(A1++(x::B2++S))))):=by
          have:=zdo (L:=P++(B1++(y::A2++(Q++A1)))) (M:=B2++S) (x:=y) x (k:=q) (by simp at hq ⊢;omega)
          simpa using this
        rw[e1,e2];simp
theorem Swapped.end_ {P A Q B S l:List α} {i:Nat} (h:Swapped P A Q B S i l) (hA:A.length=i) (hB:B.length=i):l=P++(B++(Q++(A++S))):=by
  obtain⟨A1,A2,B1,B2,rfl,rfl,h1,h2,rfl⟩:=h;have:A2=[]:=List.eq_nil_of_length_eq_zero (by simp at hA;omega)
  have:B2=[]:=List.eq_nil_of_length_eq_zero (by simp at hB;omega)
  subst A2 B2;simp
def Turning (F:List α) (m i j:Nat) (l:List α):Prop:=∃ X U V Y,l=X++(U++(V++Y))∧X.length+i=m∧U.length=i∧V.length=j∧F=X++(V++(U++Y))
theorem Turning.more {F l:List α} {m i j:Nat} (h:Turning F m i j l) (hij:j<i) :
    ∃ P A Q B S,l=P++(A++(Q++(B++S)))∧P.length=m-i∧A.length=j∧Q.length=i-j∧B.length=j∧i≤m∧Turning F m (i-j) j (P++(B++(Q++(A++S)))):=by
  obtain⟨X,U,V,Y,rfl,h1,h2,h3,h4⟩:=h;refine⟨X,U.take j,U.drop j,V,Y,by rw[←List.append_assoc (U.take j),List.take_append_drop],by omega,by simp;omega,by simp;omega,h3,by omega,X++V,U.drop j,U.take j,Y,by simp,by simp;omega,by simp;omega,by simp;omega,?_⟩
  rw[h4];have e:U++Y=U.take j++(U.drop j++Y):=by rw[←List.append_assoc,List.take_append_drop]
  rw[e];simp
theorem Turning.less {F l:List α} {m i j:Nat} (h:Turning F m i j l) (hij:i<j) :
    ∃ P A Q B S,l=P++(A++(Q++(B++S)))∧P.length=m-i∧A.length=i∧Q.length=j-i∧B.length=i∧i≤m∧Turning F m i (j-i) (P++(B++(Q++(A++S)))):=by
  obtain⟨X,U,V,Y,rfl,h1,h2,h3,h4⟩:=h;refine⟨X,U,V.take (j-i),V.drop (j-i),Y,?_,by omega,h2,by simp;omega,by simp;omega,by omega,X,V.drop (j-i),V.take (j-i),U++Y,by simp,h1,by simp;omega,by simp;omega,?_⟩
  · rw[←List.append_assoc (V.take (j-i)),List.take_append_drop]
  · rw[h4]
    have e:V++(U++Y)=V.take (j-i)++(V.drop (j-i)++(U++Y)):=by rw[←List.append_assoc (V.take (j-i)),List.take_append_drop]
    rw[e]
theorem Turning.last {F l:List α} {m i:Nat} (h:Turning F m i i l) :
    ∃ P A B S,l=P++(A++([]++(B++S)))∧P.length=m-i∧A.length=i∧B.length=i∧i≤m∧F=P++(B++([]++(A++S))):=by
  obtain⟨X,U,V,Y,rfl,h1,h2,h3,h4⟩:=h;exact⟨X,U,V,Y,by simp,by omega,h2,h3,by omega,by simp[h4]⟩
theorem Turning.length {F l:List α} {m i j:Nat} (h:Turning F m i j l):l.length=F.length∧i≤m∧m+j≤l.length:=by
  obtain⟨X,U,V,Y,rfl,h1,h2,h3,rfl⟩:=h;simp;omega
end
section
variable {α:Type} (R:α→α→Prop) (lt:α→α→Bool)
def zwn (x y:α):Prop:=(lt y x=true→R y x)∧(lt y x=false→R x y)
def Sinking (X U Y:List α) (v:α) (j:Nat) (l:List α):Prop:=∃ U1 U2,U=U1++U2∧X.length+U1.length=j∧l=X++(U1++(v::(U2++Y)))∧∀ x∈U2,R v x
theorem Sinking.start {X U Y:List α} {v:α} {j:Nat} (h:X.length+U.length=j):Sinking R X U Y v j (X++(U++(v::Y))):=⟨U,[],by simp,h,by simp,fun x hx=>by simp at hx⟩
variable {R lt}
theorem Sinking.step {X U Y l:List α} {v:α} {j:Nat} (h:Sinking R X U Y v j l) (hc:∀ x∈U,zwn R lt x v) (hj:X.length<j) :
    ∃ x,l[j]?=some v∧l[j-1]?=some x∧(lt v x=true→Sinking R X U Y v (j-1) ((l.set j x).set (j-1) v)) ∧
      (lt v x=false→∃ U1 U2,U=U1++U2∧l=X++(U1++(v::(U2++Y)))∧(∀ y∈U2,R v y)∧∃ W,U1=W++[x]∧R x v):=by
  obtain⟨U1,U2,rfl,h1,rfl,h2⟩:=h;have hne:U1≠[]:=fun e=>by subst e;simp at h1;omega
  obtain⟨W,x,rfl⟩:∃ W x,U1=W++[x]:=⟨_,_,(List.dropLast_concat_getLast hne).symm⟩;have hx:=hc x (by simp)
  refine⟨x,?_,?_,fun hl=>⟨W,x::U2,by simp,by simp at h1;omega,?_,fun y hy=>?_⟩,fun hl=>⟨W++[x],U2,rfl,rfl,h2,W,rfl,hx.2 hl⟩⟩
  · rw[←List.append_assoc];exact zcV (by simp at h1 ⊢;omega)
  · rw[show X++(W++[x]++v::(U2++Y))=(X++W)++x::(v::(U2++Y)) by simp];exact zcV (by simp at h1 ⊢;omega)
  · have e1:=zdo (L:=X++(W++[x])) (M:=U2++Y) (x:=v) x (k:=j) (by simp at h1 ⊢;omega)
    have e2:=zdo (L:=X++W) (M:=x::(U2++Y)) (x:=x) v (k:=j-1) (by simp at h1 ⊢;omega)
    simp only[List.append_assoc,List.cons_append,List.nil_append] at e1 e2 ⊢;rw[e1,e2]
  · rcases List.mem_cons.1 hy with rfl | hy
    · exact hx.1 hl
    · exact h2 y hy
theorem zwU (ht:∀ x y z,R x y→R y z→R x z) {U1 U2:List α} {v:α} (hU:(U1++U2).Pairwise R) (h2:∀ y∈U2,R v y) (h1:U1=[]∨∃ W x,U1=W++[x]∧R x v) :
    (U1++v::U2).Pairwise R:=by
  obtain⟨p1,p2,p3⟩:=List.pairwise_append.1 hU;refine List.pairwise_append.2 ⟨p1,List.pairwise_cons.2 ⟨h2,p2⟩,fun x hx y hy=>?_⟩
  have hxv:R x v:=by
    rcases h1 with rfl | ⟨W,z,rfl,hz⟩
    · simp at hx
    · rcases List.mem_append.1 hx with hx | hx
      · exact ht _ _ _ ((List.pairwise_append.1 p1).2.2 x hx z (by simp)) hz
      · have:x=z:=by simpa using hx
        subst this;exact hz
  rcases List.mem_cons.1 hy with rfl | hy
  · exact hxv
  · exact p3 x hx y hy
def zwS (R:α→α→Prop) (l d:List α):Prop:=l.Perm d∧l.Pairwise R
def part (l:List α) (p s:Nat):List α:=(l.drop p).take s
theorem zwW {X M Y:List α} {p s:Nat} (h:p+s≤X.length):part (X++(M++Y)) p s=part X p s:=by
  unfold part;rw[List.drop_append_of_le_length (by omega),List.take_append_of_le_length (by simp;omega)]
theorem zw1 {X M M' Y:List α} {p s:Nat} (hM:M.length=M'.length) (h:X.length+M.length≤p):part (X++(M++Y)) p s=part (X++(M'++Y)) p s:=by
  unfold part
  have e:∀ N:List α,N.length=M.length→(X++(N++Y)).drop p=Y.drop (p-(X.length+M.length)):=fun N hN=>by
    rw[←List.append_assoc,List.drop_append,List.drop_eq_nil_of_le (by rw[List.length_append];omega),List.length_append,hN];rfl
  rw[e M rfl,e M' hM.symm]
theorem zw3 {X M Y:List α} {p s:Nat} (hp:p=X.length) (hs:s=M.length):part (X++(M++Y)) p s=M:=by
  subst hp hs;simp[part]
theorem zwX (l:List α) (p s t:Nat) (h:p+s≤l.length∨True):part l p (s+t)=part l p s++part l (p+s) t:=by
  unfold part;rw[←List.drop_drop,List.take_add]
theorem zw5 (l:List α) (p s:Nat):l=l.take p++(part l p s++l.drop (p+s)):=by
  conv=>lhs;rw[←List.take_append_drop p l,←List.take_append_drop s (l.drop p)]
  rw[List.drop_drop];rfl
theorem zw0 {l:List α} {p s:Nat} {x:α} (h:x∈part l p s):∃ i,p≤i∧i<p+s∧l[i]?=some x:=by
  obtain⟨i,hi,rfl⟩:=List.mem_iff_getElem.1 h;have hi':i<s∧i<l.length-p:=by simp only[part,List.length_take,List.length_drop] at hi;omega
  refine⟨p+i,by omega,by omega,?_⟩
  simp only[part,List.getElem_take,List.getElem_drop];rw[List.getElem?_eq_getElem (by omega)]
theorem zwZ {D U V:List α} (hD:D.Pairwise (zwn R lt)) {p s q t:Nat} (hpq:p+s≤q) (hU:U.Perm (part D p s)) (hV:V.Perm (part D q t)):∀ x∈U,∀ y∈V,zwn R lt x y:=by
  intro x hx y hy;obtain⟨i,hi1,hi2,hi⟩:=zw0 (hU.mem_iff.1 hx);obtain⟨j,hj1,hj2,hj⟩:=zw0 (hV.mem_iff.1 hy);obtain⟨hil,rfl⟩:=List.getElem?_eq_some_iff.1 hi;obtain⟨hjl,rfl⟩:=List.getElem?_eq_some_iff.1 hj;exact List.pairwise_iff_getElem.1 hD i j hil hjl (by omega)
def Blocks (R:α→α→Prop) (D:List α) (s a:Nat) (l:List α):Prop:=l.length=D.length∧(∀ k,2*s*k<a→zwS R (part l (2*s*k) (2*s)) (part D (2*s*k) (2*s)))∧∀ k,a≤s*k→zwS R (part l (s*k) s) (part D (s*k) s)
theorem zwV {l d:List α} {p s:Nat} (hl:l.length=d.length) (h:l.length≤p):zwS R (part l p s) (part d p s):=by
  have h1:part l p s=[]:=by unfold part;rw[List.drop_eq_nil_of_le h,List.take_nil]
  have h2:part d p s=[]:=by unfold part;rw[List.drop_eq_nil_of_le (by omega),List.take_nil]
  rw[h1,h2];exact⟨List.Perm.refl _,List.Pairwise.nil⟩
theorem Blocks.merge {D l:List α} {s a c k0:Nat} (h:Blocks R D s a l) (hs:0<s) (hk0:a=2*s*k0) (hc:s<c) (hc2:c≤2*s) (hl:a+c≤l.length) (hce:c=2*s∨a+c=l.length) :
    ∃ X U V Y,l=X++(U++(V++Y))∧X.length=a∧U.length=s∧V.length=c-s∧U.Pairwise R∧V.Pairwise R∧(D.Pairwise (zwn R lt)→∀ x∈U,∀ y∈V,zwn R lt x y) ∧
      ∀ M,M.Perm (U++V)→M.Pairwise R→Blocks R D s (a+2*s) (X++(M++Y)):=by
  obtain⟨h1,h2,h3⟩:=h;have ga:=h3 (2*k0) (by rw[hk0,←Nat.mul_assoc,Nat.mul_comm s 2];exact Nat.le_refl _)
  have gb:=h3 (2*k0+1) (by rw[hk0,Nat.mul_add,←Nat.mul_assoc,Nat.mul_comm s 2];omega)
  have ea:s*(2*k0)=a:=by rw[hk0,←Nat.mul_assoc,Nat.mul_comm s 2]
  have eb:s*(2*k0+1)=a+s:=by rw[Nat.mul_add,ea];omega
  rw[ea] at ga;rw[eb] at gb;have lenU:(part l a s).length=s:=by simp[part];omega
  have hV:part l (a+s) s=part l (a+s) (c-s):=by
    rcases hce with rfl | he
    · congr 1;omega
    · unfold part
      rw[List.take_of_length_le (by simp;omega),List.take_of_length_le (by simp;omega)]
  have zug:(part l (a+s) (c-s)).length=c-s:=by simp[part];omega
  have hsp:part l a c=part l a s++part l (a+s) (c-s):=by
    have:=zwX l a s (c-s) (.inr trivial);rw[show s+(c-s)=c by omega] at this
    exact this
  refine⟨l.take a,part l a s,part l (a+s) (c-s),l.drop (a+c),?_,by simp;omega,lenU,zug,ga.2,by rw[←hV];exact gb.2,fun hD=>?_,fun M hM hMp=>?_⟩
  · rw[←List.append_assoc (part l a s),←hsp]
    exact zw5 l a c
  · exact zwZ hD (Nat.le_refl _) ga.1 (by rw[←hV];exact gb.1)
  · have hMl:M.length=c:=by rw[hM.length_eq,List.length_append,lenU,zug];omega
    have hl3:l=l.take a++(part l a c++l.drop (a+c)):=zw5 l a c;have lenc:(part l a c).length=c:=by simp[part];omega
    have lenX:(l.take a).length=a:=by simp;omega
    refine⟨?_,fun k hk=>?_,fun k hk=>?_⟩
    · have:=congrArg List.length hl3
      rw[List.length_append,List.length_append,lenc] at this;rw[List.length_append,List.length_append,hMl,←this];exact h1
    · by_cases hk':2*s*k<a
      · have hle:2*s*k+2*s≤a:=by
          rw[hk0] at hk' ⊢;have:k<k0:=Nat.lt_of_mul_lt_mul_left hk';have:=Nat.mul_le_mul_left (2*s) (show k+1≤k0 by omega)
          rw[Nat.mul_add] at this;omega
        have g:=h2 k hk';rw[zwW (by omega)]
        rw[hl3,zwW (by omega)] at g
        exact g
      · have hk'':2*s*k=a:=by
          rw[hk0] at hk hk' ⊢;have h5:2*s*k<2*s*(k0+1):=by rw[Nat.mul_add];omega
          have:k<k0+1:=Nat.lt_of_mul_lt_mul_left h5;have:¬ k<k0:=fun hlt=>hk' (Nat.mul_lt_mul_of_pos_left hlt (by omega))
          rw[show k=k0 by omega]
        rw[hk'']
        have hpM:part (l.take a++(M++l.drop (a+c))) a (2*s)=M:=by
          rcases hce with rfl | he
          · exact zw3 lenX.symm hMl.symm
          · rw[List.drop_eq_nil_of_le (by omega),List.append_nil]
            unfold part;rw[List.drop_left' lenX,List.take_of_length_le (by omega)]
        have hpD:part D a (2*s)=part D a s++part D (a+s) s:=by
          rw[←zwX D a s s (.inr trivial)];congr 1;omega
        rw[hpM,hpD];exact⟨hM.trans (ga.1.append (by rw[←hV];exact gb.1)),hMp⟩
    · have g:=h3 k (by omega)
      by_cases hlt:l.length≤s*k
      · refine zwV ?_ ?_
        · have:=congrArg List.length hl3
          rw[List.length_append,List.length_append,lenc] at this;rw[List.length_append,List.length_append,hMl,←this];exact h1
        · have:=congrArg List.length hl3
          rw[List.length_append,List.length_append,lenc] at this;rw[List.length_append,List.length_append,hMl,←this];exact hlt
      · rw[zw1 (M':=part l a c) (by omega) (by omega),←hl3]
        exact g
theorem Blocks.rest {D l:List α} {s a k0:Nat} (h:Blocks R D s a l) (hs:0<s) (hk0:a=2*s*k0) (hl:l.length≤a+s):Blocks R D (2*s) 0 l:=by
  obtain⟨h1,h2,h3⟩:=h;refine⟨h1,fun k hk=>by omega,fun k hk=>?_⟩
  by_cases hk':2*s*k<a
  · exact h2 k hk'
  · by_cases hk'':2*s*k=a
    · have ga:=h3 (2*k0) (by rw[hk0,←Nat.mul_assoc,Nat.mul_comm s 2];exact Nat.le_refl _)
      have ea:s*(2*k0)=a:=by rw[hk0,←Nat.mul_assoc,Nat.mul_comm s 2]
      rw[ea] at ga;rw[hk'']
      have e:∀ m:List α,m.length=l.length→part m a (2*s)=part m a s:=fun m hm=>by
        unfold part;rw[List.take_of_length_le (by simp;omega),List.take_of_length_le (by simp;omega)]
      rw[e l rfl,e D h1.symm];exact ga
    · refine zwV h1 ?_
      have:k0<k:=by
        rw[hk0] at hk' hk'';rcases Nat.lt_trichotomy k k0 with h | h | h
        · exact absurd (Nat.mul_lt_mul_of_pos_left h (by omega:0<2*s)) hk'
        · subst h;exact absurd rfl hk''
        · exact h
      have:=Nat.mul_le_mul_left (2*s) (show k0+1≤k by omega)
      rw[Nat.mul_add] at this;omega
theorem Blocks.up {D l:List α} {s a:Nat} (h:Blocks R D s a l) (hl:l.length≤a):Blocks R D (2*s) 0 l:=by
  obtain⟨h1,h2,h3⟩:=h;refine⟨h1,fun k hk=>by omega,fun k hk=>?_⟩
  by_cases hk':2*s*k<a
  · exact h2 k hk'
  · exact zwV h1 (by omega)
theorem Blocks.whole {D l:List α} {s:Nat} (h:Blocks R D s 0 l) (hl:l.length≤s):zwS R l D:=by
  have g:=h.2.2 0 (by omega)
  have e:∀ m:List α,m.length=l.length→part m (s*0) s=m:=fun m hm=>by
    unfold part;rw[Nat.mul_zero,List.drop_zero,List.take_of_length_le (by omega)]
  rwa [e l rfl,e D h.1.symm] at g
def Firsts (R:α→α→Prop) (D:List α) (s a:Nat) (l:List α):Prop:=∃ X,l=X++D.drop a∧X.length=a∧a≤D.length∧∀ k,s*k<a→zwS R (part X (s*k) s) (part D (s*k) s)
theorem Firsts.start (D:List α) (s:Nat):Firsts R D s 0 D:=⟨[],by simp,rfl,Nat.zero_le _,fun k hk=>by omega⟩
theorem Firsts.length {D l:List α} {s a:Nat} (h:Firsts R D s a l):l.length=D.length:=by
  obtain⟨X,rfl,h1,h2,_⟩:=h;simp;omega
theorem Firsts.next {D l:List α} {s a c k0:Nat} (h:Firsts R D s a l) (hs:0<s) (hk0:a=s*k0) (hc:c≤s) (hl:a+c≤D.length) (hce:c=s∨a+c=D.length) :
    ∃ X U Y,l=X++(U++Y)∧X.length=a∧U.length=c∧(D.Pairwise (zwn R lt)→U.Pairwise (zwn R lt))∧∀ M,M.Perm U→M.Pairwise R→Firsts R D s (a+c) (X++(M++Y)):=by
  obtain⟨X,rfl,h1,h2,h3⟩:=h;refine⟨X,part D a c,D.drop (a+c),?_,h1,by simp[part];omega,fun hD=>?_,fun M hM hp=>⟨X++M,by simp,?_,hl,fun k hk=>?_⟩⟩
  · congr 1
    rw[←List.take_append_drop c (D.drop a),List.drop_drop];rfl
  · exact hD.sublist ((List.take_sublist _ _).trans (List.drop_sublist _ _))
  · rw[List.length_append,h1,hM.length_eq];simp[part];omega
  · have hMl:M.length=c:=by rw[hM.length_eq];simp[part];omega
    by_cases hk':s*k<a
    · have hle:s*k+s≤a:=by
        rw[hk0] at hk' ⊢;have:k<k0:=Nat.lt_of_mul_lt_mul_left hk';have:=Nat.mul_le_mul_left s (show k+1≤k0 by omega)
        rw[Nat.mul_add] at this;omega
      have:=zwW (X:=X) (M:=M) (Y:=[]) (p:=s*k) (s:=s) (by omega)
      rw[List.append_nil] at this;rw[this];exact h3 k hk'
    · have hk'':s*k=a:=by
        rw[hk0] at hk hk' ⊢;have h5:s*k<s*(k0+1):=by rw[Nat.mul_add];omega
        have:k<k0+1:=Nat.lt_of_mul_lt_mul_left h5;have:¬ k<k0:=fun hlt=>hk' (Nat.mul_lt_mul_of_pos_left hlt hs);rw[show k=k0 by omega]
      rw[hk'']
      have e1:part (X++M) a s=M:=by
        unfold part;rw[List.drop_left' h1,List.take_of_length_le (by omega)]
      have e2:part D a s=part D a c:=by
        rcases hce with rfl | he
        · rfl
        · unfold part
          rw[List.take_of_length_le (by simp;omega),List.take_of_length_le (by simp;omega)]
      rw[e1,e2];exact⟨hM,hp⟩
theorem Firsts.done {D l:List α} {s:Nat} (h:Firsts R D s D.length l):Blocks R D s 0 l:=by
  obtain⟨X,rfl,h1,h2,h3⟩:=h;rw[List.drop_length,List.append_nil];refine⟨h1,fun k hk=>by omega,fun k _=>?_⟩
  by_cases hk:s*k<D.length
  · exact h3 k hk
  · exact zwV h1 (by omega)
end
end Go.Proofs.YtoejfkeofbdalaaGreatDoor
namespace Go.Proofs.YtoejfkeofbdalaaGreatDoor
open Go.RowKit
def znF (p:Int→Bool) (l:List Int):Int:=if l.any p then ((l.takeWhile fun x=>!p x).length:Nat) else -1
theorem zqR (p:Int→Bool) (l:List Int):decide (0≤znF p l)=l.any p:=by
  unfold znF;split
  · rename_i h;rw[h];simp
  · rename_i h
    have:l.any p=false:=by simpa using h
    rw[this];rfl
theorem ziB {p:Int→Bool} {l:List Int} {k:Nat} {x:Int} (hk:l[k]?=some x) (hx:p x=true) (hn:∀ (j:Nat) y,j<k→l[j]?=some y→p y=false):znF p l=(k:Int):=by
  have hany:l.any p=true:=List.any_eq_true.2 ⟨x,List.mem_of_getElem? hk,hx⟩;unfold znF;rw[if_pos hany];congr 1
  induction l generalizing k with
  | nil=>simp at hk
  | cons y l ih =>
    cases k with
    | zero =>
      have:y=x:=by simpa using hk
      subst this;simp[hx]
    | succ k =>
      have hy:=hn 0 y (by omega) rfl
      have hk':l[k]?=some x:=by simpa using hk
      rw[List.takeWhile_cons,hy];simp only[Bool.not_false,if_true,List.length_cons];rw[ih hk' (fun j z hj hz=>hn (j+1) z (by omega) (by simpa using hz)) (List.any_eq_true.2 ⟨x,List.mem_of_getElem? hk',hx⟩)]
theorem zkl {p:Int→Bool} {l:List Int} (hn:∀ (j:Nat) y,l[j]?=some y→p y=false):znF p l = -1:=by
  have hany:l.any p=false:=by
    rw[List.any_eq_false];intro x hx;obtain⟨j,hj⟩:=List.getElem?_of_mem hx;simp[hn j x hj]
  unfold znF;rw[hany];rfl
theorem zeY (w:World) (v:Value) (xs:List Int) (p:Int→Bool) (k:Nat) (cap:Array Value) (hk:Enters Tryz.prog k) (hv:IsInts w w.heap.size v xs) (hlen:xs.length≤281474976710656)
    (hf:∀ x∈xs,∀ W,Below w.heap.size w W→Calls Tryz.prog k (#[.int .i64 x]++cap) W fun e W'=>e=.returned (.bool (p x))∧W=W') :
    Calls Tryz.prog 142 #[v,.func (.func k) #[] cap] w fun e w'=>e=.returned (.int .i64 (znF p xs))∧Below w.heap.size w w':=by
  obtain⟨A,ca,rfl,hc1,hc2⟩:=hv.shape;obtain⟨N,hN⟩:∃ N,xs.length=N:=⟨_,rfl⟩;rw[hN] at hv hc1 ⊢;have Hv:=Lib.hid hv;have Hf:=Lib.hid hf;have HN:=Lib.hid hN;have hlN:N≤281474976710656:=by omega
  clear hv hf hN hlen;have hen:=hk;unfold Enters at hen
  go_enter Tryz.func142,Tryz.ntmps142
  go_wp2
  go_loopw [8] (fun i wr=>∃ j:Nat,j≤N∧i=.int .i64 j∧Hid (∀ i y,i<j→xs[i]?=some y→p y=false)∧Below w.heap.size w wr) (fun i _=>N+1-(intOf i).toNat)
  case atStart=>exact⟨0,Nat.zero_le _,rfl,fun i y h=>by omega,Below.refl _ _⟩
  case round =>
    obtain⟨j,hj,rfl,hall,hB⟩:=hrel
    by_cases hlt:j<N
    · obtain⟨g,o,rfl,hg,hx⟩:=Hv.out.at j (by rw[HN.out];exact hlt)
      obtain⟨x,hxe⟩:∃ x,xs[j]?=some x:=⟨_,List.getElem?_eq_getElem (by rw[HN.out];exact hlt)⟩
      rw[hxe] at hx;simp only[Option.getD_some] at hx;have hx':wr.cell? ⟨g,o+j,none⟩=some (.int .i64 x):=(hB.cell (p:=⟨g,o+j,none⟩) hg).trans hx;have C:=Lib.hid (Hf.out x (List.mem_of_getElem? hxe) wr hB);have Hxe:=Lib.hid hxe;obtain⟨px,hpx⟩:∃ b,p x=b:=⟨_,rfl⟩;rw[hpx] at C;have Hpx:=Lib.hid hpx;clear hx hxe hpx
      go_wp2_with fail
      refine C.out.mono ?_;rintro e w1 ⟨rfl,rfl⟩;cases px with
      | true =>
        go_wp2_with fail
        go_ret
        exact⟨zbU (ziB Hxe.out Hpx.out hall).symm,hB⟩
      | false =>
        go_wp2_with fail
        go_roundw
        case rel=>exact⟨j+1,by omega,by go_num,fun i y hi hy=>(by
          by_cases e:i=j
          · subst e;rw[Hxe.out] at hy;injection hy with hy;subst hy;exact Hpx.out
          · exact hall i y (by omega) hy),hB⟩
        case measure=>simp[intOf];omega
    · obtain rfl:j=N:=by omega
      go_wp2
      go_ret
      refine⟨zbU (zkl fun i y hy=>hall i y ?_ hy).symm,hB⟩;rw[←HN.out];exact (List.getElem?_eq_some_iff.1 hy).1
theorem zaO (w:World) (v:Value) (xs:List Int) (p:Int→Bool) (k:Nat) (cap:Array Value) (hk:Enters Tryz.prog k) (hv:IsInts w w.heap.size v xs) (hlen:xs.length≤281474976710656)
    (hf:∀ x∈xs,∀ W,Below w.heap.size w W→Calls Tryz.prog k (#[.int .i64 x]++cap) W fun e W'=>e=.returned (.bool (p x))∧W=W') :
    Calls Tryz.prog 82 #[v,.func (.func k) #[] cap] w fun e w'=>e=.returned (.bool (xs.any p))∧Below w.heap.size w w':=by
  have C:=Lib.hid (zeY w v xs p k cap hk hv hlen hf);have hg:=zqR p xs;generalize znF p xs=z at *
  have Hg:=Lib.hid hg;clear hf hv hg
  go_enter Tryz.func82,Tryz.ntmps82
  go_wp2_with fail
  refine C.out.mono ?_;rintro e w1 ⟨rfl,hB⟩
  go_wp2_with fail
  go_ret
  exact⟨zfy Hg.out,hB⟩
end Go.Proofs.YtoejfkeofbdalaaGreatDoor
