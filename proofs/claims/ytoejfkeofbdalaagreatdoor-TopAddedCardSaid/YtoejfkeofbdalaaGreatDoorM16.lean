import Derived.Test.YtoejfkeofbdalaaGreatDoorM11
import Derived.Test.YtoejfkeofbdalaaGreatDoorM14
import Derived.Test.YtoejfkeofbdalaaGreatDoorM13
import Derived.Test.YtoejfkeofbdalaaGreatDoorM15
import Derived.Deep.RegionLaw
import Derived.LoopN
import Derived.Deep.Cut
import Derived.Deep.RegionWith
set_option linter.all false
set_option maxRecDepth 100000
set_option maxHeartbeats 8000000
namespace Go.Proofs.YtoejfkeofbdalaaGreatDoor
open Go.RowKit
variable {a:Type} {m n:Nat} {s:List Value} {u v w:World} {x:Value}
def Dc(w:World)(b:Nat)(a:List (List Bool)):Prop:=∃v,Qg w b #[v] 118/\w.ownsRow (b+1) 50 2 v a.length (DW (a.map Dp))
structure BM(wb:Nat)(w w':World):Prop where
 bel:Below wb w w'
 size:w.heap.size<=w'.heap.size
 other:∀(k:Nat)(cs:Array Value)(t:TypeId),t≠118->t≠50->Qh w k (Obj.cells cs t (0,0))->Qh w' k (Obj.cells cs t (0,0))
theorem BM.of{wb:Nat}(h:Qb w v)(b:wb<=w.heap.size):BM wb w v:=⟨h.mono b,h.size,λk c t _ _ a=>(h.block k (Aj a)).trans a⟩
theorem BM.trans(h:BM n w v)(g:BM n v u):BM n w u:=⟨h.bel.trans g.bel,BU h.size g.size,λk a t b c d=>g.other k a t b c (h.other k a t b c d)⟩
theorem BM.own{base k i j:Nat}(h:BM n w v)(a:w.ownsRow base k i x j s)(l:k≠118)(m:k≠50):v.ownsRow base k i x j s:=by
 refine⟨a.1,?_⟩;rcases a.2 with f|⟨g,o,p,b,c,d,e⟩
 ·exact .inl f
 ·exact .inr ⟨g,o,p,b,c,h.other g _ _ l m d,e⟩
theorem BM.sl{L:List SV}(h:BM n w v)(a:AC w m x L):AC v m x L:=⟨h.own a.own Q5 Q5,λp b=>h.own (a.has p b) Q5 Q5⟩
theorem Uh:Dh 106 50 (.agg #[.string ⟨#[]⟩,Qi 0]) 2 24:=⟨Tryz.underlying106,zmD,rfl,Q5⟩
theorem VK(h:w.ownsRow n 50 2 x m s){k:Nat}(a:x.ownBlock=some k):n<=k:=Dm h a
theorem zmb{y:Value}{D:List Bool}{C:List (List Bool)}(i:Qg w n #[x] 118)(l:w.ownsRow (n+1) 50 2 x C.length (DW (C.map Dp)))
 (c:Qb w v) (d:v.grownBy u x.ownBlock) (j:u.ownsRow (n+1) 50 2 y (C.length+1) (DW (C.map Dp)++[.string (Ba D),Qi (D.length:Nat)])) :
 Dc (u.setCell ⟨n,0,none⟩ y) n (C++[D])/\BM n w (u.setCell ⟨n,0,none⟩ y):=by
 have q:=Aj i;have o:∀k,x.ownBlock=some k->n+1<=k:=λk a=>VK l a;have K:=c.size;have H:Qg v n #[x] 118:=(c.block n q).trans i;have I:Qg u n #[x] 118:=(d.block n Q0 (λe=>by have:=o n e.symm;omega)).trans H
 refine⟨⟨y,?_,?_⟩,?_,?_,?_⟩
 ·have:=Ak I 0 y
  simpa using this
 ·have f:(C++[D]).length=C.length+1:=by simp
  have h:DW ((C++[D]).map Dp)=DW (C.map Dp)++[.string (Ba D),Qi (D.length:Nat)]:=by simp[DW,Dp]
  rw[f,h];refine⟨j.1,?_⟩;rcases j.2 with z|⟨g,E,m,f,h,r,s⟩
  ·exact .inl z
  ·exact .inr ⟨g,E,m,f,h,(Bg _ ⟨n,0,none⟩ _ g (by show g≠n;omega)).trans r,s⟩
 ·exact(((c.mono (KI q))).grown d Q0 (λk a=>by have:=o k a;omega)).setCell (p:=⟨n,0,none⟩) (Af _) _
 ·have:=d.size
  simp only[World.setCell,Array.size_modify];omega
 ·intro k J t A B a
  have F:=Aj a
  have G:k≠n:=λe=>by
   subst e;rw[i] at a;injection a with a
   injection a with _ a
   exact A a.symm
  rw[Bg _ ⟨n,0,none⟩ _ k G];rw[d.block k Q0 (λe=>?_)]
  ·exact(c.block k F).trans a
  ·obtain⟨m,b⟩:=Gr l e.symm
   rw[a] at b;injection b with b
   injection b with _ b
   exact B b
theorem Uv(w:World)(a:Nat)(b:List (List Bool))(l:List Bool)(u:Int)(z:Dc w a b)(I:b.length<=100000) :
 Qk 59 #[Qp a 0,.agg #[.string (Ba l),Qi (l.length:Nat)],Qi u] w λe o=>e=.returned (.tuple #[])/\Dc o a (b++[l])/\BM a w o:=by
 obtain⟨v,k,m⟩:=z;obtain⟨J,G,rfl⟩:=EN m;have s:=Aa k;have q:=Aa m;have B:=Aj k;clear k m
 go_enter Tryz.func59,Tryz.ntmps59
 go_wp2_with fail
 obtain⟨f,d⟩:=Qe w.heap.size;have h:Qg (w.alloc (.cells #[.string (Ba l),Qi (l.length:Nat)] 50)) f #[.string (Ba l),Qi (l.length:Nat)] 50:=Am _ _ _ d.symm;have r:=Aa (Bb (.cells #[.string (Ba l),Qi (l.length:Nat)] 50) s.out);have p:=Aa (q.out.alloc (.cells #[.string (Ba l),Qi (l.length:Nat)] 50));have g:Hid (Qb w (w.alloc (.cells #[.string (Ba l),Qi (l.length:Nat)] 50))):=(Ag _ _).alloc (Af _) _;have C:(w.alloc (.cells #[.string (Ba l),Qi (l.length:Nat)] 50)).heap.size=f+1:=by simp[d]
 generalize w.alloc (.cells #[.string (Ba l),Qi (l.length:Nat)] 50)=F at*
 have Q:=(Ae h 0).trans rfl;have R:=(Ae h 1).trans rfl;have O:=(Ae r.out 0).trans rfl;rw[d] at B |-;have M:=Aa d;clear h d
 go_region_law
  (refine Tw Uh Q7 _ _ Q7 (a+1) _ b.length (DW (b.map Dp)) Q7 (p.out.alloc _) (f+2) 1 _ [.string (Ba l),Qi (l.length:Nat)] Q7 (Rd.mono (GX (Am _ _ _ C.symm) rfl Q7 (by simp[maxLen])) Q4) (by intro c n;simp at n;rcases n with rfl|rfl<;>rfl) Q0 Q0 Q4 ?_
   intro K H L t i D;have j:=(i.block a Q4 (λe=>by have:=VK p.out e.symm;omega)).trans (Bb _ r.out)
   have P:=(Ae j 0).trans rfl;have N:=Ah j 0;have E:=Aa t;have A:=Aa i;clear j t i D)
 all_goals
  obtain⟨x,y⟩:=zmb s.out q.out (by first|exact Ay g.out.drew _|exact(Ay g.out _).drew|exact Ay g.out _) A.out E.out
  exact Fu (Dw rfl _ _ _) rfl ⟨rfl,x,y⟩
theorem Rz(w:World)(wb:Nat)(b:List (List Bool))(v k:Nat)(l:List Bool)(H:Dc w wb b)(S:b.length<=100000)(G:v<18446744073709551616)(F:k<=64)(K:B.low v k=l) :
 Qk 58 #[Qp wb 0,.int .u64 (v:Nat),Qi (k:Nat)] w λe t=>e=.returned (.tuple #[])/\Dc t wb (b++[l])/\BM wb w t:=by
 obtain⟨V,o,p⟩:=H;obtain⟨T,Q,rfl⟩:=EN p;have r:=Aa λW=>Sc W v k l K G F;have A:=Aa o;have z:=Aa p;have q:=Aj o;clear o p
 go_enter Tryz.func58,Tryz.ntmps58
 go_wp2_with fail
 refine(r.out _).mono ?_;rintro e a ⟨rfl,f⟩;have I:=Aa (BM.of (wb:=wb) f (KI q));have i:=Aa ((f.block wb q).trans A.out);have x:=Aa (Cd z.out f);have L:=Aj i.out;clear f r A z q
 go_wp2_with fail
 obtain⟨g,d⟩:=Qe a.heap.size;have j:Qg (a.alloc (.cells #[.string (Ba l),Qi (l.length:Nat)] 50)) g #[.string (Ba l),Qi (l.length:Nat)] 50:=Am _ _ _ d.symm;have y:=Aa (Bb (.cells #[.string (Ba l),Qi (l.length:Nat)] 50) i.out);have u:=Aa (x.out.alloc (.cells #[.string (Ba l),Qi (l.length:Nat)] 50));have h:Hid (Qb a (a.alloc (.cells #[.string (Ba l),Qi (l.length:Nat)] 50))):=(Ag _ _).alloc (Af _) _;have M:(a.alloc (.cells #[.string (Ba l),Qi (l.length:Nat)] 50)).heap.size=g+1:=by simp[d]
 generalize a.alloc (.cells #[.string (Ba l),Qi (l.length:Nat)] 50)=P at*
 have a2:=(Ae j 0).trans rfl;have a3:=(Ae j 1).trans rfl;have a0:=(Ae y.out 0).trans rfl;rw[d] at L |-;have Y:=Aa d;clear j d
 go_region_law
  (refine Tw Uh Q7 _ _ Q7 (wb+1) _ b.length (DW (b.map Dp)) Q7 (u.out.alloc _) (g+2) 1 _ [.string (Ba l),Qi (l.length:Nat)] Q7 (Rd.mono (GX (Am _ _ _ M.symm) rfl Q7 (by simp[maxLen])) Q4) (by intro c s;simp at s;rcases s with rfl|rfl<;>rfl) Q0 Q0 Q4 ?_
   intro U R X C m N;have n:=(m.block wb Q4 (λe=>by have:=VK u.out e.symm;omega)).trans (Bb _ y.out)
   have a1:=(Ae n 0).trans rfl;have Z:=Ah n 0;have O:=Aa C;have J:=Aa m;clear n C m N)
 all_goals
  obtain⟨D,E⟩:=zmb i.out x.out (by first|exact Ay h.out.drew _|exact(Ay h.out _).drew|exact Ay h.out _) J.out O.out
  exact Fu (Dw rfl _ _ _) rfl ⟨rfl,D,I.out.trans E⟩
theorem zm1(a:Int)(w:World):Qk 52 #[Qi a] w λe d=>e=.returned (.bool (decide (1<=a)&& decide (a<=360)))/\w=d:=by
 go_enter Tryz.func52,Tryz.ntmps52
 by_cases c:1<=a
 ·have b:decide (1<=a)=true:=Bl c
  go_wp2_with fail
  go_ret
  exact⟨by first|rfl|(rw[b];rfl),rfl⟩
 ·have b:decide (1<=a)=false:=AV c
  go_wp2_with fail
  go_ret
  exact⟨by first|rfl|(rw[b];rfl),rfl⟩
abbrev XK:=Except Int (List Nat × Nat)
abbrev XX:=Except Int (List Nat × List Bool)
def LU{a:Type}(l:List Nat):Except Int (List Nat × a)->Except Int (List Nat × a)
 | .error e=>.error e
 | .ok (m,x)=>.ok (l++m,x)
theorem zxi(r:Except Int (List Nat × a)):LU [] r=r:=by
 cases r with
 |error e=>rfl
 |ok p=>rfl
theorem zuf(l m:List Nat)(r:Except Int (List Nat × a)):LU l (LU m r)=LU (l++m) r:=by
 cases r with
 |error e=>rfl
 |ok p=>simp[LU]
def NE(s:List UInt8):Nat->Nat->Nat->XK
 |0,_,a=>.ok ([],a)
 | c+1,now,a =>
   match KP s (8*s.length+1) now a with
   | .error e=>.error e
   | .ok (m,b)=>LU [m] (NE s c m b)
def NH(s:List UInt8)(a c:Nat):XK :=
 if 8*s.length<a+5 then .error 2
 else if B.num (B.slice s a 5)<1\/20<B.num (B.slice s a 5) then .error 3
 else NE s c (B.num (B.slice s a 5)) (a+5)
def FK:Nat->List Bool->Except Int (Nat × List Bool)
 |_,[]=>.error 2
 |n,false::r=>.ok (n,r)
 |_,[true]=>.error 2
 |n,true::b::r=>if b then(if 2<=n then FK (n-1) r else .error 3) else(if n<=19 then FK (n+1) r else .error 3)
def NG:Nat->Nat->List Bool->XX
 |0,_,l=>.ok ([],l)
 | c+1,now,l =>
   match FK now l with
   | .error e=>.error e
   | .ok (m,r)=>LU [m] (NG c m r)
def UO(c:Nat)(l:List Bool):XX :=
 if l.length<5 then .error 2
 else if B.num (l.take 5)<1\/20<B.num (l.take 5) then .error 3
 else NG c (B.num (l.take 5)) (l.drop 5)
def NC{a:Type}(n:Nat):Except Int (a × List Bool)->Except Int (a × Nat)
 | .error e=>.error e
 | .ok (m,r)=>.ok (m,n-r.length)
theorem YX(s:List UInt8):∀(F n a:Nat),8*s.length<a+F->KP s F n a=NC (8*s.length) (FK n (rest s a)):=by
 intro F
 induction F with
 | zero =>
   intro n a h;rw[U9 s a Q0]
   rfl
 | succ F e =>
   intro n a h;rw[KP]
   by_cases c:8*s.length<a+1
   ·rw[if_pos c,U9 s a Q0]
    rfl
   rw[if_neg c,WK s a Q0]
   cases hb:B.bitAt s a with
   | false =>
     rw[if_pos rfl];simp only[FK,NC,O4];rw[show 8*s.length-(8*s.length-(a+1))=a+1 by omega]
   | true =>
     rw[if_neg Q6]
     by_cases d:8*s.length<a+1+1
     ·rw[if_pos d,U9 s (a+1) Q0]
      rfl
     rw[if_neg d,WK s (a+1) Q0]
     cases hc:B.bitAt s (a+1) with
     | true =>
       simp only[FK,L5]
       by_cases b:2<=n
       ·rw[if_pos b,if_pos b]
        exact e _ _ Q0
       ·rw[if_neg b,if_neg b]
        rfl
     | false =>
       simp only[FK,MT,M4]
       by_cases b:n<=19
       ·rw[if_pos b,if_pos b]
        exact e _ _ Q0
       ·rw[if_neg b,if_neg b]
        rfl
theorem Wt:∀(l:List Bool)(n m:Nat)(r:List Bool),FK n l=.ok (m,r)->∃p,l=p++r/\(H6 n m).length<=p.length/\(p.length=(H6 n m).length->p=H6 n m)
 | [],n,m,r,h=>by simp[FK] at h
 | false::l,n,m,r,h=>by
   simp only[FK,Mg,Mi] at h;obtain⟨rfl,rfl⟩:=h;refine⟨[false],rfl,?_,λ_=>?_⟩
   ·rw[TZ]
    simp
   ·rw[TZ]
 | [true],n,m,r,h=>by simp[FK] at h
 | true::true::l,n,m,r,h=>by
   simp only[FK,L5] at h
   by_cases d:2<=n
   ·rw[if_pos d] at h
    obtain⟨p,e,a,b⟩:=Wt l _ _ _ h;refine⟨true::true::p,by rw[e];rfl,?_,λc=>?_⟩
    ·rw[R6] at a |-
     simp only[Bt];omega
    ·rw[R6] at c a b
     simp only[Bt] at c;rw[Wh Q0,b Q0]
     rfl
   ·rw[if_neg d] at h
    cases h
 | true::false::l,n,m,r,h=>by
   simp only[FK,MT,M4] at h
   by_cases d:n<=19
   ·rw[if_pos d] at h
    obtain⟨p,e,a,b⟩:=Wt l _ _ _ h;refine⟨true::false::p,by rw[e];rfl,?_,λc=>?_⟩
    ·rw[R6] at a |-
     simp only[Bt];omega
    ·rw[R6] at c a b
     simp only[Bt] at c;rw[Xg Q0,b Q0]
     rfl
   ·rw[if_neg d] at h
    cases h
theorem Wj:∀(l:List Bool)(n m:Nat)(r:List Bool),1<=n->n<=20->FK n l=.ok (m,r)->1<=m/\m<=20
 | [],n,m,r,_,_,h=>by simp[FK] at h
 | false::l,n,m,r,h1,h2,h=>by
   simp only[FK,Mg,Mi] at h;obtain⟨rfl,rfl⟩:=h;exact⟨h1,h2⟩
 | [true],n,m,r,_,_,h=>by simp[FK] at h
 | true::true::l,n,m,r,h1,h2,h=>by
   simp only[FK,L5] at h
   by_cases a:2<=n
   ·rw[if_pos a] at h
    exact Wj l _ _ _ Q0 Q0 h
   ·rw[if_neg a] at h
    cases h
 | true::false::l,n,m,r,h1,h2,h=>by
   simp only[FK,MT,M4] at h
   by_cases a:n<=19
   ·rw[if_pos a] at h
    exact Wj l _ _ _ Q0 Q0 h
   ·rw[if_neg a] at h
    cases h
theorem zug(d:Nat):∀(a n:Nat)(r:List Bool),(n-a)+(a-n)=d->1<=a->a<=20->1<=n->n<=20->FK a (H6 a n++r)= .ok (n,r):=by
 induction d with
 | zero =>
   intro a n r f _ _ _ _;obtain rfl:a=n:=Q0
   rw[TZ];rfl
 | succ d e =>
   intro a n r f g i b c
   by_cases h:a<n
   ·rw[Xg h]
    simp only[Di,C6,FK,MT,M4];rw[if_pos Q0]
    exact e _ _ _ Q0 Q0 Q0 b c
   ·rw[Wh Q0]
    simp only[Di,C6,FK,L5];rw[if_pos Q0]
    exact e _ _ _ Q0 Q0 Q0 b c
theorem zoe(s:List UInt8):∀(c b a:Nat),a<=8*s.length->NE s c b a=NC (8*s.length) (NG c b (rest s a)):=by
 intro c
 induction c with
 | zero =>
   intro b a h;simp only[NE,NG,NC,O4];rw[show 8*s.length-(8*s.length-a)=a by omega]
 | succ c j =>
   intro b a h;rw[NE,NG,YX s _ _ _ Q0]
   cases hl:FK b (rest s a) with
   |error e=>rfl
   | ok p =>
     obtain⟨m,r⟩:=p;obtain⟨p,d,_,_⟩:=Wt _ _ _ _ hl;have k:=Co List.length d;rw[O4,AJ] at k
     have i:r=rest s (8*s.length-r.length):=by
      have f:=U7 s a p.length Q0
      rw[f] at d;have g:=(List.append_inj d (by rw[B.length_slice])).2
      rw[<-g];congr 1
      rw[O4];omega
     simp only[NC];rw[j m (8*s.length-r.length) Q0,<-i]
     cases NG c m r with
     |error e=>rfl
     |ok q=>rfl
theorem zmy(s:List UInt8)(a c:Nat)(h:a<=8*s.length):NH s a c=NC (8*s.length) (UO c (rest s a)):=by
 unfold NH UO;rw[O4]
 by_cases e:8*s.length<a+5
 ·have d:8*s.length-a<5:=Q0
  rw[if_pos e,if_pos d];rfl
 have d:¬ 8*s.length-a<5:=Q0
 rw[if_neg e,if_neg d];have f:=U7 s a 5 Q0
 have g:(rest s a).take 5=B.slice s a 5:=by
  rw[f,QN (by rw[B.length_slice];omega),BR (by rw[B.length_slice];omega)]
 have i:(rest s a).drop 5=rest s (a+5):=by
  rw[f,Pt (by rw[B.length_slice];omega),Py (by rw[B.length_slice];omega),C6]
 rw[g,i]
 by_cases b:B.num (B.slice s a 5)<1\/20<B.num (B.slice s a 5)
 ·rw[if_pos b,if_pos b]
  rfl
 ·rw[if_neg b,if_neg b]
  exact zoe s _ _ _ Q0
theorem zrI(l:List Nat):∀(a:Nat)(r:List Bool),1<=a->a<=20->(∀n∈l,1<=n/\n<=20)->NG l.length a (Jr a l++r)= .ok (l,r):=by
 induction l with
 |nil=>intro a r _ _ _;rfl
 | cons n l f =>
   intro a r c d h;have b:=h n Q6
   rw[Jr,Bt,NG,BN,zug _ a n _ rfl c d b.1 b.2];simp only;rw[f n r b.1 b.2 λm e=>h m (by simp[e])]
   rfl
theorem zwS(n:Nat)(h:n<=20):B.num (B.low n 5)=n:=by
 rw[B.num_low,Mt Q0]
theorem zlF(l:List Nat)(r:List Bool)(c:l≠[])(h:∀n∈l,1<=n/\n<=20):UO l.length (FT l++r)= .ok (l,r):=by
 have b:1<=l.headD 0/\l.headD 0<=20:=by
  cases l with
  |nil=>simp at c
  |cons a l=>exact h a Q6
 unfold UO FT
 have d:(B.low (l.headD 0) 5++Jr (l.headD 0) l++r).take 5=B.low (l.headD 0) 5:=by
  rw[BN,QN (by rw[B.length_low];omega),BR (by rw[B.length_low];omega)]
 have e:(B.low (l.headD 0) 5++Jr (l.headD 0) l++r).drop 5=Jr (l.headD 0) l++r:=by
  rw[BN,Pt (by rw[B.length_low];omega),Py (by rw[B.length_low];omega),C6]
 rw[if_neg (by simp only[AJ,B.length_low];omega),d,e,zwS _ b.2,if_neg Q0]
 exact zrI l _ r b.1 b.2 h
end Go.Proofs.YtoejfkeofbdalaaGreatDoor
namespace Go.Proofs.YtoejfkeofbdalaaGreatDoor
open Go.RowKit Go.Shelf
def Pe(F:Nat)(b:HE->Int):Prop:=Enters Tryz.prog F/\∀W (h:HE),h.st<=1099511627776->Qk F #[G5 h] W λe a=>e=.returned (Qi (b h))/\Qb W a
theorem zpq:Pe 308 (λh=>(h.b:Nat)):=by
 refine⟨enters_of Tryz.func308 Q2 rfl,λW h b=>?_⟩
 have a:=Ay (Ag W.heap.size W) (.cells #[Qi (h.b:Nat),Qi (h.st:Nat),.string ⟨h.t.toArray⟩] 271);unfold G5
 go_enter Tryz.func308,Tryz.ntmps308
 go_wp2_with fail
 go_ret
 exact⟨rfl,a⟩
theorem zvL:Pe 295 (λh=>-((h.st:Nat):Int)):=by
 refine⟨enters_of Tryz.func295 Q2 rfl,λW h c=>?_⟩
 have a:=Ay (Ag W.heap.size W) (.cells #[Qi (h.b:Nat),Qi (h.st:Nat),.string ⟨h.t.toArray⟩] 271);have b:IntKind.i64.wrap (-((h.st:Nat):Int))= -((h.st:Nat):Int):=AU _ Q0
 unfold G5
 go_enter Tryz.func295,Tryz.ntmps295
 go_wp2_with fail
 go_ret
 exact⟨rfl,a⟩
theorem zxH(F:Nat)(g:HE->Int)(i:Pe F g)(w:World)(j:Nat)(r:Qg w j #[.func (.func F) #[] #[]] 388)(a b:HE)(p:a.st<=1099511627776)(q:b.st<=1099511627776) :
 Qk 298 #[G5 a,G5 b,Qp j 0] w λe c=>e=.returned (Qi (F3 (g a) (g b)))/\Qb w c:=by
 have k:=Aa (λW=>i.2 W a p);have l:=Aa (λW=>i.2 W b q);have D:=Aa λx y W=>Z0 x y W;have N:=i.1;unfold Enters at N;unfold G5 at*
 obtain⟨O,t⟩:=Qe (g a);obtain⟨P,u⟩:=Qe (g b);rw[t] at k |-;rw[u] at l |-;obtain⟨d,Ir⟩:=Qe ((⟨a.t.toArray⟩:ByteArray):ByteArray);obtain⟨f,v⟩:=Qe ((⟨b.t.toArray⟩:ByteArray):ByteArray);rw[Ir] at k |-;rw[v] at l |-;obtain⟨z,o⟩:=Qe w.heap.size;have A:Qh ((w.alloc (.cells #[Qi (a.b:Nat),Qi (a.st:Nat),.string d] 271)).alloc (.cells #[Qi (b.b:Nat),Qi (b.st:Nat),.string f] 271)) z (Obj.cells #[Qi (a.b:Nat),Qi (a.st:Nat),.string d] 271 (0,0)):=Bb _ (Am _ _ _ o.symm);have B:Qh ((w.alloc (.cells #[Qi (a.b:Nat),Qi (a.st:Nat),.string d] 271)).alloc (.cells #[Qi (b.b:Nat),Qi (b.st:Nat),.string f] 271)) (z+1) (Obj.cells #[Qi (b.b:Nat),Qi (b.st:Nat),.string f] 271 (0,0)):=Am _ _ _ (by simp[o])
 have C:=Bb (.cells #[Qi (b.b:Nat),Qi (b.st:Nat),.string f] 271) (Bb (.cells #[Qi (a.b:Nat),Qi (a.st:Nat),.string d] 271) r);have I:=Aa (Ay (Ay (Ag w.heap.size w) (.cells #[Qi (a.b:Nat),Qi (a.st:Nat),.string d] 271)) (.cells #[Qi (b.b:Nat),Qi (b.st:Nat),.string f] 271));clear t u Ir v i r p q
 go_enter Tryz.func298,Tryz.ntmps298
 go_upto_region 1 with(fail)
 generalize(w.alloc (.cells #[Qi (a.b:Nat),Qi (a.st:Nat),.string d] 271)).alloc (.cells #[Qi (b.b:Nat),Qi (b.st:Nat),.string f] 271)=W at*
 clear o
 have J:Hid (∀c:World,Qb W c->Qb W c/\Qc c j 0 (.func (.func F) #[] #[])/\Qc c z 0 (Qi (a.b:Nat))/\Qc c z 1 (Qi (a.st:Nat))/\Qc c z 2 (.string d)/\Qc c (z+1) 0 (Qi (b.b:Nat))/\Qc c (z+1) 1 (Qi (b.st:Nat))/\Qc c (z+1) 2 (.string f)):=λc h=>by
  have G:=Al h C;have m:=Al h A;have n:=Al h B;exact⟨h,(Ae G 0).trans rfl,(Ae m 0).trans rfl,(Ae m 1).trans rfl,(Ae m 2).trans rfl,(Ae n 0).trans rfl,(Ae n 1).trans rfl,(Ae n 2).trans rfl⟩
 have R:Qb W W:=Ag _ _;clear A B C
 go_region_held3 (λc=>Qb W c/\Qc c j 0 (.func (.func F) #[] #[])/\Qc c z 0 (Qi (a.b:Nat))/\Qc c z 1 (Qi (a.st:Nat))/\Qc c z 2 (.string d)/\Qc c (z+1) 0 (Qi (b.b:Nat))/\Qc c (z+1) 1 (Qi (b.st:Nat))/\Qc c (z+1) 2 (.string f))
  ((refine J.out _ ?_;first|assumption|exact Cq Q3|exact Bh Q3|exact Ay (Bh Q3) _|exact A9 Q3 (Bh Q3)|exact Ay Q3 _|fail))
  ((first
    |(go_at_call 148
      refine(D.out _ _ _).mono ?_;rintro e s ⟨rfl,rfl⟩)
    |(with_reducible show Qk F #[.agg #[Qi (a.b:Nat),Qi (a.st:Nat),.string d]] _ _
      refine(k.out _).mono ?_;rintro e s ⟨rfl,K⟩;have Q:Qb W s:=A9 K (Bh Q3))
    |(with_reducible show Qk F #[.agg #[Qi (b.b:Nat),Qi (b.st:Nat),.string f]] _ _
      refine(l.out _).mono ?_;rintro e H ⟨rfl,L⟩;have M:Qb W H:=A9 L (Bh Q3))
    |fail))
 have E:=Aa (A9 M I.out)
 go_wp2_with fail
 go_ret
 exact⟨rfl,E.out⟩
theorem Ab.drewN{n:Nat}{w v:World}(h:Ab n w v)(a:Nat):Ab n w (v.drewN a):=⟨h.os,h.tape,h.output,h.size,h.block⟩
theorem zzU(F:Nat)(key:HE->Int)(hK:Pe F key)(w:World)(sb g c:Nat)(hs:Qg w sb #[.func (.func F) #[] #[]] 388)(a b:HE)(ha:a.st<=1099511627776)(hb:b.st<=1099511627776)(rest:List Value)(hg:Qg w g (BB [a,b]++rest).toArray 271)(hc:2<=c) :
 Qk 350 #[Qs g 0 2 c,Qi 0,Qi 2,.func (.func 298) #[] #[.pointer (some ⟨sb,0,none⟩)]] w λe w'=>(∃v,e=.returned v)/\Qg w' g (BB (FD key [a,b])++rest).toArray 271/\Ab g w w':=by
 have CM:=Aa (λW (h:Qg W sb #[.func (.func F) #[] #[]] 388)=>zxH F key hK W sb h b a hb ha);have hen:Enters Tryz.prog 298:=enters_of Tryz.func298 Q2 rfl
 unfold Enters at hen;obtain⟨ta,Ir⟩:=Qe ((⟨a.t.toArray⟩:ByteArray):ByteArray);obtain⟨tb,htb⟩:=Qe ((⟨b.t.toArray⟩:ByteArray):ByteArray)
 have hx:Qg w g (Qi (a.b:Nat)::Qi (a.st:Nat)::.string ta::Qi (b.b:Nat)::Qi (b.st:Nat)::.string tb::rest).toArray 271:=by
  rw[<-Ir,<-htb];exact hg
 unfold G5 at CM;rw[Ir,htb] at CM;have c0:=A8 hx;have c1:=AA hx;have c2:=Bk hx;have c3:=CY hx;have c4:=De hx;have c5:=Df hx;clear hg hK ha hb;have HTA:=Aa Ir;have HTB:=Aa htb;clear Ir htb
 go_enter Tryz.func350,Tryz.ntmps350
 go_wp2_with fail
 refine wp_loop_rounds 2 ?_;rw[Oy]
 go_wp2_with fail
 refine wp_loop_rounds 2 ?_;rw[Oy]
 go_wp2_with fail
 have hsl:=Aj hs;obtain⟨z,hz⟩:=Qe (F3 (key b) (key a));rw[hz] at CM;have CM:=Aa (CM.out);have hgl:=Aj hx;have hw0:IntKind.i64.wrap 0=0:=Q5
 have hw1:IntKind.i64.wrap (1-1)=0:=Q5
 have HkW:Hid (∀w':World,Qb w w'->Qb w w'/\Qc w' g 0 (Qi (a.b:Nat))/\Qc w' g 1 (Qi (a.st:Nat))/\Qc w' g 2 (.string ta)/\Qc w' g 3 (Qi (b.b:Nat))/\Qc w' g 4 (Qi (b.st:Nat))/\Qc w' g 5 (.string tb)):=λw' h =>
  ⟨h,(h.cell (p:=⟨g,0,none⟩) hgl).trans c0,(h.cell (p:=⟨g,1,none⟩) hgl).trans c1,(h.cell (p:=⟨g,2,none⟩) hgl).trans c2,(h.cell (p:=⟨g,3,none⟩) hgl).trans c3,(h.cell (p:=⟨g,4,none⟩) hgl).trans c4,(h.cell (p:=⟨g,5,none⟩) hgl).trans c5⟩
 have HS:=Aa hs;have HX:=Aa hx;have hbW:Qb w w:=Ag _ _;clear hs hx
 go_region_held3 (λw'=>Qb w w'/\Qc w' g 0 (Qi (a.b:Nat))/\Qc w' g 1 (Qi (a.st:Nat))/\Qc w' g 2 (.string ta)/\Qc w' g 3 (Qi (b.b:Nat))/\Qc w' g 4 (Qi (b.st:Nat))/\Qc w' g 5 (.string tb))
  ((refine HkW.out _ ?_;first|assumption|exact Cq Q3|exact Bh Q3|exact Ay (Bh Q3) _|exact A9 Q3 (Bh Q3)|exact Ay Q3 _|fail))
  ((first
    |(go_at_call 298
      refine(CM.out _ (Al (Bh Q3) HS.out)).mono ?_
      rintro e w8 ⟨rfl,hB8⟩;have hW8:Qb w w8:=A9 hB8 (Bh Q3))
    |fail))
 have HB8:=Aa hW8;have hx8:=Al hW8 HX.out;have HX8:=Aa hx8;have d0:=A8 hx8;have d1:=AA hx8;have d2:=Bk hx8;have d3:=CY hx8;have d4:=De hx8;have d5:=Df hx8;have f0:=Ah hx8 0;have f1:=Ah hx8 1;have f2:=Ah hx8 2;have f3:=Ah hx8 3;have f4:=Ah hx8 4;have f5:=Ah hx8 5;have HZ:=Aa hz
 try clear hHeld
 clear hB8 hW8 hx8 c0 c1 c2 c3 c4 c5 CM hz HkW hbW hen HS HX
 by_cases hlt:z<0
 ·have hd:decide (z<0)=true:=Bl hlt
  go_wp2_with fail
  clear hd hlt
  go_region
  go_wp2_with fail
  rw[Oy]
  go_wp2_with fail
  go_quiet (fail)
  go_wp2_with fail
  rw[Oy]
  go_wp2_with fail
  refine Fu (Dw rfl _ _ _) rfl ?_
  have hsrt:FD key [a,b]=[b,a]:=by
   rw[FD,if_pos];have:=HZ.out;unfold F3 at this;split at this
   ·assumption
   ·split at this<;>omega
  have h1:=Ak (Ak (Ak (Ak (Ak (Ak HX8.out 3 (Qi (a.b:Nat))) 4 (Qi (a.st:Nat))) 5 (.string ta)) 0 (Qi (b.b:Nat))) 1 (Qi (b.st:Nat))) 2 (.string tb);have hO:=((((((Ab.of HB8.out).set (k:=g) 3 (Qi (a.b:Nat))).set 4 (Qi (a.st:Nat))).set 5 (.string ta)).set 0 (Qi (b.b:Nat))).set 1 (Qi (b.st:Nat))).set 2 (.string tb);generalize(((((w8.setCell ⟨g,3,none⟩ (Qi (a.b:Nat))).setCell ⟨g,4,none⟩ (Qi (a.st:Nat))).setCell ⟨g,5,none⟩ (.string ta)).setCell ⟨g,0,none⟩ (Qi (b.b:Nat))).setCell ⟨g,1,none⟩ (Qi (b.st:Nat))).setCell ⟨g,2,none⟩ (.string tb)=W9 at h1 hO |-;simp only[AO,AL,AR] at h1;refine⟨⟨_,rfl⟩,?_,hO.drewN _⟩;rw[hsrt];simp only[BB,Lb,IQ,QT,C6,Di,HTA.out,HTB.out];exact h1
 ·have hd:decide (z<0)=false:=AV hlt
  have hsrt:FD key [a,b]=[a,b]:=by
   rw[FD,if_neg];intro h;have:=HZ.out;rw[F3,if_pos h] at this;omega
  go_wp2_with fail
  rw[Oy]
  go_wp2_with fail
  refine Fu (Dw rfl _ _ _) rfl ?_;exact⟨⟨_,rfl⟩,by rw[hsrt];simp only[BB,Lb,IQ,QT,C6,Di,HTA.out,HTB.out];exact HX8.out,Ab.of HB8.out⟩
theorem zzu(w:World)(v a:Value)(q:Option Addr)(n c:Nat)(f:n<=1) :
 Qk 350 #[.slice q n c,Qi 0,Qi n,a] w λe b=>(∃v,e=.returned v)/\b=w:=by
 have d:decide ((1:Int)<(n:Int))=false:=AV Q0
 go_enter Tryz.func350,Tryz.ntmps350
 go_wp2_with fail
 refine wp_loop_rounds 1 ?_;rw[Oy]
 go_wp2_with fail
 refine Fu (Dw rfl _ _ _) rfl ?_;exact⟨⟨_,rfl⟩,rfl⟩
