import Derived.Test.YtoejfkeofbdalaaGreatDoorM15
import Derived.Maps.OwnSet
import Derived.StringKeys
set_option linter.all false
set_option maxRecDepth 100000
set_option maxHeartbeats 8000000
namespace Go.Proofs.YtoejfkeofbdalaaGreatDoor
open Go.RowKit
open Go.Maps (Keyed)
variable {K:Act->World->Prop} {P:Program} {a:Oper} {c:Array Bool} {m n:Nat} {o:Act} {u v w:World}
section
variable {P:Program} {ops:Array Oper} {Q:Exit->Act->World->Prop} {md:Region.Mode}
theorem zm5(c:Nat->Array Bool->Act->World->Prop)(step:∀m b a w i,c (m+1) b a w->i∈Region.ready md ops b->wpOp P ops Q i (c m (b.setIfInBounds i true)) a w)
 (e:∀b a w,c 0 b a w->Region.ready md ops b=[]) (d:∀m b a w,c m b a w->Region.ready md ops b=[]->Q .normal a w) :
 ∀(m:Nat)(b:Array Bool)(a:Act)(w:World),c m b a w->wpAny P md ops Q m b a w
 |0,b,a,w,h=>⟨e b a w h,d _ _ _ _ h (e b a w h)⟩
 |m+1,b,a,w,h=>⟨λj=>d _ _ _ _ h j,λi k=>wpOp_mono (λf l g=>zm5 c step e d m _ f l g) (step m b a w i h k)⟩
theorem Cy(i:Nat){a:Oper}{v:Value}{n:Nat}{d:Array Bool}{o:Act}{w:World}(f:ops[i]?=some a)
 (b:(Region.noSelect ops && Region.free md ops d i && (Region.ready md ops d).contains i)=true)
 (e:∀c o w,Q (.panic c) (o.put a.dst v) w->Q (.panic c) o w) (j:Region.wanted a (yielded ops o.tmps)=true)
 (g:∀w,(execOp o.eval a).run P w=.ok (.value v) w)
 (h:wpAny P md ops Q n (d.setIfInBounds i true) (o.put a.dst v) w):wpAny P md ops Q (n+1) d o w:=by
 simp only[GP] at b;exact wpAny_take f b.1.1 b.1.2 b.2 e (Or.inl ⟨j,g⟩) h
end
def Gd(a:Nat):List (List UInt8 × Value):=[([112,97,99,107],.agg #[.string ⟨#[110,104]⟩,.func (.func 181) #[.pointer (some ⟨a,0,none⟩)] #[],.bool false]),([109,111,114,101],.agg #[.string ⟨#[110,104]⟩,.func (.func 182) #[.pointer (some ⟨a,0,none⟩)] #[],.bool false]),([116,117,114,110],.agg #[.string ⟨#[110]⟩,.func (.func 183) #[.pointer (some ⟨a,0,none⟩)] #[],.bool false]),([99,117,116],.agg #[.string ⟨#[110]⟩,.func (.func 184) #[.pointer (some ⟨a,0,none⟩)] #[],.bool false]),([98,121,116,101,115],.agg #[.string ⟨#[]⟩,.func (.func 185) #[.pointer (some ⟨a,0,none⟩)] #[],.bool false]),([115,97,121],.agg #[.string ⟨#[]⟩,.func (.func 186) #[.pointer (some ⟨a,0,none⟩)] #[],.bool false]),([105,110,100,101,120],.agg #[.string ⟨#[]⟩,.func (.func 187) #[.pointer (some ⟨a,0,none⟩)] #[],.bool false]),([115,97,118,101],.agg #[.string ⟨#[]⟩,.func (.func 188) #[.pointer (some ⟨a,0,none⟩)] #[],.bool false]),([111,112,101,110],.agg #[.string ⟨#[110,110]⟩,.func (.func 189) #[.pointer (some ⟨a,0,none⟩)] #[],.bool false]),([111,112,101,110,98,121],.agg #[.string ⟨#[110,110]⟩,.func (.func 190) #[.pointer (some ⟨a,0,none⟩)] #[],.bool false]),([114,101,97,100],.agg #[.string ⟨#[110,110,110]⟩,.func (.func 191) #[.pointer (some ⟨a,0,none⟩)] #[],.bool true]),([97,115,107],.agg #[.string ⟨#[110,110,110]⟩,.func (.func 192) #[.pointer (some ⟨a,0,none⟩)] #[],.bool true]),([115,116,101,112],.agg #[.string ⟨#[110]⟩,.func (.func 193) #[.pointer (some ⟨a,0,none⟩)] #[],.bool true]),([115,104,101,108,102],.agg #[.string ⟨#[]⟩,.func (.func 194) #[.pointer (some ⟨a,0,none⟩)] #[],.bool true]),([114,101,97,100,101,114,115],.agg #[.string ⟨#[]⟩,.func (.func 195) #[.pointer (some ⟨a,0,none⟩)] #[],.bool true])]
def UC:List Nat:=[0,5,6,7,12,13,14,18,22,26,30,34,38,42,46,50,54,58,62,66,70,74,75,76]
def XY(a:Nat):Array Value:=#[.pointer (some ⟨a,0,none⟩),undef,.map none,undef,.pointer (some ⟨a,0,none⟩),.pointer (some ⟨a,0,none⟩),.pointer (some ⟨a,0,none⟩),.pointer (some ⟨a,0,none⟩),undef,undef,.pointer (some ⟨a,0,none⟩),.pointer (some ⟨a,0,none⟩),.pointer (some ⟨a,0,none⟩),.pointer (some ⟨a,1,none⟩),undef,undef,.pointer (some ⟨a,0,none⟩),.func (.func 181) #[.pointer (some ⟨a,0,none⟩)] #[],.agg #[.string ⟨#[110,104]⟩,.func (.func 181) #[.pointer (some ⟨a,0,none⟩)] #[],.bool false],.pointer (some ⟨a,0,none⟩),.func (.func 182) #[.pointer (some ⟨a,0,none⟩)] #[],.agg #[.string ⟨#[110,104]⟩,.func (.func 182) #[.pointer (some ⟨a,0,none⟩)] #[],.bool false],.pointer (some ⟨a,0,none⟩),.func (.func 183) #[.pointer (some ⟨a,0,none⟩)] #[],.agg #[.string ⟨#[110]⟩,.func (.func 183) #[.pointer (some ⟨a,0,none⟩)] #[],.bool false],.pointer (some ⟨a,0,none⟩),.func (.func 184) #[.pointer (some ⟨a,0,none⟩)] #[],.agg #[.string ⟨#[110]⟩,.func (.func 184) #[.pointer (some ⟨a,0,none⟩)] #[],.bool false],.pointer (some ⟨a,0,none⟩),.func (.func 185) #[.pointer (some ⟨a,0,none⟩)] #[],.agg #[.string ⟨#[]⟩,.func (.func 185) #[.pointer (some ⟨a,0,none⟩)] #[],.bool false],.pointer (some ⟨a,0,none⟩),.func (.func 186) #[.pointer (some ⟨a,0,none⟩)] #[],.agg #[.string ⟨#[]⟩,.func (.func 186) #[.pointer (some ⟨a,0,none⟩)] #[],.bool false],.pointer (some ⟨a,0,none⟩),.func (.func 187) #[.pointer (some ⟨a,0,none⟩)] #[],.agg #[.string ⟨#[]⟩,.func (.func 187) #[.pointer (some ⟨a,0,none⟩)] #[],.bool false],.pointer (some ⟨a,0,none⟩),.func (.func 188) #[.pointer (some ⟨a,0,none⟩)] #[],.agg #[.string ⟨#[]⟩,.func (.func 188) #[.pointer (some ⟨a,0,none⟩)] #[],.bool false],.pointer (some ⟨a,0,none⟩),.func (.func 189) #[.pointer (some ⟨a,0,none⟩)] #[],.agg #[.string ⟨#[110,110]⟩,.func (.func 189) #[.pointer (some ⟨a,0,none⟩)] #[],.bool false],.pointer (some ⟨a,0,none⟩),.func (.func 190) #[.pointer (some ⟨a,0,none⟩)] #[],.agg #[.string ⟨#[110,110]⟩,.func (.func 190) #[.pointer (some ⟨a,0,none⟩)] #[],.bool false],.pointer (some ⟨a,0,none⟩),.func (.func 191) #[.pointer (some ⟨a,0,none⟩)] #[],.agg #[.string ⟨#[110,110,110]⟩,.func (.func 191) #[.pointer (some ⟨a,0,none⟩)] #[],.bool true],.pointer (some ⟨a,0,none⟩),.func (.func 192) #[.pointer (some ⟨a,0,none⟩)] #[],.agg #[.string ⟨#[110,110,110]⟩,.func (.func 192) #[.pointer (some ⟨a,0,none⟩)] #[],.bool true],.pointer (some ⟨a,0,none⟩),.func (.func 193) #[.pointer (some ⟨a,0,none⟩)] #[],.agg #[.string ⟨#[110]⟩,.func (.func 193) #[.pointer (some ⟨a,0,none⟩)] #[],.bool true],.pointer (some ⟨a,0,none⟩),.func (.func 194) #[.pointer (some ⟨a,0,none⟩)] #[],.agg #[.string ⟨#[]⟩,.func (.func 194) #[.pointer (some ⟨a,0,none⟩)] #[],.bool true],.pointer (some ⟨a,0,none⟩),.func (.func 195) #[.pointer (some ⟨a,0,none⟩)] #[],.agg #[.string ⟨#[]⟩,.func (.func 195) #[.pointer (some ⟨a,0,none⟩)] #[],.bool true],undef]
def K7:List Bool->Nat
 | []=>0
 |b::l=>(if b then 0 else 1)+K7 l
theorem UA:∀(l:List Bool)(i:Nat),l[i]?=some false->K7 (l.set i true)+1=K7 l
 | [],i,h=>by simp at h
 | b::l,0,h=>by
   simp at h;subst h;simp[K7];omega
 | b::l,i+1,h=>by
   simp at h;have:=UA l i (by simpa using h)
   simp only[AL,K7];omega
theorem zqx:∀(l:List Bool)(i:Nat),l[i]?=some false->0<K7 l
 | [],i,h=>by simp at h
 | b::l,0,h=>by
   simp at h;subst h;simp[K7];omega
 | b::l,i+1,h=>by
   simp at h;have:=zqx l i (by simpa using h)
   simp only[K7];omega
theorem UN{l:Array Bool}(h:l.getD n true=false):n<l.size/\l.toList[n]?=some false:=by
 by_cases a:n<l.size
 ·refine⟨a,?_⟩
  simp[Array.getD,a] at h;simp[a,h]
 ·simp[Array.getD,a] at h
theorem zl5(l:Array Bool)(i j:Nat)(a:i<l.size):(l.setIfInBounds i true).getD j false=if i=j then true else l.getD j false:=by
 by_cases h:i=j
 ·subst h
  simp[Array.getD,a]
 ·rw[if_neg h]
  simp only[Array.getD,MV];split
  ·rename_i b
   exact Array.getElem_setIfInBounds_ne b h
  ·rfl
theorem ZQ{md:Region.Mode}{ops:Array Oper}(h:n∈Region.ready md ops c) :
 n<ops.size/\c.getD n true=false/\∀o,ops[n]?=some o->∀e∈o.after,Region.binds md e=true->c.getD e.on false=true:=by
 unfold Region.ready at h;obtain⟨d,a⟩:=Lu.1 h;rw[EB] at d;simp only[GP,P8] at a;refine⟨d,a.1,λo j e i g=>?_⟩;have b:=a.2;rw[j] at b;simp only[Iz,Es] at b;have f:=(SA.1 b) e i;rw[g] at f;simpa using f
structure FN(db:Nat)(w0:World)(m:Nat)(listed:Array Bool)(a:Act)(w:World):Prop where
 defers:a.defers=[]
 size:a.tmps.size=62
 lsize:listed.size=77
 unl:K7 listed.toList=m
 fr:∀k,k ∉ [2,3,8,9,14,15,61]->a.tmps[k]?=(XY db)[k]?
 pure:∀j,j<77->j ∉ UC->listed.getD j false=true
 bel:Qb w0 w
 c8:listed.getD 5 false=true->∃fn x y,a.tmps[8]?=some (.func fn x y)
 c9:listed.getD 6 false=true->∃v,a.tmps[9]?=some v
 c14:listed.getD 12 false=true->∃fn x y,a.tmps[14]?=some (.func fn x y)
 c15:listed.getD 13 false=true->∃v,a.tmps[15]?=some v
 mp:listed.getD 0 false=true->∃mb n D,a.tmps[3]?=some (.map (some mb))/\w0.heap.size<=mb/\n+m<=77/\w.ownsMap Tryz.prog 9 EO mb n D/\∀r,r<15->listed.getD (18+4*r) false=true->∀p,(Gd db)[r]?=some p->Maps.has D (.string p.1)=true/\∀z,D.atKey (.string p.1) z=.held p.2
 o0:∀r,r<15->listed.getD (18+4*r) false=true->listed.getD 0 false=true
 t61:listed.getD 75 false=true->listed.getD 0 false=true/\a.tmps[61]?=a.tmps[3]?
 t2:listed.getD 76 false=true->listed.getD 0 false=true/\a.tmps[2]?=a.tmps[3]?
theorem zzs(a:Act)(d k:Nat)(v:Value)(b:d<a.tmps.size):(a.put (some d) v).tmps[k]?=if d=k then some v else a.tmps[k]?:=by
 simp only[Act.put]
 by_cases h:d=k
 ·subst h;simp[b]
 ·simp[h]
theorem FN.put(h:FN n w (m+1) c o v){k i:Nat}{x:Value}(O:c.getD k true=false)(S:i∈[2,3,8,9,14,15,61])(a0:Qb w u)
 (X:k=5->i=8) (f8:i=8->∃C B y,x=.func C B y) (Y:k=6->i=9) (a1:k=12->i=14) (a5:i=14->∃C B y,x=.func C B y) (a2:k=13->i=15)
 (K:k=0↔i=3) (m0:i=3->∃f,x=.map (some f)/\w.heap.size<=f/\u.ownsMap Tryz.prog 9 EO f 0 (.map []))
 (hm:i≠3->∀f J D,v.ownsMap Tryz.prog 9 EO f J D->u.ownsMap Tryz.prog 9 EO f J D) (R:∀r,r<15->k≠18+4*r)
 (a3:k=75->i=61) (a6:i=61->c.getD 0 false=true/\o.tmps[3]?=some x) (a4:k=76->i=2) (Z:i=2->c.getD 0 false=true/\o.tmps[3]?=some x) :
 FN n w m (c.setIfInBounds k true) (o.put (some i) x) u:=by
 obtain⟨T,W⟩:=UN O
 have a9:i<o.tmps.size:=by
  rw[h.size];simp at S;omega
 have F:c.getD k false=false:=by
  simp[Array.getD,T] at O |-;exact O
 have G:∀j,(c.setIfInBounds k true).getD j false=if k=j then true else c.getD j false:=λj=>zl5 c k j T
 have A:∀z,(o.put (some i) x).tmps[z]?=if i=z then some x else o.tmps[z]?:=λz=>zzs o i z x a9
 refine⟨h.defers,?_,by rw[MV];exact h.lsize,?_,?_,?_,a0,?_,?_,?_,?_,?_,?_,?_,?_⟩
 ·simp only[Act.put,MV];exact h.size
 ·have I:=UA _ k W
  rw[h.unl] at I;rw[Vl];omega
 ·intro z U
  rw[A,if_neg (λe=>by subst e;exact U S)]
  exact h.fr z U
 ·intro j hj a7
  rw[G];split
  ·rfl
  ·exact h.pure j hj a7
 ·intro a
  rw[G] at a;rw[A]
  by_cases b:i=8
  ·obtain⟨C,B,y,rfl⟩:=f8 b
   exact⟨C,B,y,if_pos b⟩
  ·rw[if_neg b]
   rw[if_neg (λe=>b (X e))] at a;exact h.c8 a
 ·intro a
  rw[G] at a;rw[A]
  by_cases b:i=9
  ·exact⟨x,if_pos b⟩
  ·rw[if_neg b]
   rw[if_neg (λe=>b (Y e))] at a;exact h.c9 a
 ·intro a
  rw[G] at a;rw[A]
  by_cases b:i=14
  ·obtain⟨C,B,y,rfl⟩:=a5 b
   exact⟨C,B,y,if_pos b⟩
  ·rw[if_neg b]
   rw[if_neg (λe=>b (a1 e))] at a;exact h.c14 a
 ·intro a
  rw[G] at a;rw[A]
  by_cases b:i=15
  ·exact⟨x,if_pos b⟩
  ·rw[if_neg b]
   rw[if_neg (λe=>b (a2 e))] at a;exact h.c15 a
 ·intro M
  rw[G] at M
  by_cases H:i=3
  ·obtain⟨f,rfl,a8,b0⟩:=m0 H
   refine⟨f,0,.map [],by rw[A,if_pos H],a8,?_,b0,?_⟩
   ·have I:=UA _ k W
    rw[h.unl] at I
    have N:K7 c.toList<=77:=by
     have d:∀l:List Bool,K7 l<=l.length:=by
      intro l
      induction l with
      |nil=>exact Af _
      |cons b1 l ih=>simp only[K7,Bt];split<;>omega
     have L:=d c.toList;rw[MX,h.lsize] at L;exact L
    rw[h.unl] at N;omega
   ·intro r t g p V
    rw[G,if_neg (R r t)] at g
    exact absurd g (by
     intro g;have:=h.o0 r t g;rw[K.2 H] at F;rw[this] at F;cases F)
  ·rw[if_neg (λe=>H (K.1 e))] at M
   obtain⟨f,J,D,I,N,d,L,a⟩:=h.mp M;refine⟨f,J,D,by rw[A,if_neg H];exact I,N,Q0,hm H _ _ _ L,?_⟩
   intro r t g p V;rw[G,if_neg (R r t)] at g;exact a r t g p V
 ·intro r t g
  rw[G,if_neg (R r t)] at g;rw[G];split
  ·rfl
  ·exact h.o0 r t g
 ·intro a
  rw[G] at a
  by_cases s:i=61
  ·obtain⟨q,E⟩:=a6 s
   have d:i≠3:=Q0
   refine⟨by rw[G];split;rfl;exact q,?_⟩
   rw[A,A,if_pos s,if_neg d,E]
  ·rw[if_neg (λe=>s (a3 e))] at a
   obtain⟨q,E⟩:=h.t61 a;have d:i≠3:=λe=>by rw[K.2 e,q] at F;cases F
   refine⟨by rw[G];split;rfl;exact q,?_⟩
   rw[A,A,if_neg s,if_neg d,E]
 ·intro a
  rw[G] at a
  by_cases s:i=2
  ·obtain⟨q,E⟩:=Z s
   have d:i≠3:=Q0
   refine⟨by rw[G];split;rfl;exact q,?_⟩
   rw[A,A,if_pos s,if_neg d,E]
  ·rw[if_neg (λe=>s (a4 e))] at a
   obtain⟨q,E⟩:=h.t2 a;have d:i≠3:=λe=>by rw[K.2 e,q] at F;cases F
   refine⟨by rw[G];split;rfl;exact q,?_⟩
   rw[A,A,if_neg s,if_neg d,E]
theorem ztI(a k o:Nat)(w:World):Qk 180 #[Qp a 0,Qp k o] w λe c=>(∃b x y,e=.returned (.func b x y))/\Qb w c:=by
 have Cw:=Cw
 go_enter Tryz.func180,Tryz.ntmps180
 go_wp2
 go_ret
 exact⟨⟨_,_,_,rfl⟩,Ay (Ag _ _) _⟩
theorem FN.ins{c:World}{b:Array Bool}(h:FN n w (m+1) b o c){k:Nat}(K:b.getD k true=false)(S:k ∉ [0,5,6,12,13,75,76])(B:b.getD 0 false=true){key:List UInt8}{v:Value}
 (g:∀r,r<15->∀p,(Gd n)[r]?=some p->(k=18+4*r->p=(key,v))/\(k≠18+4*r->p.1≠key))
 {i j:Nat} {D:DataW Value} (d:o.tmps[3]?=some (.map (some i))) (s:w.heap.size<=i) (U:j+(m+1)<=77) (t:c.ownsMap Tryz.prog 9 EO i j D)
 (C:∀r,r<15->b.getD (18+4*r) false=true->∀p,(Gd n)[r]?=some p->Maps.has D (.string p.1)=true/\∀z,D.atKey (.string p.1) z=.held p.2)
 (E:u.ownsMap Tryz.prog 9 EO i (j+1) (D.put (.string key) (.held v))) (F:c.grownBy u (some i)) :
 FN n w m (b.setIfInBounds k true) o u:=by
 obtain⟨J,R⟩:=UN K;have G:∀a,(b.setIfInBounds k true).getD a false=if k=a then true else b.getD a false:=λa=>zl5 b k a J
 have N:∀a,a∈[0,5,6,12,13,75,76]->(b.setIfInBounds k true).getD a false=b.getD a false:=λa f=>by
  rw[G,if_neg (λe=>by subst e;exact S f)]
 refine⟨h.defers,h.size,by rw[MV];exact h.lsize,?_,h.fr,?_,?_,?_,?_,?_,?_,?_,?_,?_,?_⟩
 ·have d:=UA _ k R
  rw[h.unl] at d;rw[Vl];omega
 ·intro a f L
  rw[G];split
  ·rfl
  ·exact h.pure a f L
 ·exact h.bel.grown F h.bel.size (λT g=>by cases g;exact s)
 ·rw[N 5 Q6];exact h.c8
 ·rw[N 6 Q6];exact h.c9
 ·rw[N 12 Q6];exact h.c14
 ·rw[N 13 Q6];exact h.c15
 ·intro _
  refine⟨i,j+1,_,d,s,Q0,E,?_⟩
  intro r l q p x;obtain⟨M,O⟩:=g r l p x
  by_cases e:k=18+4*r
  ·obtain rfl:=M e
   exact⟨Maps.has_put_same t.isMap (show WideAt.IsKeyLit (Lit.string key) from trivial) _,λz=>Maps.atKey_put_same t.isMap (show WideAt.IsKeyLit (Lit.string key) from trivial) _ z⟩
  ·have y:(Lit.string p.1)≠Lit.string key:=λA=>O e (by injection A)
   rw[G,if_neg e] at q;obtain⟨H,I⟩:=C r l q p x;exact⟨by rw[Tc y];exact H,λz=>by rw[Maps.atKey_put_other y];exact I z⟩
 ·intro r l q
  rw[N 0 Q6]
  exact B
 ·rw[N 75 Q6,N 0 Q6];exact h.t61
 ·rw[N 76 Q6,N 0 Q6];exact h.t2
section
variable {ops:Array Oper} {Q:Exit->Act->World->Prop}
theorem YQ{b:Option Nat}(h:Qb w v):w.grownBy v b:=⟨h.os,h.tape,h.output,h.size,λk a _=>h.block k a⟩
theorem UD(c:ops[n]?=some a)(b:a.guard=none)(h:a.wp P o w K Q):wpOp P ops Q n K o w:=by
 unfold wpOp;rw[c];simp only[Region.wanted,b,L5];exact .inl h
structure J3(db:Nat)(ops:Array Oper):Prop where
 size:ops.size=77
 mkm:∃o,ops[0]?=some o/\o.guard=none/\o.dst=some 3/\o.op=.makeMap 237 none
 call1:∃o,ops[5]?=some o/\o.guard=none/\o.dst=some 8/\o.op=.call { callee:=.value (.func 180),args:=#[.tmp 4,.tmp 7],argTypes:=#[232,299] }
 call2:∃o,ops[12]?=some o/\o.guard=none/\o.dst=some 14/\o.op=.call { callee:=.value (.func 180),args:=#[.tmp 10,.tmp 13],argTypes:=#[232,299] }
 bld1:∃o,ops[6]?=some o/\o.guard=none/\o.dst=some 9/\o.op=.build 235 #[(0,.const (.string ⟨#[104]⟩)),(1,.tmp 8),(2,.const (.bool false))]/\∃e∈o.after,Region.binds .any e=true/\e.on=5
 bld2:∃o,ops[13]?=some o/\o.guard=none/\o.dst=some 15/\o.op=.build 235 #[(0,.const (.string ⟨#[104]⟩)),(1,.tmp 14),(2,.const (.bool false))]/\∃e∈o.after,Region.binds .any e=true/\e.on=12
 ins1:∃o,ops[7]?=some o/\o.guard=none/\o.dst=none/\o.op=.insert 237 (.tmp 3) (.const (.string ⟨#[97,114,99,104,105,118,101]⟩)) (.tmp 9)/\(∃e∈o.after,Region.binds .any e=true/\e.on=0)/\(∃e∈o.after,Region.binds .any e=true/\e.on=6)
 ins2:∃o,ops[14]?=some o/\o.guard=none/\o.dst=none/\o.op=.insert 237 (.tmp 3) (.const (.string ⟨#[115,105,100,101,99,97,114]⟩)) (.tmp 15)/\(∃e∈o.after,Region.binds .any e=true/\e.on=0)/\(∃e∈o.after,Region.binds .any e=true/\e.on=13)
 ins:∀r,r<15->∀p,(Gd db)[r]?=some p->∃o,ops[18+4*r]?=some o/\o.guard=none/\o.dst=none/\o.op=.insert 237 (.tmp 3) (.const (.string ⟨p.1.toArray⟩)) (.tmp (18+3*r))/\(∃e∈o.after,Region.binds .any e=true/\e.on=0)
 mv:∃o,ops[75]?=some o/\o.guard=none/\o.dst=some 61/\o.op=.move (.tmp 3)/\(∃e∈o.after,Region.binds .any e=true/\e.on=0)
 asg:∃o,ops[76]?=some o/\o.guard=none/\o.dst=some 2/\o.op=.assign (.tmp 61)/\(∃e∈o.after,Region.binds .any e=true/\e.on=75)
theorem zyh(a r:Nat)(c:r<15)(p:List UInt8 × Value)(b:(Gd a)[r]?=some p):(XY a)[18+3*r]?=some p.2:=by
 have:r=0\/r=1\/r=2\/r=3\/r=4\/r=5\/r=6\/r=7\/r=8\/r=9\/r=10\/r=11\/r=12\/r=13\/r=14:=Q0
 rcases this with rfl|rfl|rfl|rfl|rfl|rfl|rfl|rfl|rfl|rfl|rfl|rfl|rfl|rfl|rfl<;>(cases b;rfl)
def Qt:List (List UInt8):=(Gd 0).map (·.1)
theorem zsq(a:Nat):(Gd a).map (·.1)=Qt:=rfl
theorem US(a r:Nat)(p:List UInt8 × Value)(b:(Gd a)[r]?=some p):r<15:=(Cc.1 b).1
theorem UU(a r:Nat)(p:List UInt8 × Value)(b:(Gd a)[r]?=some p):Qt[r]?=some p.1:=by
 rw[<-zsq a,EA,b];rfl
theorem zuc(a r:Nat)(p:List UInt8 × Value)(d:(Gd a)[r]?=some p):(⟨p.1.toArray⟩:ByteArray).size<=maxLen:=by
 have b:=UU a r p d;have c:∀k∈Qt,k.length<=20:=Q5
 have e:=c p.1 (Cn b)
 show p.1.length<=maxLen
 unfold maxLen;omega
theorem zAi(b r a:Nat)(p c:List UInt8 × Value)(d:(Gd b)[r]?=some p)(f:(Gd b)[a]?=some c)(j:r≠a):c.1≠p.1:=by
 have g:=UU b r p d;have h:=UU b a c f;have i:∀r<15,∀a < 15,r≠a->Qt[a]?≠Qt[r]?:=Q5
 intro e;refine i r (US b r p d) a (US b a c f) j ?_;rw[g,h,e]
theorem zvI(a r:Nat)(p:List UInt8 × Value)(c:(Gd a)[r]?=some p):p.1≠[97,114,99,104,105,118,101]/\p.1≠[115,105,100,101,99,97,114]:=by
 have b:∀k∈Qt,k≠[97,114,99,104,105,118,101]/\k≠[115,105,100,101,99,97,114]:=Q5
 exact b p.1 (Cn (UU a r p c))
theorem zqw(a:Act)(k:Nat)(v:Value)(h:a.tmps[k]?=some v):a.eval (.tmp k)=v:=by
 simp[Act.eval,h]
theorem Xk{c:Oper}{b:ByteArray}{x:Value}{k i:Nat}{D:DataW Value}(s:P.underlying 237=some (.map 9 235))(d:P.underlying 9=some .string)(v:b.size<=maxLen)
 (q:ops[n]?=some c) (p:c.guard=none) (l:c.dst=none) (r:c.op=.insert 237 (.tmp 3) (.const (.string b)) (.tmp m)) (j:o.tmps[3]?=some (.map (some k))) (u:o.tmps[m]?=some x)
 (y:w.ownsMap P 9 EO k i D) (A:i<100) (h:∀a,a.ownsMap P 9 EO k (i+1) (D.put (.string b.data.toList) (.held x))->w.grownBy a (some k)->K o a):wpOp P ops Q n K o w:=by
 refine UD q p ?_;obtain⟨a,z,f,g⟩:=y.update (t:=237) (e:=235) (Maps.string_keyed d) s (by unfold maxLen;omega) (WideMaps.keyOf_string_mk d v) (rfl:EO x=some (.held x,[]))
 unfold Oper.wp execOp;simp only[r,zqw o 3 _ j,zqw o m _ u];have e:o.eval (Operand.const (Value.string b))= .string b:=rfl;rw[e,Ml,z];simp only[Result.andThen,Mk,Oper.upon,l];exact h a f g
theorem RU{w':World}{v:Value}(d:ops[n]?=some a)(c:a.guard=none)(b:a.dst=some m)(e:(execOp o.eval a).run P w=.ok (.value v) w')(h:K (o.put (some m) v) w'):wpOp P ops Q n K o w:=by
 refine UD d c ?_;unfold Oper.wp;rw[e];simp only[Oper.upon,b];exact h
theorem zy0{d:Array Bool}(h:FN n w m d o v){k:Nat}(f:k<77)(b:d.getD k true=false):k∈UC:=by
 by_cases c:k∈UC
 ·exact c
 ·have a:=h.pure k f c
  obtain⟨e,-⟩:=UN b;simp[Array.getD,e] at b a;rw[b] at a;cases a
theorem ztC(t:J3 n ops)(U:Array Bool)(a:Act)(s:World)(i:Nat)(h:FN n w (m+1) U a s)(hi:i∈Region.ready .any ops U) :
 wpOp Tryz.prog ops Q i (FN n w m (U.setIfInBounds i true)) a s:=by
 obtain⟨X,z,a2⟩:=ZQ hi;rw[t.size] at X;have hm:=zy0 h X z
 have E:∀(o:Oper)(p:Nat),ops[i]?=some o->(∃e∈o.after,Region.binds .any e=true/\e.on=p)->U.getD p false=true:=λo p b ⟨e,u,hb,H⟩=>by
  have:=a2 o b e u hb;rw[H] at this;exact this
 have b8:=h.fr
 by_cases W:∃r,r<15/\i=18+4*r
 ·obtain⟨r,c,rfl⟩:=W
  obtain⟨p,H⟩:∃p,(Gd n)[r]?=some p:=⟨_,Az (by show r<15;exact c)⟩
  obtain⟨o,b,g,f,j,I⟩:=t.ins r c p H;have k:=E o 0 b I;obtain⟨q,A,D,l,J,G,d,L⟩:=h.mp k
  have N:a.tmps[18+3*r]?=some p.2:=by
   rw[h.fr (18+3*r) Q4]
   exact zyh n r c p H
  refine Xk Tryz.underlying237 Nf (zuc n r p H) b g f j l N d Q0 ?_
  intro w' R S;refine h.ins z Q4 k (key:=p.1) (v:=p.2) ?_ l J G d L R S
  intro F T O K;refine⟨λe=>?_,λe=>?_⟩
  ·have:r=F:=Q0
   subst this;rw[H] at K;cases K
   rfl
  ·exact zAi n r F p O H K Q0
 ·have hc:i=0\/i=5\/i=6\/i=7\/i=12\/i=13\/i=14\/i=75\/i=76:=by
   have c:∀r,r<15->i≠18+4*r:=λr c e=>W ⟨r,c,e⟩;have a3:=c 0 Q0
   have a4:=c 1 Q0
   have a5:=c 2 Q0
   have a6:=c 3 Q0
   have a7:=c 4 Q0
   have a8:=c 5 Q0
   have a9:=c 6 Q0
   have b0:=c 7 Q0
   have b1:=c 8 Q0
   have b2:=c 9 Q0
   have b3:=c 10 Q0
   have b4:=c 11 Q0
   have b5:=c 12 Q0
   have b6:=c 13 Q0
   have b7:=c 14 Q0
   simp only[UC,CZ,List.mem_nil_iff,or_false] at hm;omega
  have C:∀r,r<15->i≠18+4*r:=λr c e=>W ⟨r,c,e⟩;rcases hc with rfl|rfl|rfl|rfl|rfl|rfl|rfl|rfl|rfl
  ·obtain⟨o,b,g,f,j⟩:=t.mkm
   refine RU (v:=.map (some s.heap.size)) (w':=s.alloc (.map #[] 0)) b g f ?_ ?_
   ·unfold execOp
    simp only[j];rfl
   ·refine h.put z Q6 (h.bel.alloc h.bel.size _) Q0 Q0 Q0 Q0 Q0 Q0 Q0 (λ_=>⟨_,rfl,h.bel.size,World.ownsMap_made s _ _ _⟩) (λe=>absurd rfl e) C Q0 Q0 Q0 Q0
  ·obtain⟨o,b,g,f,j⟩:=t.call1
   refine UD b g ?_;have Z:a.tmps[4]?=some (.pointer (some ⟨n,0,none⟩)):=by rw[h.fr 4 Q6];rfl
   have e7:a.tmps[7]?=some (.pointer (some ⟨n,0,none⟩)):=by rw[h.fr 7 Q6];rfl
   unfold Oper.wp execOp;simp[j,go_sem,resolve,invoke,Z,e7,f];refine(ztI n n 0 s).mono ?_;rintro e w' ⟨⟨B,x,y,rfl⟩,M⟩;exact h.put z Q6 (A9 M h.bel) Q0 (λ_=>⟨B,x,y,rfl⟩) Q0 Q0 (λ_=>⟨B,x,y,rfl⟩) Q0 Q0 Q0 (λ_ q A D d=>d.kept (row:=none) (YQ M) Q6) C Q0 Q0 Q0 Q0
  ·obtain⟨o,b,g,f,j,u⟩:=t.bld1
   obtain⟨B,x,y,V⟩:=h.c8 (E o 5 b u);refine RU (v:=.agg #[.string ⟨#[104]⟩,.func B x y,.bool false]) (w':=s) b g f ?_ ?_
   ·unfold execOp
    simp[j,go_sem,V]
   ·exact h.put z Q6 h.bel Q0 Q0 Q0 Q0 Q0 Q0 Q0 Q0 (λ_ q A D d=>d) C Q0 Q0 Q0 Q0
  ·obtain⟨o,b,g,f,j,I,u⟩:=t.ins1
   have k:=E o 0 b I;obtain⟨v,N⟩:=h.c9 (E o 6 b u);obtain⟨q,A,D,l,J,G,d,L⟩:=h.mp k;refine Xk Tryz.underlying237 Nf (by show(7:Nat)<=maxLen;unfold maxLen;omega) b g f j l N d Q0 ?_
   intro w' R S;exact h.ins z Q6 k (key:=[97,114,99,104,105,118,101]) (v:=v) (λF T O K=>⟨λe=>absurd e (C F T),λ_=>(zvI n F O K).1⟩) l J G d L R S
  ·obtain⟨o,b,g,f,j⟩:=t.call2
   refine UD b g ?_;have a0:a.tmps[10]?=some (.pointer (some ⟨n,0,none⟩)):=by rw[h.fr 10 Q6];rfl
   have a1:a.tmps[13]?=some (.pointer (some ⟨n,1,none⟩)):=by rw[h.fr 13 Q6];rfl
   unfold Oper.wp execOp;simp[j,go_sem,resolve,invoke,a0,a1,f];refine(ztI n n 1 s).mono ?_;rintro e w' ⟨⟨B,x,y,rfl⟩,M⟩;exact h.put z Q6 (A9 M h.bel) Q0 (λ_=>⟨B,x,y,rfl⟩) Q0 Q0 (λ_=>⟨B,x,y,rfl⟩) Q0 Q0 Q0 (λ_ q A D d=>d.kept (row:=none) (YQ M) Q6) C Q0 Q0 Q0 Q0
  ·obtain⟨o,b,g,f,j,u⟩:=t.bld2
   obtain⟨B,x,y,V⟩:=h.c14 (E o 12 b u);refine RU (v:=.agg #[.string ⟨#[104]⟩,.func B x y,.bool false]) (w':=s) b g f ?_ ?_
   ·unfold execOp
    simp[j,go_sem,V]
   ·exact h.put z Q6 h.bel Q0 Q0 Q0 Q0 Q0 Q0 Q0 Q0 (λ_ q A D d=>d) C Q0 Q0 Q0 Q0
  ·obtain⟨o,b,g,f,j,I,u⟩:=t.ins2
   have k:=E o 0 b I;obtain⟨v,N⟩:=h.c15 (E o 13 b u);obtain⟨q,A,D,l,J,G,d,L⟩:=h.mp k;refine Xk Tryz.underlying237 Nf (by show(7:Nat)<=maxLen;unfold maxLen;omega) b g f j l N d Q0 ?_
   intro w' R S;exact h.ins z Q6 k (key:=[115,105,100,101,99,97,114]) (v:=v) (λF T O K=>⟨λe=>absurd e (C F T),λ_=>(zvI n F O K).2⟩) l J G d L R S
  ·obtain⟨o,b,g,f,j,I⟩:=t.mv
   have k:=E o 0 b I;obtain⟨q,A,D,l,J,G,d,L⟩:=h.mp k;refine RU (v:=.map (some q)) (w':=s) b g f ?_ ?_
   ·unfold execOp
    simp[j,go_sem,l]
   ·exact h.put z Q6 h.bel Q0 Q0 Q0 Q0 Q0 Q0 Q0 Q0 (λ_ q A D d=>d) C Q0 (λ_=>⟨k,l⟩) Q0 Q0
  ·obtain⟨o,b,g,f,j,u⟩:=t.asg
   obtain⟨k,Y⟩:=h.t61 (E o 75 b u);obtain⟨q,A,D,l,J,G,d,L⟩:=h.mp k;rw[l] at Y;refine RU (v:=.map (some q)) (w':=s) b g f ?_ ?_
   ·unfold execOp
    simp[j,go_sem,Y]
   ·exact h.put z Q6 h.bel Q0 Q0 Q0 Q0 Q0 Q0 Q0 Q0 (λ_ q A D d=>d) C Q0 Q0 Q0 (λ_=>⟨k,l⟩)
def Ya(ops:Array Oper):Bool:=(List.range ops.size).all λi=>match ops[i]? with
 |some o=>o.after.all λe=>!Region.binds .any e ||decide (e.on<i)
 |none=>true
theorem zth(j:Ya ops=true){b:Array Bool}(m:b.size=ops.size)(h:Region.ready .any ops b=[]):∀i,i<ops.size->b.getD i false=true:=by
 intro i
 induction i using Nat.strongRecOn with
 | ind i k =>
   intro c;cases hl:b.getD i false with
   |true=>rfl
   | false =>
     exfalso
     have f:i∈Region.ready .any ops b:=by
      unfold Region.ready;rw[Lu,EB];refine⟨c,?_⟩
      have l:b.getD i true=false:=by
       simp[Array.getD,m,c] at hl |-;exact hl
      rw[l,Oh c];simp only[Bool.not_false,Nc,Iz,Es];rw[SA];intro e g;have d:=List.all_eq_true.1 j i (EB.2 c);rw[Oh c] at d;have a:=SA.1 d e g;simp only[J5,Fj] at a |-;rcases a with a|a
      ·exact .inl a
      ·exact .inr (k e.on a Q0)
     rw[h] at f;simp at f
def Xc(b:Nat)(c w:World)(v:Value):Prop:=∃a n D,v=.map (some a)/\c.heap.size<=a/\w.ownsMap Tryz.prog 9 EO a n D/\∀p∈Gd b,Maps.has D (.string p.1)=true/\∀z,D.atKey (.string p.1) z=.held p.2
theorem zwd{db:Nat}{w0:World}(e:J3 db ops)(u:Ya ops=true){b:Array Bool}{o:Act}{v:World}(h:FN db w0 m b o v)
 (j:∀o v,o.defers=[]->(∃g,o.tmps[2]?=some g/\Xc db w0 v g)->Qb w0 v->Q .normal o v):wpAny Tryz.prog .any ops Q m b o v:=by
 refine zm5 (λm l o v=>FN db w0 m l o v) (λm l o v i h f=>ztC e l o v i h f) ?_ ?_ m b o v h
 ·intro b o v h
  refine List.eq_nil_iff_forall_not_mem.2 λi f=>?_;obtain⟨-,w,-⟩:=ZQ f;have d:=zqx _ _ (UN w).2;rw[h.unl] at d;omega
 ·intro m b o v h a
  have c:=zth u (by rw[h.lsize,e.size]) a
  rw[e.size] at c;obtain⟨y,n,D,d,k,z,q,s⟩:=h.mp (c 0 Q0)
  obtain⟨-,t⟩:=h.t2 (c 76 Q0)
  refine j o v h.defers ⟨_,t.trans d,y,n,D,rfl,k,q,λp x=>?_⟩ h.bel;obtain⟨r,a⟩:=SC x;exact s r (US db r p a) (c _ (by have:=US db r p a;omega)) p a
end
theorem zwH(db:Nat)(w:World):Qk 134 #[Qp db 0] w λe b=>∃v,e=.returned v/\Xc db w b v/\Qb w b:=by
 go_enter Tryz.func134,Tryz.ntmps134
 go_wp2_with fail
 simp only[List.append_eq,Di,C6];refine wp_region_noPanic ?_;refine wp_region_any Q2 ?_
 refine Cy 1 Q1 Q2 (λ_ _ _ h=>h) Q7 (v:=?_) Q8 ?_
 try simp only[Act.put,AO,AR,AL]
 refine Cy 2 Q1 Q2 (λ_ _ _ h=>h) Q7 (v:=?_) Q8 ?_
 try simp only[Act.put,AO,AR,AL]
 refine Cy 3 Q1 Q2 (λ_ _ _ h=>h) Q7 (v:=?_) Q8 ?_
 try simp only[Act.put,AO,AR,AL]
 refine Cy 4 Q1 Q2 (λ_ _ _ h=>h) Q7 (v:=?_) Q8 ?_
 try simp only[Act.put,AO,AR,AL]
 refine Cy 8 Q1 Q2 (λ_ _ _ h=>h) Q7 (v:=?_) Q8 ?_
 try simp only[Act.put,AO,AR,AL]
 refine Cy 9 Q1 Q2 (λ_ _ _ h=>h) Q7 (v:=?_) Q8 ?_
 try simp only[Act.put,AO,AR,AL]
 refine Cy 10 Q1 Q2 (λ_ _ _ h=>h) Q7 (v:=?_) Q8 ?_
 try simp only[Act.put,AO,AR,AL]
 refine Cy 11 Q1 Q2 (λ_ _ _ h=>h) Q7 (v:=?_) Q8 ?_
 try simp only[Act.put,AO,AR,AL]
 refine Cy 15 Q1 Q2 (λ_ _ _ h=>h) Q7 (v:=?_) Q8 ?_
 try simp only[Act.put,AO,AR,AL]
 refine Cy 16 Q1 Q2 (λ_ _ _ h=>h) Q7 (v:=?_) Q8 ?_
 try simp only[Act.put,AO,AR,AL]
 refine Cy 17 Q1 Q2 (λ_ _ _ h=>h) Q7 (v:=?_) Q8 ?_
 try simp only[Act.put,AO,AR,AL]
 refine Cy 19 Q1 Q2 (λ_ _ _ h=>h) Q7 (v:=?_) Q8 ?_
 try simp only[Act.put,AO,AR,AL]
 refine Cy 20 Q1 Q2 (λ_ _ _ h=>h) Q7 (v:=?_) Q8 ?_
 try simp only[Act.put,AO,AR,AL]
 refine Cy 21 Q1 Q2 (λ_ _ _ h=>h) Q7 (v:=?_) Q8 ?_
 try simp only[Act.put,AO,AR,AL]
 refine Cy 23 Q1 Q2 (λ_ _ _ h=>h) Q7 (v:=?_) Q8 ?_
 try simp only[Act.put,AO,AR,AL]
 refine Cy 24 Q1 Q2 (λ_ _ _ h=>h) Q7 (v:=?_) Q8 ?_
 try simp only[Act.put,AO,AR,AL]
 refine Cy 25 Q1 Q2 (λ_ _ _ h=>h) Q7 (v:=?_) Q8 ?_
 try simp only[Act.put,AO,AR,AL]
 refine Cy 27 Q1 Q2 (λ_ _ _ h=>h) Q7 (v:=?_) Q8 ?_
 try simp only[Act.put,AO,AR,AL]
 refine Cy 28 Q1 Q2 (λ_ _ _ h=>h) Q7 (v:=?_) Q8 ?_
 try simp only[Act.put,AO,AR,AL]
 refine Cy 29 Q1 Q2 (λ_ _ _ h=>h) Q7 (v:=?_) Q8 ?_
 try simp only[Act.put,AO,AR,AL]
 refine Cy 31 Q1 Q2 (λ_ _ _ h=>h) Q7 (v:=?_) Q8 ?_
 try simp only[Act.put,AO,AR,AL]
 refine Cy 32 Q1 Q2 (λ_ _ _ h=>h) Q7 (v:=?_) Q8 ?_
 try simp only[Act.put,AO,AR,AL]
 refine Cy 33 Q1 Q2 (λ_ _ _ h=>h) Q7 (v:=?_) Q8 ?_
 try simp only[Act.put,AO,AR,AL]
 refine Cy 35 Q1 Q2 (λ_ _ _ h=>h) Q7 (v:=?_) Q8 ?_
 try simp only[Act.put,AO,AR,AL]
 refine Cy 36 Q1 Q2 (λ_ _ _ h=>h) Q7 (v:=?_) Q8 ?_
 try simp only[Act.put,AO,AR,AL]
 refine Cy 37 Q1 Q2 (λ_ _ _ h=>h) Q7 (v:=?_) Q8 ?_
 try simp only[Act.put,AO,AR,AL]
 refine Cy 39 Q1 Q2 (λ_ _ _ h=>h) Q7 (v:=?_) Q8 ?_
 try simp only[Act.put,AO,AR,AL]
 refine Cy 40 Q1 Q2 (λ_ _ _ h=>h) Q7 (v:=?_) Q8 ?_
 try simp only[Act.put,AO,AR,AL]
 refine Cy 41 Q1 Q2 (λ_ _ _ h=>h) Q7 (v:=?_) Q8 ?_
 try simp only[Act.put,AO,AR,AL]
 refine Cy 43 Q1 Q2 (λ_ _ _ h=>h) Q7 (v:=?_) Q8 ?_
 try simp only[Act.put,AO,AR,AL]
 refine Cy 44 Q1 Q2 (λ_ _ _ h=>h) Q7 (v:=?_) Q8 ?_
 try simp only[Act.put,AO,AR,AL]
 refine Cy 45 Q1 Q2 (λ_ _ _ h=>h) Q7 (v:=?_) Q8 ?_
 try simp only[Act.put,AO,AR,AL]
 refine Cy 47 Q1 Q2 (λ_ _ _ h=>h) Q7 (v:=?_) Q8 ?_
 try simp only[Act.put,AO,AR,AL]
 refine Cy 48 Q1 Q2 (λ_ _ _ h=>h) Q7 (v:=?_) Q8 ?_
 try simp only[Act.put,AO,AR,AL]
 refine Cy 49 Q1 Q2 (λ_ _ _ h=>h) Q7 (v:=?_) Q8 ?_
 try simp only[Act.put,AO,AR,AL]
 refine Cy 51 Q1 Q2 (λ_ _ _ h=>h) Q7 (v:=?_) Q8 ?_
 try simp only[Act.put,AO,AR,AL]
 refine Cy 52 Q1 Q2 (λ_ _ _ h=>h) Q7 (v:=?_) Q8 ?_
 try simp only[Act.put,AO,AR,AL]
 refine Cy 53 Q1 Q2 (λ_ _ _ h=>h) Q7 (v:=?_) Q8 ?_
 try simp only[Act.put,AO,AR,AL]
 refine Cy 55 Q1 Q2 (λ_ _ _ h=>h) Q7 (v:=?_) Q8 ?_
 try simp only[Act.put,AO,AR,AL]
 refine Cy 56 Q1 Q2 (λ_ _ _ h=>h) Q7 (v:=?_) Q8 ?_
 try simp only[Act.put,AO,AR,AL]
 refine Cy 57 Q1 Q2 (λ_ _ _ h=>h) Q7 (v:=?_) Q8 ?_
 try simp only[Act.put,AO,AR,AL]
 refine Cy 59 Q1 Q2 (λ_ _ _ h=>h) Q7 (v:=?_) Q8 ?_
 try simp only[Act.put,AO,AR,AL]
 refine Cy 60 Q1 Q2 (λ_ _ _ h=>h) Q7 (v:=?_) Q8 ?_
 try simp only[Act.put,AO,AR,AL]
 refine Cy 61 Q1 Q2 (λ_ _ _ h=>h) Q7 (v:=?_) Q8 ?_
 try simp only[Act.put,AO,AR,AL]
 refine Cy 63 Q1 Q2 (λ_ _ _ h=>h) Q7 (v:=?_) Q8 ?_
 try simp only[Act.put,AO,AR,AL]
 refine Cy 64 Q1 Q2 (λ_ _ _ h=>h) Q7 (v:=?_) Q8 ?_
 try simp only[Act.put,AO,AR,AL]
 refine Cy 65 Q1 Q2 (λ_ _ _ h=>h) Q7 (v:=?_) Q8 ?_
 try simp only[Act.put,AO,AR,AL]
 refine Cy 67 Q1 Q2 (λ_ _ _ h=>h) Q7 (v:=?_) Q8 ?_
 try simp only[Act.put,AO,AR,AL]
 refine Cy 68 Q1 Q2 (λ_ _ _ h=>h) Q7 (v:=?_) Q8 ?_
 try simp only[Act.put,AO,AR,AL]
 refine Cy 69 Q1 Q2 (λ_ _ _ h=>h) Q7 (v:=?_) Q8 ?_
 try simp only[Act.put,AO,AR,AL]
 refine Cy 71 Q1 Q2 (λ_ _ _ h=>h) Q7 (v:=?_) Q8 ?_
 try simp only[Act.put,AO,AR,AL]
 refine Cy 72 Q1 Q2 (λ_ _ _ h=>h) Q7 (v:=?_) Q8 ?_
 try simp only[Act.put,AO,AR,AL]
 refine Cy 73 Q1 Q2 (λ_ _ _ h=>h) Q7 (v:=?_) Q8 ?_
 try simp only[Act.put,AO,AR,AL]
 refine zwd (db:=db) (w0:=w) (m:=24) ?hops Q2 ?hinv ?hpost
 case hpost =>
  intro a b f j d;refine NoPanic.normal ?_;obtain⟨v,c,g⟩:=j
  go_wp2_with fail
  refine BV (Nk rfl _ _ _) f ⟨_,rfl,?_,d⟩;simpa [c] using g
 case hinv =>
  refine⟨rfl,rfl,rfl,rfl,?_,Q5,?_,λh=>absurd h Q5,λh=>absurd h Q5,λh=>absurd h Q5,λh=>absurd h Q5,λh=>absurd h Q5,Q5,λh=>absurd h Q5,λh=>absurd h Q5⟩
  ·intro k l
   rfl
  ·exact Below.drew (Ag _ _)
 case hops =>
  refine⟨rfl,⟨_,rfl,rfl,rfl,rfl⟩,⟨_,rfl,rfl,rfl,rfl⟩,⟨_,rfl,rfl,rfl,rfl⟩,⟨_,rfl,rfl,rfl,rfl,?_⟩,⟨_,rfl,rfl,rfl,rfl,?_⟩,⟨_,rfl,rfl,rfl,rfl,?_,?_⟩,⟨_,rfl,rfl,rfl,rfl,?_,?_⟩,?_,⟨_,rfl,rfl,rfl,rfl,?_⟩,⟨_,rfl,rfl,rfl,rfl,?_⟩⟩
  all_goals first
   |exact⟨{ on:=0,ground:=.data },Q6,rfl,rfl⟩
   |exact⟨{ on:=5,ground:=.data },Q6,rfl,rfl⟩
   |exact⟨{ on:=6,ground:=.data },Q6,rfl,rfl⟩
   |exact⟨{ on:=12,ground:=.data },Q6,rfl,rfl⟩
   |exact⟨{ on:=13,ground:=.data },Q6,rfl,rfl⟩
   |exact⟨{ on:=75,ground:=.data },Q6,rfl,rfl⟩
   |skip
  intro r n p i;have:r=0\/r=1\/r=2\/r=3\/r=4\/r=5\/r=6\/r=7\/r=8\/r=9\/r=10\/r=11\/r=12\/r=13\/r=14:=Q0
  rcases this with rfl|rfl|rfl|rfl|rfl|rfl|rfl|rfl|rfl|rfl|rfl|rfl|rfl|rfl|rfl<;>(cases i;exact⟨_,rfl,rfl,rfl,rfl,{ on:=0,ground:=.data },Q6,rfl,rfl⟩)
