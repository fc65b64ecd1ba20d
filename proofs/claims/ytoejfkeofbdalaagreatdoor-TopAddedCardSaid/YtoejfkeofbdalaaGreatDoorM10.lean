import Derived.Test.YtoejfkeofbdalaaGreatDoorM09
import Derived.RangeFuncBound
import Derived.RangeFuncCalls
import Derived.RangeFuncLeaves
import Derived.RangeFuncNested
import Derived.LoopNIn
import Derived.LoopIn
import Derived.OwnWalkIn
import Derived.TacticsInMore
import Derived.Shelf.RegionOpen
import Derived.RegionIn
set_option linter.all false
set_option maxRecDepth 100000
set_option maxHeartbeats 8000000
namespace Go.Proofs.YtoejfkeofbdalaaGreatDoor
open Go.RowKit Go.Shelf
attribute [local go_sem] Oper.semAt_some
variable {p:Nat->Prop} {u v w:World}
def Bp(p:Nat->Prop)(W a:World):Prop:=∀b,p b->a.heap[b]?=W.heap[b]?
theorem Bp.refl(p:Nat->Prop)(W:World):Bp p W W:=λ_ _=>rfl
theorem Bp.trans(h:Bp p w v)(k:Bp p v u):Bp p w u:=λb a=>(k b a).trans (h b a)
theorem Bp.cell{W:World}(h:Bp p W v)(b o:Nat)(a:p b):v.cell? ⟨b,o,none⟩=W.cell? ⟨b,o,none⟩:=KG (w:=W) (h b a)
theorem Bp.setCell(h:Bp p w v){F:Addr}(c:∀b,p b->b≠F.block)(u:Value):Bp p w (v.setCell F u):=λb a =>
 (Bg v F u b (c b a)).trans (h b a)
theorem Bp.alloc(h:Bp p w v)(c:∀b,p b->b<v.heap.size)(o:Obj):Bp p w (v.alloc o):=λb a =>
 (GV v o b (c b a)).trans (h b a)
theorem Bp.below{n:Nat}(h:Bp p w v)(c:Below n v u)(d:∀b,p b->b<n):Bp p w u:=λb a =>
 (c.block b (d b a)).trans (h b a)
theorem Bp.grown{c:Option Nat}(h:Bp p w v)(d:v.grownBy u c)(e:∀b,p b->b<v.heap.size)(f:∀b,p b->some b≠c):Bp p w u:=λb a =>
 (d.block b (e b a) (f b a)).trans (h b a)
theorem zzJ{n₀:Nat}(c:∀b,p b->b<n₀)(i:n₀<=w.heap.size)(W:World)(l:Nat)(o d:Obj)(g:w.heap.size<=l)(h:Qh W l o)(f:o.isCells=false)(f:o.isWalk=false):Bp p W (W.putObj l d) :=
 (Bp.refl p W).grown (Mu W l d) (λb a=>by have:=(Array.getElem?_eq_some_iff.1 h).1;have:=c b a;omega) (λb a e=>by cases e;have:=c l a;omega)
def zyS{a:Type}(J g:List a->World->Prop)(c:List a)(e:Ending)(b:World):Prop :=
 (∃v,e=.returned v)/\((∃d,d=c/\J d b)\/(∃f,f <+: c/\g f b))
theorem Ac.kept{B:Nat}{x:Value}{l:List Int}(h:Ac w B x l)(c:Bp p w v)(d:∀b,b<B->p b):Ac v B x l:=h.keep λj o a=>c.cell j o (d j a)
theorem Rs{d:Func}{p q:Tmp}{e f:TypeId}(h:d.results=#[.cell p e,.cell q f])(c:Array Value)(P:Program)(w:World)(a b:Addr)(v u:Value)(j:c.getD p undef=.pointer (some a))(k:c.getD q undef=.pointer (some b))(g:(loadVar e a).run P w=.ok v w)(i:(loadVar f b).run P w=.ok u w):(results d c).run P w=.ok (.tuple #[v,u]) w:=by
 have l:c[p]?.getD undef=.pointer (some a):=by simpa using j
 have m:c[q]?.getD undef=.pointer (some b):=by simpa using k
 simp[results,h,l,m,asAddr,g,i]
theorem L8(a:Addr)(w:World)(v:Value)(b:w.cell? a=some v):(loadVar 3 a).run Tryz.prog w=.ok v w:=by
 simp[loadVar,isAgg,b]
theorem O8(a:Addr)(w:World)(v:Value)(b:w.cell? a=some v):(loadVar 25 a).run Tryz.prog w=.ok v w:=by
 simp[loadVar,isAgg,b]
end Go.Proofs.YtoejfkeofbdalaaGreatDoor
namespace Go.Proofs.YtoejfkeofbdalaaGreatDoor
open Go.RowKit Go.Shelf
variable {D:Nat} {a c:Nat->Prop} {assign body:Go.Code} {o:Obj} {ps:Array Tmp} {u v w:World}
def Ao(e:Nat->Prop)(W d:World):Prop:=∀b a t c,¬ e b->Qh W b (.cells a t c)->Qh d b (.cells a t c)
theorem Ao.refl(a:Nat->Prop)(W:World):Ao a W W:=λ_ _ _ _ _ h=>h
theorem Ao.trans(h:Ao a w v)(k:Ao a v u):Ao a w u:=λb c t d e f=>k b c t d e (h b c t d e f)
theorem Ao.put{f:Nat->Prop}{r:Nat}(d:Obj)(h:Qh w r o)(c:o.isCells=false):Ao f w (w.putObj r d):=λb g t i _ a=>by
 by_cases e:b=r
 ·subst e
  rw[h] at a;cases a
  cases c
 ·rw[GK e];exact a
theorem Ao.below(h:Ao c w v)(i:Qb v u):Ao c w u:=λb d t e f g=>by
 have a:=h b d t e f g;exact(i.block b (Aj a)).trans a
theorem Ao.set(h:Ao a w v){q:Addr}(i:a q.block)(u:Value):Ao a w (v.setCell q u):=λb d t f c g =>
 (Bg v q u b (λe=>c (by rw[e];exact i))).trans (h b d t f c g)
theorem Ao.cells(d:Ao c w v){b:Nat}{h:Array Value}{t:TypeId}{a:Nat × Nat}(f:¬ c b)(e:Qh w b (.cells h t a)):Qh v b (.cells h t a):=d b h t a f e
theorem Qm{b m:Nat}{x:Value}(h:Qc w b m x):∃a t c,Qh w b (.cells a t c):=by
 obtain⟨f,d,e⟩:=cells_of_cell h;cases f<;>first|(cases e;done)|exact⟨_,_,_,d⟩
theorem Ao.cell{d:Nat->Prop}{W:World}(h:Ao d W v){b m:Nat}{x:Value}(g:¬ d b)(a:Qc W b m x):Qc v b m x:=by
 obtain⟨e,t,f,c⟩:=Qm a;exact(KG (w:=W) ((h b e t f g c).trans c.symm)).trans a
def XM{d:Type}(n:Nat)(g:Nat)(m:Array Value)(p:d->Array Value)(j:d->World->Prop)(i:World->World->Prop)(S k:List d->Prop)(N:Nat)(o:World):Prop :=
 ∀(l:Nat)(J f:List d->World->Prop)(W:World),Qb o W->(∀s A B,J s A->Qb A B->J s B)->(∀s A B,f s A->Qb A B->f s B)->
  (∀b x c,J b c->b.length<N->j x c->YieldAt Fence.wide (n-1) Tryz.prog l (p x) c λe a=>(e=.returned (.bool true)/\J (b++[x]) a/\i c a/\c.heap.size<=a.heap.size)\/(e=.returned (.bool false)/\f (b++[x]) a))->
  J [] W->CallsIn Fence.wide n Tryz.prog g (#[.func (.yield l) #[] #[]]++m) W λe a=>(∃v,e=.returned v)/\((∃h,S h/\J h a)\/(∃b,k b/\f b a))
theorem TE(h:Qb w v):w.grownBy v none:=⟨h.os,h.tape,h.output,h.size,λk a _=>h.block k a⟩
def DT(fn:FuncId)(tmps:Array Value)(ps:Array Tmp)(assign body:Go.Code)(D:Nat)(st:LoopState)(pe:Option Go.Code):Obj:=.loop { state:=st,pending:=pe,fn,tmps,params:=ps,assign,body,defers:=D }
def Bf(D:Nat)(o:Obj)(W:World):Prop:=W.heap[D+1]?=some o/\Qh W D (.deferred (some []))
theorem Bf.from(h:Bf D o w)(b:o.isCells=false)(a:KeepsFrom D w v):Bf D o v:=⟨a.same _ _ Q0 h.1 b,a.same _ _ (Af _) h.2 rfl⟩
theorem Bf.bel(h:Bf D o w)(a:Qb w v):Bf D o v:=⟨(a.block _ (Aj h.1)).trans h.1,(a.block _ (Aj h.2)).trans h.2⟩
theorem Bf.put(h:Bf D o w)(a:Obj):Bf D a (w.putObj (D+1) a):=⟨World.putObj_heap_same (Aj h.1),(GK Q0).trans h.2⟩
variable {n:Nat}
theorem zqI{α:Type}{fn:FuncId}{tmps:Array Value}{encs:α->Array Value}(hps:∀x,(encs x).size=ps.size)(Ok:α->World->Prop)(bad:Nat->Prop)
 (I:List α->World->Prop) (Ix:Go.Code->List α->World->Prop) (hI:OwnFrom D I) (hIx:∀c,OwnFrom D (Ix c)) (Ax:α->Act->World->Prop) (hAx:∀x a',OwnFrom D (λ(_:Unit) W=>Ax x a' W)) (N:Nat)
 (hassign:∀(pre:List α)(x:α)(W:World)(K:Act->World->Prop),I pre W->Ok x W->D+1<W.heap.size->(∀a' W',KeepsFrom D W W'->Ao bad W W'->I pre W'->Ax x a' W'->K a' W')->
   assign.wpIn (Fence.wide.inRound (D+1)) n Tryz.prog (Exit.then K (λ_ _ _=>False)) { tmps:=(ps.zip (encs x)).foldl (λt (p,v)=>t.setIfInBounds p v) tmps,defers:=[] } W)
 (hbody:∀(pre:List α)(x:α)(a':Act)(W:World),I pre W->Ax x a' W->D+1<W.heap.size->pre.length<N->body.wpIn (Fence.wide.inRound (D+1)) n Tryz.prog (ownPostG D (Ao bad) I Ix (pre++[x]) W) a' W)
 (pre:List α) (x:α) (W:World) (hJ:I pre W/\Bf D (DT fn tmps ps assign body D .ready none) W) (hlen:pre.length<N) (hok:Ok x W) :
 YieldAt Fence.wide n Tryz.prog (D+1) (encs x) W λe W'=>(e=.returned (.bool true)/\(I (pre++[x]) W'/\Bf D (DT fn tmps ps assign body D .ready none) W')/\Ao bad W W'/\W.heap.size<=W'.heap.size) \/
  (e=.returned (.bool false)/\∃c,Ix c (pre++[x]) W'/\Bf D (DT fn tmps ps assign body D .done (some c)) W'):=by
 obtain⟨hi,hr⟩:=hJ;have hlt:=Aj hr.1;refine⟨fn,_,assign,body,run_yield hr.1 (hps x),roundIn_of_wpIn trivial (hassign pre x W _ hi hok hlt ?_)⟩;intro a' Wa hk1 hc1 hi1 hax;have hra:=hr.from rfl hk1
 have hltA:=Aj hra.1;refine⟨_,run_beginRound hra.1 rfl,?_⟩;have hrb:=hra.put (DT fn tmps ps assign body D .busy none);refine wpIn_mono (hbody pre x a' _ (hI.putObj _ hi1 Q0 hra.1 rfl) ((hAx x a').putObj (s:=()) _ hax Q0 hra.1 rfl) (Aj hrb.1) hlen) ?_
 have hcb:Ao bad W (Wa.putObj (D+1) (DT fn tmps ps assign body D .busy none)):=hc1.trans (Ao.put _ hra.1 rfl);have hzb:W.heap.size<=(Wa.putObj (D+1) (DT fn tmps ps assign body D .busy none)).heap.size:=by simp only[World.putObj,MV];exact hk1.size
 have fin:∀(jump:Option Go.Code)(W3:World),KeepsFrom D (Wa.putObj (D+1) (DT fn tmps ps assign body D .busy none)) W3 ->
  Bf D (DT fn tmps ps assign body D .busy none) W3:=λjump W3 h3=>hrb.from rfl h3
 rintro e a3 W3 hp;cases e with
 | normal =>
   obtain⟨hk3,hc3,hi3⟩:=hp;have h3:=fin none W3 hk3;exact⟨_,_,M0 none h3.1,.inl ⟨rfl,⟨hI.putObj _ hi3 Q0 h3.1 rfl,h3.put _⟩,(hcb.trans hc3).trans (Ao.put _ h3.1 rfl),BU hzb (BU hk3.size (by simp[World.putObj]))⟩⟩
 | ret =>
   obtain⟨hk3,hi3⟩:=hp;have h3:=fin (some .ret) W3 hk3;exact⟨_,_,M0 (some .ret) h3.1,.inr ⟨rfl,.ret,(hIx _).putObj _ hi3 Q0 h3.1 rfl,h3.put _⟩⟩
 | exit id =>
   obtain⟨hk3,hi3⟩:=hp;have h3:=fin (some (.exit id)) W3 hk3;exact⟨_,_,M0 (some (.exit id)) h3.1,.inr ⟨rfl,.exit id,(hIx _).putObj _ hi3 Q0 h3.1 rfl,h3.put _⟩⟩
 | goto t =>
   obtain⟨hk3,hi3⟩:=hp;have h3:=fin (some (.goto t)) W3 hk3;exact⟨_,_,M0 (some (.goto t)) h3.1,.inr ⟨rfl,.goto t,(hIx _).putObj _ hi3 Q0 h3.1 rfl,h3.put _⟩⟩
 |panic ch=>exact hp.elim
 |outgrown=>exact hp.elim
theorem Nr{a:Type}{B:Nat}{I:a->World->Prop}(h:OwnFrom B I){s:a}{w v:World}(c:I s w)(b:Qb w v):I s v:=h s w v none c (TE b) (λr e=>by cases e)
theorem Xh{α:Type}{g:Operand}{Q:Exit->Act->World->Prop}{a:Act}(h1:1<=n)
 {gf:Nat} {lb:Array Value} (hg:a.eval g=.func (.func gf) #[] lb) (eg:Enters Tryz.prog gf) {encs:α->Array Value} (hps:∀x,(encs x).size=ps.size) (Ok:α->World->Prop) (bad:Nat->Prop) {S Sp:List α->Prop} {N:Nat} {w0:World}
 (hseq:XM (n-1) gf lb encs Ok (Ao bad) S Sp N w0) (hb0:Qb w0 w)
 (I:List α->World->Prop) (Ix:Go.Code->List α->World->Prop) (hI:OwnFrom w.heap.size I) (hIx:∀c,OwnFrom w.heap.size (Ix c)) (h0:I [] w) (Ax:α->Act->World->Prop) (hAx:∀x a',OwnFrom w.heap.size (λ(_:Unit) W=>Ax x a' W))
 (hassign:∀(l:Nat)(pre:List α)(x:α)(W:World)(K:Act->World->Prop),I pre W->Ok x W->w.heap.size+1<W.heap.size->(∀a' W',KeepsFrom w.heap.size W W'->Ao bad W W'->I pre W'->Ax x a' W'->K a' W')->
   assign.wpIn (Fence.wide.inRound l) (n-1-1) Tryz.prog (Exit.then K (λ_ _ _=>False)) { tmps:=(ps.zip (encs x)).foldl (λt (p,v)=>t.setIfInBounds p v) a.tmps,defers:=[] } W)
 (hbody:∀(l:Nat)(pre:List α)(x:α)(a':Act)(W:World),I pre W->Ax x a' W->w.heap.size+1<W.heap.size->pre.length<N->body.wpIn (Fence.wide.inRound l) (n-1-1) Tryz.prog (ownPostG w.heap.size (Ao bad) I Ix (pre++[x]) W) a' W)
 (hdone:∀(D:Nat)(xs:List α)(W:World),w.heap.size<=D->S xs->I xs W->Qh W D (.deferred (some []))->Q .normal { a with defers:={ target:=.collected D,args:=#[] }::a.defers } W)
 (hstop:∀(D:Nat)(c:Go.Code)(pre:List α)(W:World),w.heap.size<=D->Sp pre->Ix c pre W->Qh W D (.deferred (some []))->c.wpIn Fence.wide n Tryz.prog Q { a with defers:={ target:=.collected D,args:=#[] }::a.defers } W) :
 (Code.rangeFunc g ps assign body).wpIn Fence.wide n Tryz.prog Q a w:=by
 refine wpIn_rangeFunc ?_;intro fn hfn;obtain⟨W1,hW1⟩:=Qe ((w.alloc (.deferred (some []))).alloc (DT fn a.tmps ps assign body w.heap.size .ready none));have hB1:Qb w W1:=by rw[<-hW1];exact((Ag _ w).alloc (Af _) _).alloc Q6 _
 have hR1:Bf w.heap.size (DT fn a.tmps ps assign body w.heap.size .ready none) W1:=by
  rw[<-hW1];exact⟨Am _ _ _ Q6,Bb _ (Am _ _ _ rfl)⟩
 refine⟨w.heap.size+1,[{ target:=.collected w.heap.size,args:=#[] }],W1,{ target:=.fn (.func gf) lb,args:=#[.func (.yield (w.heap.size+1)) #[] #[]] },W1,gf,
  #[.func (.yield (w.heap.size+1)) #[] #[]]++lb,W1,?_,?_,?_,?_,λ_=>h1,?_⟩
 ·rw[<-hW1];exact SS _ _ _ _ _
 ·simp only[resolve,hg]
  simp[go_sem]
 ·intro f' hf';simp[Target.leads] at hf';subst hf';trivial
 ·have:=eg
  unfold Enters at this;simp[invoke,go_sem,this]
 ·refine(hseq (w.heap.size+1) (λpre W=>I pre W/\Bf w.heap.size (DT fn a.tmps ps assign body w.heap.size .ready none) W)
   (λpre W=>∃c,Ix c pre W/\Bf w.heap.size (DT fn a.tmps ps assign body w.heap.size .done (some c)) W) W1 (hb0.trans (hB1.mono hb0.size))
   (λs A C h hB=>⟨Nr hI h.1 hB,h.2.bel hB⟩) (λs A C ⟨c,h,h2⟩ hB=>⟨c,Nr (hIx c) h hB,h2.bel hB⟩)
   (λpre x W hJ hlen hok=>zqI hps Ok bad I Ix hI hIx Ax hAx N (hassign _) (hbody _) pre x W hJ hlen hok) ⟨Nr hI h0 hB1,hR1⟩).mono ?_
  rintro e W2 ⟨⟨v,rfl⟩,(⟨xs,hS,hi,hr⟩|⟨pre,hSp,c,hi,hr⟩)⟩
  ·exact⟨none,_,Ox hr.1 Q6,hdone _ xs _ (Af _) hS (hI.putObj _ hi Q0 hr.1 rfl) ((GK Q0).trans hr.2)⟩
  ·exact⟨some c,_,Ox hr.1 Q6,hstop _ c pre _ (Af _) hSp ((hIx c).putObj _ hi Q0 hr.1 rfl) ((GK Q0).trans hr.2)⟩
end Go.Proofs.YtoejfkeofbdalaaGreatDoor
namespace Go.Proofs.YtoejfkeofbdalaaGreatDoor
open Go.RowKit
theorem X3(n:Int)(W:World):Qk 89 #[Qi n] W λe a=>e=.returned (.bool (JJ n))/\W=a:=by
 unfold JJ;rcases h1:decide (1<=n) with _|_<;>rcases h2:decide (n<=20) with _|_<;>
 ·go_enter Tryz.func89,Tryz.ntmps89
  go_wp2
  go_ret
  exact⟨rfl,rfl⟩
theorem zqr(n:Int)(W:World):Qk 87 #[Qi n] W λe a=>e=.returned (.bool (QG n))/\W=a:=by
 unfold QG;rcases h1:decide (2<=n) with _|_<;>rcases h2:decide (n<=258) with _|_<;>
 ·go_enter Tryz.func87,Tryz.ntmps87
  go_wp2
  go_ret
  exact⟨rfl,rfl⟩
theorem ztN(n:Int)(W:World):Qk 88 #[Qi n] W λe a=>e=.returned (.bool (!JJ n))/\W=a:=by
 have C:=Aa (X3 n);generalize JJ n=b at*
 go_enter Tryz.func88,Tryz.ntmps88
 go_wp2_with fail
 refine(C.out _).mono ?_;rintro e c ⟨rfl,rfl⟩
 go_wp2_with fail
 go_ret
 exact⟨rfl,rfl⟩
theorem zoY:Enters Tryz.prog 88:=enters_of Tryz.func88 Q2 rfl
def XI(n:Int):Bool:=!JJ n
theorem zvG(a:List Nat)(j n:Nat)(h:a[j]?=some n):(ints a)[j]?.getD 0=(n:Int):=by simp[ints,h]
theorem YP(w:World)(v:Value)(c:List Nat)(F:Ac w w.heap.size v (ints c))(c7:2<=c.length)(c8:c.length<=258)(K:∀n∈c,1<=n/\n<=20) :
 Qk 28 #[v] w λe s=>e=.returned (.tuple #[.agg #[.string (Ba (FT c)),Qi ((FT c).length:Nat)],Qi 0])/\Qb w s:=by
 obtain⟨d1,ca,rfl,b3,d3⟩:=F.shape;obtain⟨g,o,rfl,hg,b5⟩:=F.at 0 (by rw[Bj];omega)
 have X:Hid (∀W,BL w W [] [(w.heap.size,#[.string ⟨#[]⟩,Qi 0],50)]->Qk 82 #[Qs g o c.length ca,.func (.func 88) #[] #[]] W λe s=>e=.returned (.bool false)/\Qb W s):=λW t=>by
  have h:=O1 W _ (ints c) XI 88 #[] zoY (t.old F) (by rw[Bj];omega) (λa5 _ b9 _=>ztN a5 b9)
  rw[Bj] at h
  have hf:(ints c).any XI=false:=by
   rw[GR];intro a5 G;simp only[ints,C8] at G;obtain⟨a,E,rfl⟩:=G;have:=K a E;simp[XI,JJ];omega
  rw[hf] at h;exact h
 obtain⟨m,Q⟩:∃a,c[0]?=some a:=⟨_,Az Q0⟩
 have d2:1<=m/\m<=20:=K m (Cn Q);rw[zvG c 0 m Q] at b5
 have a2:FT c=B.low m 5++Jr m (c.drop 0):=by
  cases c with
  |nil=>simp at Q
  | cons a l =>
    have:a=m:=by simpa using Q
    subst this;simp[FT]
 have c5:(FT c).length<=20000:=by
  have:=YC c (λn h=>(K n h).2);omega
 obtain⟨T,b2⟩:=Qe (FT c);rw[b2] at a2 c5 |-;obtain⟨N,a0⟩:=Qe c.length;rw[Bj] at F b3 |-;have b0:=Aa F;rw[a0] at X b3 c7 c8 b0 |-
 have a6:Hid (∀W,Qk 87 #[Qi (N:Nat)] W λe s=>e=.returned (.bool true)/\W=s):=λW=>by
  have:=zqr (N:Nat) W;rw[show QG (N:Nat)=true by simp[QG];omega] at this
  exact this
 obtain⟨H,a3⟩:=Qe (B.low m 5);have b1:Hid (∀W,Qk 19 #[.agg #[.string ⟨#[]⟩,Qi 0],.int .u64 m,Qi 5] W λe s=>e=.returned (.tuple #[.agg #[.string (Ba H),Qi (H.length:Nat)],Qi 0])/\Qb W s):=λW=>Sc W m 5 H a3 Q0 Q0
 have c4:Hid (∀W (l r:List Bool),l++[true,false]=r->l.length<=20000->Qk 19 #[.agg #[.string (Ba l),Qi (l.length:Nat)],.int .u64 2,Qi 2] W λe s=>e=.returned (.tuple #[.agg #[.string (Ba r),Qi (r.length:Nat)],Qi 0])/\Qb W s):=λW l r i h=>Sq W l 2 2 r i Q0 Q0 Q0
 have c2:Hid (∀W (l r:List Bool),l++[true,true]=r->l.length<=20000->Qk 19 #[.agg #[.string (Ba l),Qi (l.length:Nat)],.int .u64 3,Qi 2] W λe s=>e=.returned (.tuple #[.agg #[.string (Ba r),Qi (r.length:Nat)],Qi 0])/\Qb W s):=λW l r i h=>Sq W l 3 2 r i Q0 Q0 Q0
 have c3:Hid (∀W (l r:List Bool),l++[false]=r->l.length<=20000->Qk 19 #[.agg #[.string (Ba l),Qi (l.length:Nat)],.int .u64 0,Qi 1] W λe s=>e=.returned (.tuple #[.agg #[.string (Ba r),Qi (r.length:Nat)],Qi 0])/\Qb W s):=λW l r i h=>Sq W l 0 1 r i Q0 Q0 Q0
 have d4:IntKind.u64.wrap (m:Int)=(m:Int):=P4 _ Q0
 have Z:=Aa a0;have b8:=Aa K;have a8:=Aa a2;have Y:=Aa ((BL.nil w).box #[.string ⟨#[]⟩,Qi 0] 50 _ rfl);rw[a3] at a8;clear F a0 K a2 b2 Q a3
 go_enter Tryz.func28,Tryz.ntmps28
 go_wp2_with fail
 refine(a6.out _).mono ?_;rintro e L ⟨rfl,rfl⟩
 go_wp2_with fail
 refine(X.out _ Y.out).mono ?_;rintro e L ⟨rfl,q⟩;have C:=Aa (Y.out.step q);have u:Qc L w.heap.size 0 (.string ⟨#[]⟩):=C.out.cellv 0 rfl 0 _ rfl;have x:Qc L w.heap.size 1 (Qi 0):=C.out.cellv 0 rfl 1 _ rfl;have kx:Qc L g o (Qi m):=(C.out.bel.cell (p:=⟨g,o,none⟩) hg).trans b5;have z:w.heap.size<L.heap.size:=C.out.lt 0 rfl;clear q Y X a6
 go_wp2_with fail
 refine(b1.out _).mono ?_;rintro e M ⟨rfl,q⟩;have D:=Aa (C.out.step q);have u:Qc M w.heap.size 0 (.string ⟨#[]⟩):=D.out.cellv 0 rfl 0 _ rfl;have x:Qc M w.heap.size 1 (Qi 0):=D.out.cellv 0 rfl 1 _ rfl;have O:M.frozen? ⟨w.heap.size,0,none⟩=false:=D.out.frozen 0 rfl 0;have P:M.frozen? ⟨w.heap.size,1,none⟩=false:=D.out.frozen 0 rfl 1;have z:w.heap.size<M.heap.size:=D.out.lt 0 rfl;have a7:=Aa (D.out.set2 (Af _) Q6 (.string (Ba H)) (Qi (H.length:Nat)))
 clear q C b1
 go_wp2_with fail
 go_loopw [4,28] (λy iv wr=>∃(j a:Nat)(l:List Bool),j<=N/\a<=20/\y=Qi a/\iv=Qi j/\l++Jr a (c.drop j)=T/\BL w wr [] [(w.heap.size,#[.string (Ba l),Qi (l.length:Nat)],50)]) (λ_ iv _=>N+1-(intOf iv).toNat)
 case atStart=>exact⟨0,m,H,Q0,Q0,rfl,rfl,a8.out.symm,a7.out⟩
 case round =>
  obtain⟨j,a,l,hj,E,rfl,rfl,f,t⟩:=hrel;have b:=Aa t;have u:Qc wr w.heap.size 0 (.string (Ba l)):=b.out.cellv 0 rfl 0 _ rfl;have x:Qc wr w.heap.size 1 (Qi (l.length:Nat)):=b.out.cellv 0 rfl 1 _ rfl;have z:w.heap.size<wr.heap.size:=b.out.lt 0 rfl;clear t a7 O P
  by_cases b4:j<N
  ·obtain⟨n,V⟩:∃n,c[j]?=some n:=⟨_,Az (by rw[Z.out];exact b4)⟩
   obtain⟨c0,c1,U,c6,G⟩:=b0.out.at j (by rw[Bj,Z.out];exact b4)
   obtain⟨rfl,rfl⟩:g=c0/\o=c1:=by
    injection U with U
    injection U with h1 h2
    exact⟨h1,h2⟩
   rw[zvG c j n V] at G;have d5:Qc wr g (o+j) (Qi (n:Int)):=(b.out.bel.cell (p:=⟨g,o+j,none⟩) hg).trans G;have hb:=b8.out n (Cn V)
   have hd:c.drop j=n::c.drop (j+1):=by
    obtain⟨d0,e⟩:=Cc.1 V;rw[IJ d0,e]
   rw[hd,Jr] at f;obtain⟨R,a1⟩:=Qe (Jr n (c.drop (j+1)));rw[a1] at f;have b7:=Aa a1;have a9:=Aa f;clear G hd a1 f U c6 V
   go_wp2_with fail
   go_loopw [4] (λy wx=>∃(a:Nat)(l:List Bool),a<=20/\y=Qi a/\l++(H6 a n++R)=T/\BL w wx [] [(w.heap.size,#[.string (Ba l),Qi (l.length:Nat)],50)]) (λy _=>21-(intOf y).toNat)
   case atStart=>exact⟨a,l,Q0,rfl,a9.out,b.out⟩
   case round =>
    clear u x z a9 b E;obtain⟨a,l,E,rfl,f,t⟩:=hrel
    have b6:l.length<=20000:=by
     have:=Co List.length f;rw[AJ] at this;omega
    have b:=Aa t;have u:Qc wr w.heap.size 0 (.string (Ba l)):=b.out.cellv 0 rfl 0 _ rfl;have x:Qc wr w.heap.size 1 (Qi (l.length:Nat)):=b.out.cellv 0 rfl 1 _ rfl;have z:w.heap.size<wr.heap.size:=b.out.lt 0 rfl;clear t
    by_cases S:a<n
    ·obtain⟨r,i⟩:=Qe (l++[true,false])
     have A:=Aa (show r++(H6 (a+1) n++R)=T by rw[<-i,<-f,Xg S];simp)
     have J:=Aa i;clear f i
     go_wp2_with fail
     refine(c4.out _ l r J.out Q0).mono ?_
     rintro e k ⟨rfl,q⟩;have d:=Aa (b.out.step q);have u:Qc k w.heap.size 0 (.string (Ba l)):=d.out.cellv 0 rfl 0 _ rfl;have x:Qc k w.heap.size 1 (Qi (l.length:Nat)):=d.out.cellv 0 rfl 1 _ rfl;have z:w.heap.size<k.heap.size:=d.out.lt 0 rfl;have O:k.frozen? ⟨w.heap.size,0,none⟩=false:=d.out.frozen 0 rfl 0;have P:k.frozen? ⟨w.heap.size,1,none⟩=false:=d.out.frozen 0 rfl 1;have I:=Aa (d.out.set2 (Af _) Q6 (.string (Ba r)) (Qi (r.length:Nat)))
     clear q d b
     go_wp2_with fail
     go_roundw
     case rel=>exact⟨a+1,r,Q0,by go_num,A.out,I.out⟩
     case measure=>simp[intOf];omega
    ·have A:=Aa f
     have a4:n<=a:=Q0
     have hd:decide (a<n)=false:=by simp;omega
     clear f S
     go_wp2_with fail
     go_loopw [4] (λy wx=>∃(a:Nat)(l:List Bool),a<=20/\n<=a/\y=Qi a/\l++(H6 a n++R)=T/\BL w wx [] [(w.heap.size,#[.string (Ba l),Qi (l.length:Nat)],50)]) (λy _=>(intOf y).toNat)
     case atStart=>exact⟨a,l,Q0,a4,rfl,A.out,b.out⟩
     case round =>
      clear u x z A b E a4 b6;obtain⟨a,l,E,a4,rfl,f,t⟩:=hrel
      have b6:l.length<=20000:=by
       have:=Co List.length f;rw[AJ] at this;omega
      have b:=Aa t;have u:Qc wr w.heap.size 0 (.string (Ba l)):=b.out.cellv 0 rfl 0 _ rfl;have x:Qc wr w.heap.size 1 (Qi (l.length:Nat)):=b.out.cellv 0 rfl 1 _ rfl;have z:w.heap.size<wr.heap.size:=b.out.lt 0 rfl;clear t
      by_cases S:n<a
      ·obtain⟨r,i⟩:=Qe (l++[true,true])
       have A:=Aa (show r++(H6 (a-1) n++R)=T by rw[<-i,<-f,Wh S];simp)
       have J:=Aa i;clear f i
       go_wp2_with fail
       refine(c2.out _ l r J.out Q0).mono ?_
       rintro e k ⟨rfl,q⟩;have d:=Aa (b.out.step q);have u:Qc k w.heap.size 0 (.string (Ba l)):=d.out.cellv 0 rfl 0 _ rfl;have x:Qc k w.heap.size 1 (Qi (l.length:Nat)):=d.out.cellv 0 rfl 1 _ rfl;have z:w.heap.size<k.heap.size:=d.out.lt 0 rfl;have O:k.frozen? ⟨w.heap.size,0,none⟩=false:=d.out.frozen 0 rfl 0;have P:k.frozen? ⟨w.heap.size,1,none⟩=false:=d.out.frozen 0 rfl 1;have I:=Aa (d.out.set2 (Af _) Q6 (.string (Ba r)) (Qi (r.length:Nat)))
       clear q d b
       go_wp2_with fail
       go_roundw
       case rel=>exact⟨a-1,r,Q0,Q0,by go_num,A.out,I.out⟩
       case measure=>simp[intOf];omega
      ·obtain rfl:a=n:=Q0
       obtain⟨r,i⟩:=Qe (l++[false]);have A:=Aa (show r++R=T by rw[<-i,<-f,TZ];simp)
       have J:=Aa i;clear f i
       go_wp2_with fail
       refine(c3.out _ l r J.out Q0).mono ?_
       rintro e k ⟨rfl,q⟩;have d:=Aa (b.out.step q);have u:Qc k w.heap.size 0 (.string (Ba l)):=d.out.cellv 0 rfl 0 _ rfl;have x:Qc k w.heap.size 1 (Qi (l.length:Nat)):=d.out.cellv 0 rfl 1 _ rfl;have z:w.heap.size<k.heap.size:=d.out.lt 0 rfl;have O:k.frozen? ⟨w.heap.size,0,none⟩=false:=d.out.frozen 0 rfl 0;have P:k.frozen? ⟨w.heap.size,1,none⟩=false:=d.out.frozen 0 rfl 1;have I:=Aa (d.out.set2 (Af _) Q6 (.string (Ba r)) (Qi (r.length:Nat)))
       clear q d b
       go_wp2_with fail
       go_roundw
       case rel=>exact⟨j+1,a,r,Q0,Q0,rfl,by go_num,by rw[b7.out];exact A.out,I.out⟩
       case measure=>simp[intOf];omega
  ·obtain rfl:j=N:=Q0
   have c9:l=T:=by
    rw[Py (by rw[Z.out];exact Af _)] at f
    simpa [Jr] using f
   subst c9;have O:wr.frozen? ⟨w.heap.size,0,none⟩=false:=b.out.frozen 0 rfl 0;have P:wr.frozen? ⟨w.heap.size,1,none⟩=false:=b.out.frozen 0 rfl 1;clear f
   go_wp2_with fail
   refine BV (v:=.tuple #[.agg #[.string (Ba l),Qi (l.length:Nat)],Qi 0]) ?_ rfl ⟨rfl,(b.out.set2 (Af _) Q6 _ _).bel⟩
   simp[results,Tryz.results28,go_sem,u,x]
def RX(a:Int):List PanicEntry:=[{ v:=.iface 460 (.agg #[Qi a]),recovered:=false }]
theorem Xx(r:Value)(n:Int)(W:World)(h:JJ n=true):Qk 335 #[r,Qi n] W λe a=>e=.returned (Qi n)/\W=a:=by
 have C:=Aa (X3 n);rw[h] at C;clear h
 go_enter Tryz.func335,Tryz.ntmps335
 go_wp2_with fail
 refine(C.out _).mono ?_;rintro e b ⟨rfl,rfl⟩
 go_wp2_with fail
 go_ret
 exact⟨rfl,rfl⟩
theorem Xy(r:Value)(n:Int)(W:World)(h:JJ n=false):Qk 335 #[r,Qi n] W λe a=>e=.panicked (RX 3)/\W=a:=by
 have C:=Aa (X3 n);rw[h] at C;clear h
 go_enter Tryz.func335,Tryz.ntmps335
 go_wp2_with fail
 refine(C.out _).mono ?_;rintro e b ⟨rfl,rfl⟩
 go_wp2_with fail
 exact⟨rfl,rfl,rfl⟩
theorem zsS(w:World)(k:Nat)(s:ByteArray)(a n:Nat)(b:Qg w k #[.string s,Qi a] 463)(l:s.size<=1099511627776)(g:n<=5)(h:a+n<=8*s.size) :
 Qk 336 #[Qp k 0,Qi n] w λe c=>e=.returned (Qi (B.num (B.slice s.data.toList a n):Nat))/\∃W,Qb w W/\c=W.setCell ⟨k,1,none⟩ (Qi ((a+n:Nat):Int)):=by
 have f:s.data.toList.length=s.size:=by simp
 have G:Hid (∀W,Qk 231 #[.string s,Qi a,Qi n] W λe c=>e=.returned (.tuple #[.int .u64 (B.num (B.slice s.data.toList a n):Nat),Qi 0])/\W=c):=λW=>by
  have:=NA s a n W Q0
  rw[Sg _ a n Q0 Q0,Si _ a n Q0 Q0] at this
  exact this
 have j:B.num (B.slice s.data.toList a n)<32:=by
  have d:=B.num_lt (B.slice s.data.toList a n);rw[B.length_slice] at d;exact Iy d (Jj Q0 g)
 generalize B.num (B.slice s.data.toList a n)=v at*
 have m:Qc w k 0 (.string s):=Ae b 0;have o:Qc w k 1 (Qi a):=Ae b 1;have i:w.frozen? ⟨k,1,none⟩=false:=Ah b 1;have p:k<w.heap.size:=Aj b;have q:IntKind.i64.wrap (v:Int)=(v:Int):=AU _ Q0
 clear b f
 go_enter Tryz.func336,Tryz.ntmps336
 go_wp2_with fail
 go_quiet ((go_at_call 231;exact N0 (G.out _)))
 go_wp2_with fail
 go_ret
 exact⟨rfl,w.drewN nq,EW (Ag _ _) nq,by rw[Int.natCast_add]⟩
theorem TV(w:World)(k:Nat)(s:ByteArray)(a n:Nat)(b:Qg w k #[.string s,Qi a] 463)(g:s.size<=1099511627776)(m:a<=9223372036854775807)(f:n<=5)(h:8*s.size<a+n) :
 Qk 336 #[Qp k 0,Qi n] w λe d=>e=.panicked (RX 2)/\Qb w d:=by
 have c:s.data.toList.length=s.size:=by simp
 have G:Hid (∀W,Qk 231 #[.string s,Qi a,Qi n] W λe d=>e=.returned (.tuple #[.int .u64 0,Qi 2])/\W=d):=λW=>by
  have:=NA s a n W Q0
  rw[show Ew s.data.toList a n=2 by unfold Ew;rw[if_neg Q0,if_pos (by rw[c];omega)],show Ed s.data.toList a n=0 by unfold Ed;rw[if_neg Q0,if_pos (by rw[c];omega)]] at this
  exact this
 have i:Qc w k 0 (.string s):=Ae b 0;have j:Qc w k 1 (Qi a):=Ae b 1;have l:k<w.heap.size:=Aj b;clear b c
 go_enter Tryz.func336,Tryz.ntmps336
 go_wp2_with fail
 go_quiet ((go_at_call 231;exact N0 (G.out _)))
 go_wp2_with fail
 exact⟨rfl,rfl,EW (Ag _ _) nq⟩
