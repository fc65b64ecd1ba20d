import Derived.Test.YtoejfkeofbdalaaGreatDoorM10
import Derived.ScopeJumps
import Derived.WalkMore
set_option linter.all false
set_option maxRecDepth 100000
set_option maxHeartbeats 8000000
namespace Go.Proofs.YtoejfkeofbdalaaGreatDoor
open Go.RowKit Go.Shelf
attribute [local go_sem] Oper.semAt_some
variable {a b:Type} {l:List Int}
def IX{a:Type}(b:List a):List (Nat × a):=(b.zipIdx.map λq=>(q.2,q.1)).reverse
theorem YM(a:List b):(IX a).length=a.length:=by simp[IX]
theorem zwY(a:List b)(j:Nat)(d:j<a.length):∃y,a[a.length-1-j]?=some y/\(IX a).take (j+1)=(IX a).take j++[(a.length-1-j,y)]:=by
 have c:a.length-1-j<a.length:=Q0
 refine⟨a[a.length-1-j],Az c,?_⟩;have e:j<(IX a).length:=by rw[YM];exact d
 rw[Ep e];congr 2
 simp[IX,List.getElem_reverse]
theorem zsY(b:List a):(IX b).map Prod.snd=b.reverse:=by
 unfold IX;rw[List.map_reverse,Gq];congr 1
 have:(Prod.snd ∘ λq:a × Nat=>(q.2,q.1))=Prod.fst:=rfl;rw[this,XR]
theorem zzp{q:Type}(r:q->Int)(n:Nat)(hn:3<=n)(l f B:Nat)(p:Nat->Prop)(v:Value)(d:List q)(c:List Int)(D:d.map r=c)(b4:c.length<=281474976710656)
 (J G:List (Nat × q)->World->Prop) (a0:p f) (V:∀b,b<B->p b)
 (H:∀k x W,J k W->k.length<c.length->YieldAt Fence.wide (n-1) Tryz.prog l #[Qi (x.1:Nat),Qi (r x.2)] W λe h =>
   (e=.returned (.bool true)/\J (k++[x]) h/\Bp p W h)\/(e=.returned (.bool false)/\G (k++[x]) h))
 (W:World) (Q:Qc W f 0 v) (u:Ac W B v c) (S:J [] W) :
 CallsIn Fence.wide n Tryz.prog 363 #[.func (.yield l) #[] #[],.pointer (some ⟨f,0,none⟩)] W (zyS J G (IX d)):=by
 obtain⟨A,R,rfl,b0,b1⟩:=u.shape;have M:d.length=c.length:=by rw[<-D,Da]
 have z:=Aa M;have Y:=Aa D;have O:=Aa H;have P:=Aa u;clear H u M D;refine Mw Tryz.func363 rfl trivial ?_ rfl;simp only[Tryz.ntmps363,F6,Bt,D4,Nat.reduceAdd,Nat.reduceSub,GM,GL,GQ,GN,C6,Di];have a9:1<=n:=Q0
 gi_wp2
 gi_loopw [3] (λa wr=>∃j:Nat,j<=c.length/\a=Qi ((c.length:Int)-1-j)/\J ((IX d).take j) wr/\Bp p W wr) (λa _=>(intOf a+1).toNat)
 case atStart=>exact⟨0,Q0,Q6,S,Bp.refl _ _⟩
 case round =>
  obtain⟨j,hj,rfl,t,s⟩:=hrel;have r1:Qc wr f 0 (.slice A c.length R):=(s.cell f 0 a0).trans Q
  by_cases F:j=c.length
  ·have a6:=Aa F
   have b5:(c.length:Int)-1-j<0:=Q0
   clear F
   gi_wp2
   refine BV (Dw rfl _ _ _) rfl ?_;exact⟨⟨_,rfl⟩,.inl ⟨_,rfl,by rw[BR (by rw[YM,z.out,a6.out];exact Af _)] at t;exact t⟩⟩
  ·obtain⟨i,K⟩:=Qe (c.length-1-j:Nat)
   have C:(c.length:Int)-1-j=(i:Int):=Q0
   rw[C];have a5:i<c.length:=Q0
   obtain⟨y,E,m⟩:=zwY d j (by rw[z.out];omega)
   rw[z.out,K] at E m;obtain⟨g,o,rfl,U,I⟩:=P.out.at i a5;obtain⟨x,w⟩:=Qe (r y)
   have b2:Qc wr g (o+i) (Qi x):=by
    rw[<-w,(s.cell g (o+i) (V g U)).trans I,<-Y.out,EA,E];rfl
   obtain⟨fn,b6,b7,b3,L,T⟩:=O.out ((IX d).take j) (i,y) wr t (by rw[BO];omega)
   simp only[w] at L;have a8:=Aa L;have N:(IX d).take j++[(i,y)]<+: IX d:=by rw[<-m];exact List.take_prefix _ _
   have a3:=Aa N;have a7:=Aa m;have X:=Aa C;have a1:j+1<=c.length:=Q0
   clear N m w I K C F E
   gi_wp2
   refine T.mono ?_;rintro e h (⟨rfl,Z,a2⟩|⟨rfl,a4⟩)
   ·gi_wp2
    go_roundw
    case rel=>exact⟨j+1,a1,by have:=X.out;rw[show(c.length:Int)-1-(j+1:Nat)=(i:Int)-1 by omega],by rw[a7.out];exact Z,s.trans a2⟩
    case measure=>simp[intOf]<;>omega
   ·gi_wp2
    refine BV (Dw rfl _ _ _) rfl ?_;exact⟨⟨_,rfl⟩,.inr ⟨_,a3.out,a4⟩⟩
theorem zr2{e:Type}(f:e->Int)(n:Nat)(o:3<=n)(a B:Nat)(p:Nat->Prop)(v:Value)(d:List e)(c:List Int)(y:d.map f=c)(A:c.length<=281474976710656)(u:p a)(q:∀b,b<B->p b)
 (w:World) (m:a<w.heap.size) (t:B<=w.heap.size) (i:Qc w a 0 v) (r:Ac w B v c) :
 SeqStopsK Fence.wide n Tryz.prog 363 #[.pointer (some ⟨a,0,none⟩)] (λx:Nat × e=>#[Qi (x.1:Nat),Qi (f x.2)]) (Bp p)
  (λs=>s=IX d) (λz=>z <+: IX d) c.length w :=
 λl J h W g _ _ k j =>
  zzp f n o l a B p v d c y A J h u q k W ((g.cell (p:=⟨a,0,none⟩) m).trans i) (r.below g t) j
theorem zom:Enters Tryz.prog 363:=enters_of Tryz.func363 Q2 rfl
theorem zl4(v:Value)(w:World)(a:∃q l c,v=.slice q l c) :
 Qk 359 #[v] w λe b=>e=.returned (.func (.func 363) #[] #[.pointer (some ⟨w.heap.size,0,none⟩)])/\w.alloc (.cells #[v] 67)=b:=by
 have Cw:=Cw;obtain⟨q,l,c,rfl⟩:=a
 go_enter Tryz.func359,Tryz.ntmps359
 go_wp2
 go_ret
 exact⟨rfl,rfl⟩
def Ke(a:List (Nat × Bool)):Nat:=(a.map Prod.snd).foldl (λn x=>2*n+x.toNat+1) 0
theorem zms(a:List (Nat × Bool))(x:Nat × Bool):Ke (a++[x])=2*Ke a+x.2.toNat+1:=by simp[Ke]
theorem ztx{a b:List (Nat × Bool)}(h:a <+: b):Ke a<=Ke b:=by
 obtain⟨c,rfl⟩:=h
 induction c generalizing a with
 |nil=>simp
 | cons x c d =>
   have:=d (a:=a++[x]);rw[zms,BN] at this;simp only[Mh] at this;omega
def Pr(b:Bool):Int:=if b then 1 else 0
theorem zqo(ys:List Bool):Ke (IX ys)=FW (ys.map Pr):=by
 unfold Ke FW;rw[zsY,List.foldl_reverse,List.foldr_map];congr 1
 funext x n
 cases x<;>rfl
theorem zzY(h:Pp l):∃b:List Bool,b.map Pr=l:=by
 refine⟨l.map λx=>decide (x=1),?_⟩;rw[Gq]
 conv=>rhs;rw[<-Mx l]
 apply Gl
 intro x a;rcases h x a with rfl|rfl<;>rfl
def NI(d:List Int):Bool:=d.any λx=>!decide (x=0)&& !decide (x=1)
theorem zw0(h:NI l=false):Pp l:=by
 unfold NI at h;rw[GR] at h;intro x a;have:=h x a;simp at this;omega
theorem Zt(h:Pp l):NI l=false:=by
 unfold NI;rw[GR];intro x a;rcases h x a with rfl|rfl<;>simp
def QI(d:List Int):Int:=if NI d then 1 else if 1099511627776<FW d then 4 else 0
def QK(d:List Int):Int:=if NI d then 0 else if 1099511627776<FW d then 0 else(FW d:Nat)
theorem zn8(v:Value)(a:List Int)(w:World)(z:Ac w w.heap.size v a)(Z:a.length<=281474976710656) :
 Qk 347 #[v] w λe a4=>e=.returned (.tuple #[Qi (QK a),Qi (QI a)])/\Qb w a4:=by
 obtain⟨N,a6⟩:∃N:Nat,N=8:=⟨_,rfl⟩;obtain⟨A,r,rfl,H,V⟩:=z.shape;have C:=Aa (O1 ((w.alloc (.cells #[Qi 0] 3)).alloc (.cells #[Qi 0] 25)) _ a (λx=>!decide (x=0)&& !decide (x=1)) 358 #[] zok ((z.below (((Ag w.heap.size w).alloc (Af _) _).alloc Q6 _) (Af _)).mono Q4) Z (λx _ W _=>zxl x W))
 have a0:NI a=a.any λx=>!decide (x=0)&& !decide (x=1):=rfl;rw[<-a0] at C;obtain⟨O,q⟩:=Qe (NI a);rw[q] at C;have E:=Aa q;have a3:=Aa z;clear q a0 z;refine(Em (n:=N)).1 ?_;refine Lr Tryz.func347 rfl trivial ?_ rfl;simp only[Tryz.ntmps347,F6,Bt,D4,Nat.reduceAdd,Nat.reduceSub,GM,GL,GQ,GN,C6,Di]
 gi_wp2_with (first
  |(refine⟨trivial,?_⟩;gi_at_call 82;refine(Em.2 C.out).mono ?_;rintro e d ⟨rfl,y⟩
    have i:Qg d w.heap.size #[Qi 0] 3:=(y.block _ Q4).trans (Bb _ (Am w _ _ rfl))
    have j:Qg d (w.heap.size+1) #[Qi 0] 25:=(y.block _ Q6).trans (Am _ _ _ Q6)
    have c2:=Ae i 0;have c3:=Ae j 0;have f2:=Ah i 0;have f3:=Ah j 0;have S:Qb w d:=(((Ag w.heap.size w).alloc (Af _) _).alloc Q6 _).trans (y.mono Q4)
    have b8:w.heap.size+2<=d.heap.size:=by have:=y.size;simp at this;omega
    have I:=Aa i;have J:=Aa j;clear i j y)
  |(refine⟨trivial,?_⟩;gi_at_call 359;refine(Em.2 (zl4 _ _ ⟨_,_,_,rfl⟩)).mono ?_;rintro e w2 ⟨rfl,rfl⟩))
 ·have q:O=true:=Q3
  subst q;have i:=Boxed.other (M5 (Qi 0) (show Boxed d w.heap.size 3 (Qi 0) from I.out)) (B':=w.heap.size+1) Q0 (Qi 1)
  have j:=M5 (Qi 1) (Boxed.other (show Boxed d (w.heap.size+1) 25 (Qi 0) from J.out) (B':=w.heap.size) Q0 (Qi 0))
  refine⟨_,Rs rfl _ _ _ _ _ _ _ rfl rfl (L8 _ _ _ i.cell) (O8 _ _ _ j.cell),?_,?_⟩
  ·rw[QK,QI,E.out,if_pos rfl,if_pos rfl]
  ·exact(S.setCell (p:=⟨w.heap.size,0,none⟩) (Af _) _).setCell (p:=⟨w.heap.size+1,0,none⟩) Q6 _
 ·have q:O=false:=Q3
  subst q;obtain⟨B,F⟩:=zzY (zw0 E.out);have b6:B.length=a.length:=by rw[<-F,Da]
  obtain⟨l,o⟩:=Qe (d.alloc (.cells #[.slice A a.length r] 67));have L:Boxed l w.heap.size 3 (Qi 0):=by rw[<-o];exact Boxed.alloc (show Boxed d w.heap.size 3 (Qi 0) from I.out) _
  have K:Boxed l (w.heap.size+1) 25 (Qi 0):=by rw[<-o];exact Boxed.alloc (show Boxed d (w.heap.size+1) 25 (Qi 0) from J.out) _
  have M:Boxed l d.heap.size 67 (.slice A a.length r):=by rw[<-o];exact OJ _ _ _ _ rfl
  have b7:l.heap.size=d.heap.size+1:=by rw[<-o];simp
  have R:Qb w l:=by rw[<-o];exact S.alloc Q0 _
  have b0:Ac l w.heap.size (.slice A a.length r) a:=a3.out.below R (Af _);rw[o];clear o c2 c3 f2 f3 C
  refine wpIn_rangeFunc_ownF (w0:=l) rfl Q0 (gf:=363) (lb:=#[.pointer (some ⟨d.heap.size,0,none⟩)]) rfl trivial zom
   (zr2 Pr (N-1) Q0 d.heap.size w.heap.size (λb=>b<w.heap.size\/b=d.heap.size) _ B a F Z (.inr rfl) (λb m=>.inl m) l Q0 Q0 M.cell b0)
   (λh a1=>Bp.trans h a1) (zzJ (n₀:=d.heap.size+1) (λb m=>by omega) Q0) (Ag _ _) (λ_=>rfl)
   (λg W=>((Boxed W w.heap.size 3 (Qi (Ke g:Nat))/\Boxed W (w.heap.size+1) 25 (Qi 0))/\Qb w W)/\Ke g<=1099511627776)
   (λc g W=>((Boxed W w.heap.size 3 (Qi 0)/\Boxed W (w.heap.size+1) 25 (Qi 4))/\Qb w W)/\(c=Code.ret/\1099511627776<Ke g))
   (I1 (I1 (I1 (Ko (boxed_own _ _ (λg=>Qi (Ke g:Nat))) _) (Ko (boxed_own _ _ (λ_=>Qi 0)) _)) (Nj (Af _) Q0)) (λ_ _ _ _ h _ _=>h))
   (λc=>I1 (I1 (I1 (Ko (boxed_own _ _ (λ_=>Qi 0)) _) (Ko (boxed_own _ _ (λ_=>Qi 4)) _)) (Nj (Af _) Q0)) (λ_ _ _ _ h _ _=>h))
   ⟨⟨⟨L,K⟩,R⟩,Q5⟩
   (λx=>{ tmps:=#[.slice A a.length r,undef,.pointer (some ⟨w.heap.size,0,none⟩),.pointer (some ⟨w.heap.size+1,0,none⟩),undef,Qi (Pr x.2),.slice A a.length r,.bool false,.slice A a.length r,.func (.func 363) #[] #[.pointer (some ⟨d.heap.size,0,none⟩)],Qi (x.1:Nat),Qi (Pr x.2),undef,undef,undef,undef,undef,undef,undef,undef],defers:=[] }) ?assign ?body ?done ?stop
  case assign =>
   intro a2 x W b2 t
   gi_wp2
   exact t
  case body =>
   rintro a2 g x W ⟨⟨⟨f,k⟩,s⟩,X⟩ b5;have hd:1<=N-1-1:=Q0
   clear a6;have H:=f.cell;have a7:=f.frozen;have V:=k.cell;have a8:=k.frozen;have Y:=zms g x;obtain⟨b,m⟩:=Qe (Pr x.2);have U:b=(x.2.toNat:Nat):=by rw[<-m];cases x.2<;>rfl
   have b3:0<=b/\b<=1:=by rw[<-m];cases x.2<;>decide
   rw[m];have Q:=Aa Y;have P:=Aa U;clear Y m U L K M
   gi_wp2
   ·refine⟨((FO W _ _).trans (FO _ _ _)).trans (FO _ _ _),⟨⟨Boxed.other (M5 _ (M5 _ f)) Q0 _,M5 _ (Boxed.other (Boxed.other k Q0 _) Q0 _)⟩,((s.setCell (p:=⟨w.heap.size,0,none⟩) (Af _) _).setCell (p:=⟨w.heap.size,0,none⟩) (Af _) _).setCell (p:=⟨w.heap.size+1,0,none⟩) Q6 _⟩,rfl,?_⟩
    have:=Q.out;have:=P.out;omega
   ·have a9:(2*(Ke g:Int)+b+1)=(Ke (g++[x]):Nat):=by rw[Q.out,P.out];omega
    rw[a9];refine⟨FO W _ _,(Bp.refl _ W).setCell (λb m=>by simp;omega) _,⟨⟨M5 _ f,Boxed.other k Q0 _⟩,s.setCell (p:=⟨w.heap.size,0,none⟩) (Af _) _⟩,Q0⟩
  case done =>
   rintro D zs W a5 rfl ⟨⟨⟨f,k⟩,s⟩,X⟩ t;have H:=f.cell;have a7:=f.frozen;have V:=k.cell;have a8:=k.frozen;have u:=zqo B;rw[F] at u;rw[u] at H f X;have b9:=Aa u;clear u
   gi_wp2
   have T:Qh ((W.setCell ⟨w.heap.size,0,none⟩ (Qi (FW a:Nat))).setCell ⟨w.heap.size+1,0,none⟩ (Qi 0)) D (.deferred (some [])):=by
    rw[Bg _ _ _ _ Q4,Bg _ _ _ _ Q4];exact t
   refine⟨Q6,.inl ⟨_,_,rfl,J9 T,?_⟩⟩
   have i:Boxed (((W.setCell ⟨w.heap.size,0,none⟩ (Qi (FW a:Nat))).setCell ⟨w.heap.size+1,0,none⟩ (Qi 0)).putObj D (.deferred none)) w.heap.size 3 (Qi (FW a:Nat)):=((f.set _).other Q0 _).kept (Mu _ D _) Q4
   have j:Boxed (((W.setCell ⟨w.heap.size,0,none⟩ (Qi (FW a:Nat))).setCell ⟨w.heap.size+1,0,none⟩ (Qi 0)).putObj D (.deferred none)) (w.heap.size+1) 25 (Qi 0):=((k.other Q0 _).set _).kept (Mu _ D _) Q4
   refine⟨_,Rs rfl _ _ _ _ _ _ _ rfl rfl (L8 _ _ _ i.cell) (O8 _ _ _ j.cell),?_,?_⟩
   ·have G:¬ 1099511627776<FW a:=Q0
    simp[QK,QI,E.out,G]
   ·exact s.trans ((((Ag _ W).setCell (p:=⟨w.heap.size,0,none⟩) (Af _) _).setCell (p:=⟨w.heap.size+1,0,none⟩) Q6 _).trans (Kn (w:=w) (Af _) _ D _ _ Q0 T rfl rfl))
  case stop =>
   rintro D c g W a5 b1 ⟨⟨⟨f,k⟩,s⟩,rfl,b4⟩ t;have hm:=ztx b1;have u:=zqo B;rw[F] at u
   gi_wp2
   refine⟨Q6,.inl ⟨_,_,rfl,J9 t,?_⟩⟩
   have i:Boxed (W.putObj D (.deferred none)) w.heap.size 3 (Qi 0):=f.kept (Mu _ D _) Q4
   have j:Boxed (W.putObj D (.deferred none)) (w.heap.size+1) 25 (Qi 4):=k.kept (Mu _ D _) Q4
   refine⟨_,Rs rfl _ _ _ _ _ _ _ rfl rfl (L8 _ _ _ i.cell) (O8 _ _ _ j.cell),?_,?_⟩
   ·have G:1099511627776<FW a:=Q0
    simp[QK,QI,E.out,G]
   ·exact s.trans (Kn (w:=w) (Af _) W D _ _ Q0 t rfl rfl)
end Go.Proofs.YtoejfkeofbdalaaGreatDoor
namespace Go.Proofs.YtoejfkeofbdalaaGreatDoor
open Go.RowKit
def Pm(l:List Int):Bool:=l.any λx=>decide (1099511627776<x)
def Pg(l:List Int):Int:=if JZ l ||Pm l then 1 else 0
def Pi(l:List Int):List Int:=if JZ l ||Pm l then[] else enc l
def LQ:Value->Nat
 | .slice _ n _=>n
 |_=>0
theorem zrB(w:World)(v:Value)(a:List Int)(g:Ac w w.heap.size v a)(e7:a.length<=1099511627776) :
 Qk 116 #[v] w λe c5=>∃e5,e=.returned (.tuple #[e5,Qi (Pg a)])/\Ad c5 w.heap.size e5 (Pi a)/\Qb w c5:=by
 have Cw:=Cw;have F:=Aa (znt w v a g Q0)
 have a1:Hid (∀W,Qb w W->Qk 82 #[v,.func (.func 168) #[] #[]] W λe c5=>e=.returned (.bool (Pm a))/\Qb W c5):=λW j =>
  O1 W v a _ 168 #[] zob ((g.below j (Af _)).mono j.size) Q0 (λx _ W _=>zw9 x W)
 obtain⟨e8,ca,rfl,d8,f4⟩:=g.shape;obtain⟨b1,d6⟩:=Qe (JZ a);obtain⟨b2,d7⟩:=Qe (Pm a);rw[d6] at F;rw[d7] at a1;have P:=Aa d6;have b0:=Aa d7;obtain⟨N,I⟩:=Qe a.length;have g9:a.length<=1099511627776:=e7;rw[I] at g d8 e7 F a1 |-;have f:=Aa I;have c9:=Aa g;clear d6 d7 g I;cases b1 with
 | true =>
   go_enter Tryz.func116,Tryz.ntmps116
   go_wp2
   refine wp_scope_straight ?_
   go_wp2_with fail
   refine F.out.mono ?_;rintro e w1 ⟨rfl,n⟩
   go_wp2_with fail
   simp only[Exit.noGoto_ret]
   go_ret2
   exact⟨_,by rw[Pg,P.out];rfl,by rw[Pi,P.out];exact Ad.nil _ _,n⟩
 | false =>
   cases b2 with
   | true =>
     go_enter Tryz.func116,Tryz.ntmps116
     go_wp2
     refine wp_scope_straight ?_
     go_wp2_with fail
     refine F.out.mono ?_;rintro e w1 ⟨rfl,n⟩
     go_wp2_with fail
     refine(a1.out _ n).mono ?_;rintro e w2 ⟨rfl,c6⟩
     go_wp2_with fail
     simp only[Exit.noGoto_ret]
     go_ret2
     exact⟨_,by rw[Pg,P.out,b0.out];rfl,by rw[Pi,P.out,b0.out];exact Ad.nil _ _,n.trans (c6.mono n.size)⟩
   | false =>
     have HE:Hid (Pg a=0):=by show _=_;rw[Pg,P.out,b0.out];rfl
     have e6:Hid (Pi a=enc a):=by show _=_;rw[Pi,P.out,b0.out];rfl
     have E:∀x∈a,x<=1099511627776/\0<=x:=by
      intro x l;have H:=P.out;have o:=b0.out;unfold JZ at H;unfold Pm at o;rw[GR] at H o;have H:=H x l;have o:=o x l;simp at H o;omega
     go_enter Tryz.func116,Tryz.ntmps116
     go_wp2
     refine wp_scope_jumps 0 (λc4 W=>∃(b:Nat)(v:Value)(rest c:List Int)(u6 u7 u8 u9 u10 u11 u12 u13 u14 u15 u16 u17 u18 u19 u20 u21 u22 u23 u24 u25 u26 u27 u28 u29 u30 u31 u32 u33 u34 u35 u36:Value),c4 = { tmps:=#[v,undef,.slice none 0 0,Qi 0,.pointer (some ⟨b,0,none⟩),.func (.func 169) #[.pointer (some ⟨b,0,none⟩)] #[],u6,u7,u8,u9,u10,u11,u12,u13,u14,u15,u16,u17,u18,u19,u20,u21,u22,u23,u24,u25,u26,u27,u28,u29,u30,u31,u32,u33,u34,u35,u36],defers:=[] }/\w.heap.size<=b/\Ac w w.heap.size v rest/\LB W b c/\c++enc rest=enc a/\Qb w W/\(∀x∈rest,x<=1099511627776/\0<=x)/\rest.length<=1099511627776)
      (λc4 _=>LQ (c4.tmps.getD 0 undef)) rfl ?_ ?_
     ·go_wp2_with fail
      refine F.out.mono ?_;rintro e w1 ⟨rfl,n⟩
      go_wp2_with fail
      refine(a1.out _ n).mono ?_;rintro e w2 ⟨rfl,c6⟩;have d4:Qb w w2:=n.trans (c6.mono n.size);have g4:=d4.size;clear n c6 F a1;obtain⟨b,hb⟩:=Qe w2.heap.size;obtain⟨wr,c7⟩:=Qe (w2.alloc (.cells #[.slice none 0 0] 282));have C:LB wr b []:=⟨_,by rw[<-c7];exact Am _ _ _ hb.symm,Ad.nil _ _⟩
      have j:Qb w wr:=by rw[<-c7];exact d4.alloc g4 _
      have S:w.heap.size<=b:=Q0
      have g:=c9.out;have D:[]++enc a=enc a:=rfl;obtain⟨rest,c8⟩:=Qe a;obtain⟨c,e4⟩:=Qe ([]:List Int);have g8:Hid (rest.length=N):=by rw[<-c8];exact f.out
      have D:c++enc rest=enc a:=by rw[<-e4,<-c8];rfl
      rw[e4] at C;rw[c8] at g E;have e9:=Aa c7;have f0:=Aa hb;clear c7 hb c8 e4 d4 c9 f
      rename Hid (rest.length=N)=>f
      go_wp2
      rw[f0.out,e9.out]
      go_step3
      obtain⟨k,L⟩:=Qe (EH 0 rest);have T:=Ud 0 rest;have a0:=ztM rest;rw[L] at T a0;rw[f.out] at T
      have f7:c.length<=1099511627776:=by
       have H:=XA a;have o:=Co List.length D;simp only[AJ] at o;omega
      have G:=Aa (X2 wr _ rest 0 ((g.below j (Af _)).mono j.size) (by have:=f.out;omega))
      rw[L] at G;obtain⟨v2,X,⟨q2,c2,rfl⟩,_,V,_⟩:=g.cut k N T (Af _);have V:=V rfl;rw[show((rest.take N).drop k)=rest.drop k by rw[<-f.out,Gp]] at X
      have b3:=Aa X;have B:=Aa a0;have a6:=Aa C;have s:=Aa D;have f3:=C.lt;have d5:=j.size;clear L a0 X C D
      go_wp2_with fail
      refine G.out.mono ?_;rintro e M ⟨rfl,t⟩;have a8:Hid (LB M b c):=a6.out.below t;have Y:Qb w M:=j.trans (t.mono d5);have g1:=t.size;clear j t a6 G
      go_wp2_with fail
      refine(Wl (k:Int) M Q0 Q0).mono ?_
      rintro e O ⟨vd,rfl,K,u⟩;rw[EM] at K;have f6:=VD k Q0
      have a9:Hid (LB O b c):=a8.out.below u;have c0:Qb w O:=Y.trans (u.mono Y.size);have g2:=u.size;have a7:=Aa K;clear Y u a8 K
      go_wp2_with fail
      refine(Ny O b c (DA k) vd a9.out a7.out.is Q0).mono ?_
      rintro e q ⟨rfl,R,Q⟩;have r:=Aa R;have A:Qb w q:=c0.trans (Q.mono S);have g3:=R.lt;have g5:=Q.size;clear c0 Q a9 R a7
      by_cases f8:k<N
      ·have f9:(0:Int)<((N-k:Nat):Int):=Q0
       have f1:0<N-k:=Q0
       obtain⟨a3,a4,rfl,hg,J⟩:=b3.out.at 0 (by rw[D9];have:=f.out;omega)
       obtain⟨x,l⟩:=Qe ((rest.drop k)[0]?.getD 0);rw[l] at J
       obtain⟨d,h⟩:∃d,rest.drop k=x::d:=by
        have m:k<rest.length:=by have:=f.out;omega
        refine⟨rest.drop (k+1),?_⟩;rw[IJ m];rw[Kh,Ic,Az m] at l;simp only[Es] at l;rw[l]
       have g0:x<=1099511627776/\0<=x:=E x (J7 (i:=k) (by rw[h];exact Jh))
       have g6:Qc q a3 a4 (Qi x):=(A.cell (p:=⟨a3,a4,none⟩) hg).trans (by simpa using J)
       obtain⟨v3,z,⟨q3,c3,rfl⟩,_,Z,_⟩:=b3.out.cut 1 (N-k) Q0 (Af _)
       have Z:=Z rfl;simp only[Int.natCast_one] at Z
       have c1:Ac w w.heap.size (.slice q3 (N-k-1) c3) d:=by
        rw[h] at z
        have e:((x::d).take (N-k)).drop 1=d:=by
         have m:(x::d).length=N-k:=by rw[<-h,D9,f.out]
         rw[<-m,Gp];rfl
        rw[e] at z;exact z
       have d3:=Aa c1
       have b6:d.length=N-k-1:=by
        have m:(x::d).length=N-k:=by rw[<-h,D9,f.out]
        simp at m;omega
       have d1:=Aa b6;have e3:Hid (∀y∈d,y<=1099511627776/\0<=y):=λy hy=>E y (J7 (i:=k) (by rw[h];exact J6 _ hy))
       have e0:Hid ((c++DA k)++[x+1]++enc d=enc a):=by
        show _=_
        rw[<-s.out,B.out,h];simp[OP]
       have g7:(c++DA k).length<=2199023255552:=by simp only[AJ];omega
       clear B l J h z c1 b6 s E
       go_wp2_with fail
       refine(Ny _ b (c++DA k) [x+1] _ (r.out.below ((Ag _ _).alloc (Af _) _)) ((Ac.new q [x+1] _ _ _ rfl rfl rfl (by simp[maxLen])).mono Q6) (by simp only[Bt,D4];omega)).mono ?_
       rintro e w6 ⟨rfl,b5,b4⟩;have d0:=Aa b5;have d9:Qb w w6:=(A.alloc Q0 _).trans (b4.mono S)
       clear b5 b4 A r
       go_wp2
       go_step3
       refine⟨rfl,b,_,d,_,_,_,_,_,_,_,_,_,_,_,_,_,_,_,_,_,_,_,_,_,_,_,_,_,_,_,_,_,_,_,_,rfl,S,d3.out,d0.out,e0.out,d9,e3.out,by have:=d1.out;omega⟩
      ·have e2:N-k=0:=Q0
       have b7:rest.drop k=[]:=Gm (by have:=f.out;omega)
       rw[e2] at V
       have e1:Hid (c++DA k=enc a):=by
        show _=_
        rw[<-s.out,B.out,b7];simp[OP]
       obtain⟨vl,b8,U⟩:=r.out;obtain⟨a5,a2,rfl⟩:=U.shape;have f5:Qc q b 0 (.slice a5 (c++DA k).length a2):=Ae b8 0;have d2:=Aa U;clear s B b7 b8 U r
       go_wp2
       simp only[Exit.jump]
       go_ret2
       have b9:=Ad.mono d2.out (b2:=w.heap.size) Q0
       rw[AJ] at b9;exact⟨.slice a5 (c.length+(DA k).length) a2,by rw[HE.out];rfl,by rw[e6.out,<-e1.out];exact b9,A⟩
     ·rintro c4 wr ⟨b,v,rest,c,u6,u7,u8,u9,u10,u11,u12,u13,u14,u15,u16,u17,u18,u19,u20,u21,u22,u23,u24,u25,u26,u27,u28,u29,u30,u31,u32,u33,u34,u35,u36,rfl,S,g,C,D,j,E,f2⟩
      obtain⟨e8,ca,rfl,d8,f4⟩:=g.shape;obtain⟨N,I⟩:=Qe rest.length;rw[I] at g d8 f2 |-;have f:=Aa I;clear I F a1 c9;obtain⟨k,L⟩:=Qe (EH 0 rest);have T:=Ud 0 rest;have a0:=ztM rest;rw[L] at T a0;rw[f.out] at T
      have f7:c.length<=1099511627776:=by
       have H:=XA a;have o:=Co List.length D;simp only[AJ] at o;omega
      have G:=Aa (X2 wr _ rest 0 ((g.below j (Af _)).mono j.size) (by have:=f.out;omega))
      rw[L] at G;obtain⟨v2,X,⟨q2,c2,rfl⟩,_,V,_⟩:=g.cut k N T (Af _);have V:=V rfl;rw[show((rest.take N).drop k)=rest.drop k by rw[<-f.out,Gp]] at X
      have b3:=Aa X;have B:=Aa a0;have a6:=Aa C;have s:=Aa D;have f3:=C.lt;have d5:=j.size;clear L a0 X C D
      go_wp2_with fail
      refine G.out.mono ?_;rintro e M ⟨rfl,t⟩;have a8:Hid (LB M b c):=a6.out.below t;have Y:Qb w M:=j.trans (t.mono d5);have g1:=t.size;clear j t a6 G
      go_wp2_with fail
      refine(Wl (k:Int) M Q0 Q0).mono ?_
      rintro e O ⟨vd,rfl,K,u⟩;rw[EM] at K;have f6:=VD k Q0
      have a9:Hid (LB O b c):=a8.out.below u;have c0:Qb w O:=Y.trans (u.mono Y.size);have g2:=u.size;have a7:=Aa K;clear Y u a8 K
      go_wp2_with fail
      refine(Ny O b c (DA k) vd a9.out a7.out.is Q0).mono ?_
      rintro e q ⟨rfl,R,Q⟩;have r:=Aa R;have A:Qb w q:=c0.trans (Q.mono S);have g3:=R.lt;have g5:=Q.size;clear c0 Q a9 R a7
      by_cases f8:k<N
      ·have f9:(0:Int)<((N-k:Nat):Int):=Q0
       have f1:0<N-k:=Q0
       obtain⟨a3,a4,rfl,hg,J⟩:=b3.out.at 0 (by rw[D9];have:=f.out;omega)
       obtain⟨x,l⟩:=Qe ((rest.drop k)[0]?.getD 0);rw[l] at J
       obtain⟨d,h⟩:∃d,rest.drop k=x::d:=by
        have m:k<rest.length:=by have:=f.out;omega
        refine⟨rest.drop (k+1),?_⟩;rw[IJ m];rw[Kh,Ic,Az m] at l;simp only[Es] at l;rw[l]
       have g0:x<=1099511627776/\0<=x:=E x (J7 (i:=k) (by rw[h];exact Jh))
       have g6:Qc q a3 a4 (Qi x):=(A.cell (p:=⟨a3,a4,none⟩) hg).trans (by simpa using J)
       obtain⟨v3,z,⟨q3,c3,rfl⟩,_,Z,_⟩:=b3.out.cut 1 (N-k) Q0 (Af _)
       have Z:=Z rfl;simp only[Int.natCast_one] at Z
       have c1:Ac w w.heap.size (.slice q3 (N-k-1) c3) d:=by
        rw[h] at z
        have e:((x::d).take (N-k)).drop 1=d:=by
         have m:(x::d).length=N-k:=by rw[<-h,D9,f.out]
         rw[<-m,Gp];rfl
        rw[e] at z;exact z
       have d3:=Aa c1
       have b6:d.length=N-k-1:=by
        have m:(x::d).length=N-k:=by rw[<-h,D9,f.out]
        simp at m;omega
       have d1:=Aa b6;have e3:Hid (∀y∈d,y<=1099511627776/\0<=y):=λy hy=>E y (J7 (i:=k) (by rw[h];exact J6 _ hy))
       have e0:Hid ((c++DA k)++[x+1]++enc d=enc a):=by
        show _=_
        rw[<-s.out,B.out,h];simp[OP]
       have g7:(c++DA k).length<=2199023255552:=by simp only[AJ];omega
       clear B l J h z c1 b6 s E
       go_wp2_with fail
       refine(Ny _ b (c++DA k) [x+1] _ (r.out.below ((Ag _ _).alloc (Af _) _)) ((Ac.new q [x+1] _ _ _ rfl rfl rfl (by simp[maxLen])).mono Q6) (by simp only[Bt,D4];omega)).mono ?_
       rintro e w6 ⟨rfl,b5,b4⟩;have d0:=Aa b5;have d9:Qb w w6:=(A.alloc Q0 _).trans (b4.mono S)
       clear b5 b4 A r
       go_wp2
       go_step3
       refine⟨rfl,⟨b,_,d,_,_,_,_,_,_,_,_,_,_,_,_,_,_,_,_,_,_,_,_,_,_,_,_,_,_,_,_,_,_,_,_,rfl,S,d3.out,d0.out,e0.out,d9,e3.out,by have:=d1.out;omega⟩,by simp[LQ];omega⟩
      ·have e2:N-k=0:=Q0
       have b7:rest.drop k=[]:=Gm (by have:=f.out;omega)
       rw[e2] at V
       have e1:Hid (c++DA k=enc a):=by
        show _=_
        rw[<-s.out,B.out,b7];simp[OP]
       obtain⟨vl,b8,U⟩:=r.out;obtain⟨a5,a2,rfl⟩:=U.shape;have f5:Qc q b 0 (.slice a5 (c++DA k).length a2):=Ae b8 0;have d2:=Aa U;clear s B b7 b8 U r
       go_wp2
       simp only[Exit.jump]
       go_ret2
       have b9:=Ad.mono d2.out (b2:=w.heap.size) Q0
       rw[AJ] at b9;exact⟨.slice a5 (c.length+(DA k).length) a2,by rw[HE.out];rfl,by rw[e6.out,<-e1.out];exact b9,A⟩
def K4(m:List Int)(a:Int):Int:=if JZ m then 1 else if a<(dec m).length then 4 else 0
def K5(m:List Int)(a:Int):List Int:=if JZ m then[] else if a<(dec m).length then[] else dec m
theorem X1:dec []=[]:=rfl
theorem zzq{rest:List Int}(h:∀x∈rest,0<=x):Pp (rest.take (EH 1 rest)):=by
 intro x b;obtain⟨i,a⟩:=SC b;rw[Lp] at a;split at a
 ·rename_i c
  have e:=Z6 c a;have d:=h x (Cn a);omega
 ·cases a
theorem zrF(w:World)(v:Value)(a:List Int)(c:Int)(q:Ac w w.heap.size v a)(f5:a.length<=1099511627776)(hi:JL a)(i0:-9223372036854775808<=c)(hm:c<=1099511627776) :
 Qk 339 #[v,Qi c] w λe f2=>∃e9,e=.returned (.tuple #[e9,Qi (K4 a c)])/\Ad f2 w.heap.size e9 (K5 a c)/\Qb w f2:=by
 have Cw:=Cw;have a2:=Aa (znt w v a q Q0)
 obtain⟨f6,ca,rfl,d7,g5⟩:=q.shape;obtain⟨b1,d6⟩:=Qe (JZ a);rw[d6] at a2;have a5:=Aa d6;obtain⟨N,G⟩:=Qe a.length;have h6:a.length<=1099511627776:=f5;rw[G] at q d7 f5 a2 |-;have f7:=Aa G;have f1:=Aa q;clear d6 q G;cases b1 with
 | true =>
   go_enter Tryz.func339,Tryz.ntmps339
   go_wp2_with fail
   refine a2.out.mono ?_;rintro e w1 ⟨rfl,a6⟩
   go_wp2_with fail
   go_ret2
   exact⟨_,by rw[K4,a5.out];rfl,by rw[K5,a5.out];exact Ad.nil _ _,a6⟩
 | false =>
   have f4:∀x∈a,x<=9223372036854775807/\0<=x:=by
    intro x g;have h1:=a5.out;unfold JZ at h1;rw[GR] at h1;have h1:=h1 x g;have z:=hi x g;simp at h1;omega
   have HE:Hid (K4 a c=if c<(dec a).length then 4 else 0):=by show _=_;rw[K4,a5.out];rfl
   have a3:Hid (K5 a c=if c<(dec a).length then[] else dec a):=by show _=_;rw[K5,a5.out];rfl
   go_enter Tryz.func339,Tryz.ntmps339
   go_wp2_with fail
   refine a2.out.mono ?_;rintro e w1 ⟨rfl,a6⟩;have h3:=a6.size;obtain⟨b,hb⟩:=Qe w1.heap.size;obtain⟨w2,c7⟩:=Qe (w1.alloc (.cells #[.slice none 0 0] 282));have V:LB w2 b []:=⟨_,by rw[<-c7];exact Am _ _ _ hb.symm,Ad.nil _ _⟩
   have f9:Qb w w2:=by rw[<-c7];exact a6.alloc h3 _
   have c4:w.heap.size<=b:=Q0
   have f8:=Aa c7;have g0:=Aa hb;have f0:=Aa V;clear c7 hb V a2 a6
   go_wp2
   rw[g0.out,f8.out]
   go_loopw [0] (λmv wr=>∃(v:Value)(rest d:List Int),mv=v/\Ac w w.heap.size v rest/\LB wr b d/\Hid (d++dec rest=dec a)/\Qb w wr/\Hid (∀x∈rest,x<=9223372036854775807/\0<=x)/\rest.length<=1099511627776/\d.length<=1099511627777) (λmv _=>LQ mv)
   case atStart=>exact⟨_,a,[],rfl,f1.out,f0.out,rfl,f9,f4,by have:=f7.out;omega,Q6⟩
   case round =>
    obtain⟨v,rest,d,rfl,q,V,l,M,u,g8,h8⟩:=hrel;obtain⟨f6,ca,rfl,d7,g5⟩:=q.shape;obtain⟨N,G⟩:=Qe rest.length;rw[G] at q d7 g8 |-;have o:=Aa G;have b8:=Aa V;have h7:=V.lt;have g3:=M.size;clear G f0 f1 f4 V
    by_cases i4:0<N
    ·obtain⟨k,hk⟩:=Qe (EH 1 rest)
     have F:=Ud 1 rest;have d1:=zzF rest;have c5:=zzq (rest:=rest) λx g=>(u.out x g).2;rw[hk] at F d1 c5;rw[o.out] at F;have d2:=Aa (X2 wr _ rest 1 ((q.below M (Af _)).mono M.size) (by have:=o.out;omega))
     rw[hk] at d2;obtain⟨v1,c6,⟨q1,c1,rfl⟩,_,_,e5⟩:=q.cut 0 k Q0 F
     obtain⟨v2,e1,⟨q2,c2,rfl⟩,_,d0,_⟩:=q.cut k N F (Af _);have e5:=e5 rfl;have d0:=d0 rfl;rw[Nat.sub_zero] at c6 e5;rw[show((rest.take N).drop k)=rest.drop k by rw[<-o.out,Gp]] at e1
     rw[Ni] at c6;have d9:QI (rest.take k)=if 1099511627776<FW (rest.take k) then 4 else 0:=by rw[QI,Zt c5];rfl
     have e0:QK (rest.take k)=if 1099511627776<FW (rest.take k) then(0:Int) else(FW (rest.take k):Nat):=by rw[QK,Zt c5];rfl
     obtain⟨n,hn⟩:=Qe (FW (rest.take k));rw[hn] at d9 e0 d1;have W:=Aa d9;have X:=Aa e0;have h:=Aa d1;have g2:=Aa c6;have E:=Aa e1;have h9:(rest.take k).length<=1099511627776:=by rw[BO];omega
     clear hk c5 hn d9 e0 d1 c6 e1;have i5:(0:Int)<(N:Int):=Q0
     go_wp2_with fail
     refine d2.out.mono ?_;rintro e w3 ⟨rfl,b9⟩;have f3:Hid (LB w3 b d):=b8.out.below b9;have b3:Qb w w3:=M.trans (b9.mono g3);have i1:=b9.size;clear M b9 b8 d2
     go_wp2_with fail
     refine(zn8 _ (rest.take k) w3 ((g2.out.below b3 (Af _)).mono b3.size) Q0).mono ?_
     rintro e j ⟨rfl,c0⟩;have a4:Hid (LB j b d):=f3.out.below c0;have S:Qb w j:=b3.trans (c0.mono b3.size);have i2:=c0.size;clear b3 c0 f3;rw[W.out,X.out];obtain⟨vl,b2,Z⟩:=a4.out;obtain⟨b7,b6,rfl⟩:=Z.shape;have d8:Qc j b 0 (.slice b7 d.length b6):=Ae b2 0;clear b2 Z
     by_cases c8:1099511627776<n
     ·rw[if_pos c8,if_pos c8]
      have s:c<((dec a).length:Int):=by
       have z:=Co List.length l.out;rw[h.out] at z;simp only[AJ,OA] at z;omega
      have A:Hid (K4 a c=4):=by show _=_;rw[HE.out,if_pos s]
      have B:Hid (K5 a c=[]):=by show _=_;rw[a3.out,if_pos s]
      clear W X h s
      go_wp2
      go_ret2
      exact⟨.slice none 0 0,by rw[A.out];rfl,by rw[B.out];exact Ad.nil _ _,S⟩
     ·rw[if_neg c8,if_neg c8]
      by_cases i3:c<0
      ·by_cases Y:-(d.length:Int)<(n:Int)
       ·have s:c<((dec a).length:Int):=by
         have z:=Co List.length l.out;rw[h.out] at z;simp only[AJ,OA] at z;omega
        have A:Hid (K4 a c=4):=by show _=_;rw[HE.out,if_pos s]
        have B:Hid (K5 a c=[]):=by show _=_;rw[a3.out,if_pos s]
        clear W X h s
        go_wp2
        go_ret2
        exact⟨.slice none 0 0,by rw[A.out];rfl,by rw[B.out];exact Ad.nil _ _,S⟩
       ·clear W X
        obtain⟨cs,P,b0⟩:=O7 n Q0
        have d4:=Aa P;have Q:(List.replicate n (0:Int)).length=n:=Jg;have b5:Hid (Ac (j.alloc (.cells cs 3)) (j.heap.size+1) (Qs j.heap.size 0 n n) (Fa n)):=Ac.new j (List.replicate n 0) cs _ _ rfl Q.symm P (by rw[Q];simp only[maxLen];omega)
        have e4:=b0 j;clear P Q b0
        go_wp2_with fail
        refine(Ny _ b d (Fa n) _ (a4.out.below ((Ag _ _).alloc (Af _) _)) (b5.out.mono Q6) (by rw[OA];omega)).mono ?_
        rintro e J ⟨rfl,O,L⟩;have K:=Aa O;have D:Qb w J:=(S.alloc Q0 _).trans (L.mono c4)
        have h4:=O.lt;have e6:=L.size;simp at e6;have g6:(d++Fa n).length<=1099511627776:=by rw[AJ,OA];omega
        clear S L a4 O b5 e4 d4 d8
        by_cases g7:k<N
        ·have g9:(0:Int)<((N-k:Nat):Int):=Q0
         have g4:0<N-k:=Q0
         obtain⟨a0,a1,rfl,hg,H⟩:=E.out.at 0 (by rw[D9];have:=o.out;omega)
         obtain⟨x,g⟩:=Qe ((rest.drop k)[0]?.getD 0);rw[g] at H
         obtain⟨f,m⟩:∃f,rest.drop k=x::f:=by
          have hl:k<rest.length:=by have:=o.out;omega
          refine⟨rest.drop (k+1),?_⟩;rw[IJ hl];rw[Kh,Ic,Az hl] at g;simp only[Es] at g;rw[g]
         have h0:x<=9223372036854775807/\0<=x:=u.out x (J7 (i:=k) (by rw[m];exact Jh))
         have h5:Qc J a0 a1 (Qi x):=(D.cell (p:=⟨a0,a1,none⟩) hg).trans (by simpa using H)
         obtain⟨v3,C,⟨q3,c3,rfl⟩,_,U,_⟩:=E.out.cut 1 (N-k) Q0 (Af _)
         have U:=U rfl;simp only[Int.natCast_one] at U;have R:(x::f).length=N-k:=by rw[<-m,D9,o.out]
         have b4:Ac w w.heap.size (.slice q3 (N-k-1) c3) f:=by
          rw[m] at C;have e:((x::f).take (N-k)).drop 1=f:=by rw[<-R,Gp];rfl
          rw[e] at C;exact C
         have r:=Aa b4;have a9:f.length=N-k-1:=by simp at R;omega
         have d5:=Aa a9;have e7:Hid (∀y∈f,y<=9223372036854775807/\0<=y):=λy I=>u.out y (J7 (i:=k) (by rw[m];exact J6 _ I))
         have T:Hid ((d++Fa n)++[x-1]++dec f=dec a):=by
          show _=_
          rw[<-l.out,h.out,m];simp[Nz]
         have h2:-9223372036854775808<=x-1:=Q0
         clear h g H m C b4 a9 R l u F
         go_wp2_with fail
         refine(Ny _ b (d++Fa n) [x-1] _ (K.out.below ((Ag _ _).alloc (Af _) _)) ((Ac.new J [x-1] _ _ _ rfl rfl rfl (by simp[maxLen])).mono Q6) (by simp only[Bt,D4];omega)).mono ?_
         rintro e w6 ⟨rfl,a8,a7⟩;have d3:=Aa a8;have e2:Qb w w6:=(D.alloc Q0 _).trans (a7.mono c4)
         clear a8 a7 D K
         go_wp2
         go_roundw
         case rel=>exact⟨_,f,_,rfl,r.out,d3.out,T,e2,e7,by have:=d5.out;omega,by rw[AJ];simp only[Bt,D4];omega⟩
         case measure=>simp[LQ];omega
        ·have t:rest.drop k=[]:=Gm (by have:=o.out;omega)
         have T:Hid ((d++Fa n)++dec []=dec a):=by
          show _=_
          rw[<-l.out,h.out,t];simp[Nz,X1]
         have r:=E;have e3:N-k=0:=Q0
         rw[e3] at r d0;rw[t] at r;clear h t l u F E
         go_wp2
         go_roundw
         case rel=>exact⟨_,[],_,rfl,r.out,K.out,T,D,λy I=>(by simp at I),Q6,Q0⟩
         case measure=>simp[LQ];omega
      ·by_cases Y:c-(d.length:Int)<(n:Int)
       ·have s:c<((dec a).length:Int):=by
         have z:=Co List.length l.out;rw[h.out] at z;simp only[AJ,OA] at z;omega
        have A:Hid (K4 a c=4):=by show _=_;rw[HE.out,if_pos s]
        have B:Hid (K5 a c=[]):=by show _=_;rw[a3.out,if_pos s]
        clear W X h s
        go_wp2
        go_ret2
        exact⟨.slice none 0 0,by rw[A.out];rfl,by rw[B.out];exact Ad.nil _ _,S⟩
       ·clear W X
        obtain⟨cs,P,b0⟩:=O7 n Q0
        have d4:=Aa P;have Q:(List.replicate n (0:Int)).length=n:=Jg;have b5:Hid (Ac (j.alloc (.cells cs 3)) (j.heap.size+1) (Qs j.heap.size 0 n n) (Fa n)):=Ac.new j (List.replicate n 0) cs _ _ rfl Q.symm P (by rw[Q];simp only[maxLen];omega)
        have e4:=b0 j;clear P Q b0
        go_wp2_with fail
        refine(Ny _ b d (Fa n) _ (a4.out.below ((Ag _ _).alloc (Af _) _)) (b5.out.mono Q6) (by rw[OA];omega)).mono ?_
        rintro e J ⟨rfl,O,L⟩;have K:=Aa O;have D:Qb w J:=(S.alloc Q0 _).trans (L.mono c4)
        have h4:=O.lt;have e6:=L.size;simp at e6;have g6:(d++Fa n).length<=1099511627776:=by rw[AJ,OA];omega
        clear S L a4 O b5 e4 d4 d8
        by_cases g7:k<N
        ·have g9:(0:Int)<((N-k:Nat):Int):=Q0
         have g4:0<N-k:=Q0
         obtain⟨a0,a1,rfl,hg,H⟩:=E.out.at 0 (by rw[D9];have:=o.out;omega)
         obtain⟨x,g⟩:=Qe ((rest.drop k)[0]?.getD 0);rw[g] at H
         obtain⟨f,m⟩:∃f,rest.drop k=x::f:=by
          have hl:k<rest.length:=by have:=o.out;omega
          refine⟨rest.drop (k+1),?_⟩;rw[IJ hl];rw[Kh,Ic,Az hl] at g;simp only[Es] at g;rw[g]
         have h0:x<=9223372036854775807/\0<=x:=u.out x (J7 (i:=k) (by rw[m];exact Jh))
         have h5:Qc J a0 a1 (Qi x):=(D.cell (p:=⟨a0,a1,none⟩) hg).trans (by simpa using H)
         obtain⟨v3,C,⟨q3,c3,rfl⟩,_,U,_⟩:=E.out.cut 1 (N-k) Q0 (Af _)
         have U:=U rfl;simp only[Int.natCast_one] at U;have R:(x::f).length=N-k:=by rw[<-m,D9,o.out]
         have b4:Ac w w.heap.size (.slice q3 (N-k-1) c3) f:=by
          rw[m] at C;have e:((x::f).take (N-k)).drop 1=f:=by rw[<-R,Gp];rfl
          rw[e] at C;exact C
         have r:=Aa b4;have a9:f.length=N-k-1:=by simp at R;omega
         have d5:=Aa a9;have e7:Hid (∀y∈f,y<=9223372036854775807/\0<=y):=λy I=>u.out y (J7 (i:=k) (by rw[m];exact J6 _ I))
         have T:Hid ((d++Fa n)++[x-1]++dec f=dec a):=by
          show _=_
          rw[<-l.out,h.out,m];simp[Nz]
         have h2:-9223372036854775808<=x-1:=Q0
         clear h g H m C b4 a9 R l u F
         go_wp2_with fail
         refine(Ny _ b (d++Fa n) [x-1] _ (K.out.below ((Ag _ _).alloc (Af _) _)) ((Ac.new J [x-1] _ _ _ rfl rfl rfl (by simp[maxLen])).mono Q6) (by simp only[Bt,D4];omega)).mono ?_
         rintro e w6 ⟨rfl,a8,a7⟩;have d3:=Aa a8;have e2:Qb w w6:=(D.alloc Q0 _).trans (a7.mono c4)
         clear a8 a7 D K
         go_wp2
         go_roundw
         case rel=>exact⟨_,f,_,rfl,r.out,d3.out,T,e2,e7,by have:=d5.out;omega,by rw[AJ];simp only[Bt,D4];omega⟩
         case measure=>simp[LQ];omega
        ·have t:rest.drop k=[]:=Gm (by have:=o.out;omega)
         have T:Hid ((d++Fa n)++dec []=dec a):=by
          show _=_
          rw[<-l.out,h.out,t];simp[Nz,X1]
         have r:=E;have e3:N-k=0:=Q0
         rw[e3] at r d0;rw[t] at r;clear h t l u F E
         go_wp2
         go_roundw
         case rel=>exact⟨_,[],_,rfl,r.out,K.out,T,D,λy I=>(by simp at I),Q6,Q0⟩
         case measure=>simp[LQ];omega
    ·have t:rest=[]:=Ey (by have:=o.out;omega)
     have c9:Hid (d=dec a):=by
      show _=_
      have e8:=l.out;rw[t,X1,Eu] at e8;exact e8
     obtain⟨vl,b2,Z⟩:=b8.out;obtain⟨b7,b6,rfl⟩:=Z.shape;have d8:Qc wr b 0 (.slice b7 d.length b6):=Ae b2 0;have g1:=Aa Z;clear b2 Z t l u b8
     by_cases Y:c<(d.length:Int)
     ·have A:Hid (K4 a c=4):=by show _=_;rw[HE.out,<-c9.out,if_pos Y]
      have B:Hid (K5 a c=[]):=by show _=_;rw[a3.out,<-c9.out,if_pos Y]
      go_wp2
      go_ret2
      exact⟨.slice none 0 0,by rw[A.out];rfl,by rw[B.out];exact Ad.nil _ _,M⟩
     ·have A:Hid (K4 a c=0):=by show _=_;rw[HE.out,<-c9.out,if_neg Y]
      have B:Hid (K5 a c=d):=by show _=_;rw[a3.out,<-c9.out,if_neg Y]
      go_wp2
      go_ret2
      exact⟨.slice b7 d.length b6,by rw[A.out];rfl,by rw[B.out];exact g1.out.mono Q0,M⟩
