import Derived.Test.YtoejfkeofbdalaaGreatDoorM10
import Derived.Test.YtoejfkeofbdalaaGreatDoorM12
import Derived.OrdersIn
set_option linter.all false
set_option maxRecDepth 100000
set_option maxHeartbeats 8000000
namespace Go.Proofs.YtoejfkeofbdalaaGreatDoor
open Go.RowKit Go.Shelf
variable {a b k m n:Nat} {l:List Int} {s:List Value} {u x:Value} {v w:World}
abbrev SV:=Value × List Int
def Db(w:World)(B:Nat)(v:Value)(L:List SV):Prop:=Rd w B 1 v L.length (L.map (·.1))/\∀p∈L,Ac w B p.1 p.2
theorem Db.below{B:Nat}{L:List SV}(h:Db w B x L)(a:Below m w v)(b:B<=m):Db v B x L:=⟨h.1.below a b,λp c=>(h.2 p c).below a b⟩
theorem Db.mono{B B':Nat}{L:List SV}(h:Db w B x L)(a:B<=B'):Db w B' x L:=⟨h.1.mono a,λp b=>(h.2 p b).mono a⟩
theorem Db.up{L:List SV}(h:Db w w.heap.size x L)(a:Qb w v):Db v v.heap.size x L:=(h.below a (Af _)).mono a.size
theorem Db.nil(w:World)(B:Nat):Db w B (.slice none 0 0) []:=⟨Rd.nil w B 1,λp a=>by simp at a⟩
theorem Db.shape{B:Nat}{L:List SV}(h:Db w B x L):∃q c,x=.slice q L.length c/\L.length<=c/\c<=maxLen:=by
 obtain⟨_,A,c,e,a,b,_⟩:=h.1;exact⟨A,c,e,a,b⟩
theorem Db.at{B:Nat}{A:Option Addr}{L:List SV}(h:Db w B (.slice A n k) L)(i:Nat)(p:SV)(b:L[i]?=some p):∃g o,A=some ⟨g,o,none⟩/\g<B/\Qc w g (o+i) p.1/\Ac w B p.1 p.2:=by
 have f:=(Cc.1 b).1;obtain⟨_,g,o,x,c,e,a,d⟩:=Rd.one h.1 i f;rw[EA,b] at a;injection a with a
 exact⟨g,o,c,e,by rw[d,<-a],h.2 p (Cn b)⟩
structure AC(w:World)(base:Nat)(v:Value)(L:List SV):Prop where
 own:w.ownsRow base 67 1 v L.length (L.map (·.1))
 has:∀p∈L,Ad w base p.1 p.2
theorem AC.nil(w:World)(b:Nat):AC w b (.slice none 0 0) []:=⟨GU _ _ _ _,λp a=>by simp at a⟩
theorem AC.is{base:Nat}{L:List SV}(h:AC w base x L):Db w w.heap.size x L:=⟨Rd.own h.own,λp a=>(h.has p a).is⟩
theorem AC.shape{L:List SV}(h:AC w a x L):∃q c,x=.slice q L.length c:=WL h.own
theorem AC.below{L:List SV}(h:AC w b x L)(a:Qb w v):AC v b x L:=⟨Cd h.own a,λp c=>(h.has p c).below a⟩
theorem AC.mono{b2:Nat}{L:List SV}(h:AC w b x L)(a:b2<=b):AC w b2 x L:=⟨EY h.own a,λp c=>(h.has p c).mono a⟩
theorem Nt{e:Nat}{d:Option Nat}(h:w.ownsRow e m k x n s)(j:w.grownBy v d)(l:∀r,d=some r->∃o:Obj,Qh w r o/\o.isCells=false):v.ownsRow e m k x n s:=by
 refine Oa h j ?_;cases hv:x.ownBlock with
 |none=>exact .inl rfl
 | some g =>
   refine .inr λf=>?_;obtain⟨o,i,b⟩:=l g f.symm;obtain⟨c,a⟩:=Gr h hv;rw[i] at a;injection a with a
   rw[a] at b;cases b
theorem AC.quiet{d:Nat}{L:List SV}{c:Option Nat}(h:AC w d x L)(a:w.grownBy v c)(b:∀r,c=some r->∃o:Obj,Qh w r o/\o.isCells=false):AC v d x L:=⟨Nt h.own a b,λp e=>Nt (h.has p e) a b⟩
theorem znq{b:Option Nat}(h:Ac w w.heap.size x l)(a:w.grownBy v b)(q:∀r,b=some r->∃o:Obj,Qh w r o/\o.isCells=false):Ac v v.heap.size x l:=by
 obtain⟨d,A,u,s,e,f,j⟩:=h;refine⟨d,A,u,s,e,f,λp=>?_⟩;obtain⟨g,o,k,z,m⟩:=j p;exact⟨g,o,k,Iy z a.size,λi c t=>cell_kept (m i c t) a q⟩
theorem Z4{c j:Nat}(h:w.ownsRow c m k x n s)(p:j<c):(w.setCell ⟨j,a,none⟩ u).ownsRow c m k x n s:=by
 refine⟨h.1,?_⟩;rcases h.2 with i|⟨b,l,o,d,e,f,g⟩
 ·exact .inl i
 ·exact .inr ⟨b,l,o,d,e,(Bg w ⟨j,a,none⟩ u b (by show b≠j;omega)).trans f,g⟩
theorem AC.far{g i:Nat}{L:List SV}(h:AC w a x L)(b:g<a):AC (w.setCell ⟨g,i,none⟩ u) a x L:=⟨Z4 h.own b,λp c=>Z4 (h.has p c) b⟩
theorem X0:(Tryz.prog.info? 67).map (λi=>(i.zero,i.size,i.bytes))=some (some (.slice none 0 0),1,24):=Q2
theorem zyE:(67:TypeId)≠3:=Q5
theorem zya(h:Ad w a x l):x.oneCell'=true:=by
 obtain⟨q,c,rfl⟩:=h.shape;rfl
theorem zk0(w:World)(a:Nat)(z:TypeId)(v:Value)(L:List SV)(l:AC w a v L)(k:Nat)(p:SV)(G:Qg w k #[p.1] 67)(r:Ad w a p.1 p.2)
 (V:L.length<=1000000) (O:a<=w.heap.size) :
 ∃q c b,(Builtin.append_ #[113,113] z #[v,.slice (some ⟨k,0,none⟩) 1 1]).run Tryz.prog w=.ok (.slice q (L.length+1) c) b/\AC b a (.slice q (L.length+1) c) (L++[p])/\w.grownBy b v.ownBlock:=by
 obtain⟨I,F,K,M,N⟩:=Ie X0
 have H:Rd w (k+1) 1 (Qs k 0 1 1) 1 [p.1]:=⟨rfl,_,1,rfl,Af _,by simp[maxLen],λ_=>⟨k,0,rfl,Kj _,λi u h=>by
  rw[DC,Ae G,<-h];simp⟩⟩
 obtain⟨A,b,B,D,o,U⟩:=Ru (P:=Tryz.prog) w a 113 z 67 I (.slice none 0 0) 1 24 Tryz.underlying113 F K M N rfl Q5 v L.length (L.map (·.1)) l.own (k+1) 1 _ [p.1] H (λu h=>by simp at h;subst h;exact zya r) (by unfold maxLen;omega) Q0 O
 have E:b.ownsRow a 67 1 A (L++[p]).length ((L++[p]).map (·.1)):=by
  rw[AJ,D3];exact D
 have C:∀(x:Value)(m:List Int),Ad w a x m->Ad b a x m:=λx m s=>by
  refine Oa s o ?_;cases hx0:x.ownBlock with
  |none=>exact .inl rfl
  | some g =>
    refine .inr λe=>?_;obtain⟨R,J⟩:=Gr s hx0;obtain⟨T,f⟩:=Gr l.own e.symm;rw[J] at f;injection f with f
    injection f with _ f
    exact zyE f.symm
 have j:AC b a A (L++[p]):=⟨E,λt d=>by
  rcases FZ.1 d with d|d
  ·exact C _ _ (l.has t d)
  ·simp at d
   subst d;exact C _ _ r⟩
 obtain⟨q,c,rfl⟩:=j.shape;rw[AJ] at B j;exact⟨q,c,b,B,j,o⟩
theorem VG{d:Oper}{o:Act}{K:Act->World->Prop}{Q:Exit->Act->World->Prop}(s x:Operand)
 (i:d.op=.call { callee:=.builtin .append,args:=#[s,x],argTypes:=#[113,113] })
 (b:Nat) (v:Value) (L:List SV) (l:o.eval s=v) (t:AC w b v L) (k:Nat) (p:SV) (m:o.eval x=Qs k 0 1 1) (g:Qg w k #[p.1] 67) (j:Ad w b p.1 p.2)
 (r:L.length<=1000000) (z:b<=w.heap.size)
 (h:∀q c a,AC a b (.slice q (L.length+1) c) (L++[p])->w.grownBy a v.ownBlock->K (o.put d.dst (.slice q (L.length+1) c)) a):Oper.wp Tryz.prog d o w K Q:=by
 obtain⟨q,c,a,u,e,f⟩:=zk0 w b d.type v L t k p g j r z;unfold Oper.wp execOp;simp only[i,resolve,invoke,builtin,Ml,Mk,KH,MZ,Dz,Jl,l,m,u];exact h q c a e f
theorem zsC(a:Addr)(w:World)(v:Value)(b:w.cell? a=some v):(loadVar 113 a).run Tryz.prog w=.ok v w:=by
 simp[loadVar,isAgg,b]
end Go.Proofs.YtoejfkeofbdalaaGreatDoor
namespace Go.Proofs.YtoejfkeofbdalaaGreatDoor
open Go.RowKit
variable {Q:Exit->Act->World->Prop} {a:Type} {d k m n s:Nat} {e:List UInt8} {o:Act} {ops:Array Oper} {p q:Nat->Bool} {w:World} {x:Value}
def zul(g n f q M:Nat)(c:Nat->Nat->Bool)(R:Nat->Nat->Prop)(E:List Value)(N:Nat):Prop :=
 ∀(w:World)(X U V Y:List Nat)(a m b:Nat),Aq w g (X++(U++(V++Y))) E->X.length=a->a+U.length=m->m+V.length=b->b-a<=N->0<U.length->0<V.length->(X++(U++(V++Y))).length=n ->
  U.Pairwise R->V.Pairwise R->(∀x∈U,∀y∈V,IB R c x y)->(∀x∈U,x<M)->(∀x∈V,x<M)->Eh w g q M c ->
  Qk 253 #[Qs g 0 n f,Qi a,Qi m,Qi b,Io q] w λe d=>e=.returned (.tuple #[])/\(∃L,Aq d g (X++(L++Y)) E/\L.Perm (U++V)/\L.Pairwise R)/\Ab g w d
theorem zy9(g n N q M:Nat)(G:Nat->Nat->Bool)(R:Nat->Nat->Prop)(ht:∀x y f3,R x y->R y f3->R x f3)(E:List Value)(m8:n<=1000000)(f0:Nat)(ih:∀f5,f5 < f0->zul g n N q M G R E f5)
 (w:World) (X U V Y:List Nat) (a m b:Nat) (hr:Aq w g (X++(U++(V++Y))) E) (ha:X.length=a) (hm:a+U.length=m) (hb:m+V.length=b) (f6:b-a<=f0) (m2:2<=U.length) (m3:2<=V.length) (hn:(X++(U++(V++Y))).length=n)
 (c4:U.Pairwise R) (c5:V.Pairwise R) (c2:∀x∈U,∀y∈V,IB R G x y) (c9:∀x∈U,x<M) (d2:∀x∈V,x<M) (hc:Eh w g q M G) :
 Qk 253 #[Qs g 0 n N,Qi a,Qi m,Qi b,Io q] w λe v=>e=.returned (.tuple #[])/\(∃L,Aq v g (X++(L++Y)) E/\L.Perm (U++V)/\L.Pairwise R)/\Ab g w v:=by
 have o4:b<=n:=by rw[<-hn];simp;omega
 obtain⟨k,e9⟩:∃k,k=(a+b)/ 2:=⟨_,rfl⟩;obtain⟨B,O⟩:∃B,B=if k<m then k+m-b else a:=⟨_,rfl⟩
 obtain⟨A,a0⟩:∃A,A=if k<m then k else m:=⟨_,rfl⟩
 have k1:a<=B:=by rw[O];split<;>omega
 have k2:A<=m:=by rw[a0];split<;>omega
 have k3:A<=k:=by rw[a0];split<;>omega
 have k4:k+m<=b+B:=by rw[O];split<;>omega
 have k5:B<=A:=by rw[O,a0];split<;>omega
 have k6:a<k/\k<b:=Q0
 have d5:∀i (h:i<(U++V).length),(X++(U++(V++Y)))[a+i]?.getD 0=(U++V)[i]:=by
  intro i h;rw[<-BN U,F7 Q0,show a+i-X.length=i by omega,FP h,Az h]
  rfl
 have j4:∀c,a<=c->c<b->(X++(U++(V++Y)))[c]?=some ((X++(U++(V++Y)))[c]?.getD 0)/\(X++(U++(V++Y)))[c]?.getD 0<M:=by
  intro c D F;have hl:c-a<(U++V).length:=by simp;omega
  have J:=d5 (c-a) hl;rw[show a+(c-a)=c by omega] at J
  refine⟨?_,?_⟩
  ·rw[Az Q0]
   rfl
  ·rw[J]
   rcases FZ.1 (Et hl) with h|h
   ·exact c9 _ h
   ·exact d2 _ h
 have a4:Hid (∀s,Bu (λc=>!G ((X++(U++(V++Y)))[k+m-1-c]?.getD 0) ((X++(U++(V++Y)))[c]?.getD 0)) B A s s->a<=s/\s<=m/\m<=k+m-s/\k+m-s<=b /\
  (∀x∈U.take (s-a),∀y∈V.drop (k-s),R x y)/\(∀y∈V.take (k-s),∀x∈U.drop (s-a),R y x)/\s<=k):=λs hs =>
  zs6 R ht G e9 hm hb c4 c5 (λx u y K=>c2 x u y K) (λc=>(X++(U++(V++Y)))[c]?.getD 0) d5 B A O a0 hs Q0 Q0
 have b5:=Aa j4;have C:=Aa hr;have c1:=Aa hn;have h2:=Aa ha;have c0:=Aa hc;have g9:=Aa hm;have h1:=Aa hb;have c8:=Aa ih;have g4:=Aa f6;have g6:=Aa c4;have g7:=Aa c5;have f9:=Aa c2;have g2:=Aa c9;have g3:=Aa d2;have o7:a+2<=m:=Q0
 have o8:m+2<=b:=Q0
 obtain⟨a3,c3⟩:=Qe (X++(U++(V++Y)));have f4:=Aa c3;rw[c3] at a4 b5 C c1;obtain⟨nn,e0⟩:=Qe (k+m);rw[e0] at a4 O k4;obtain⟨p,hp⟩:=Qe (nn-1);rw[hp] at a4;have w0:IntKind.i64.wrap ((m:Int)-(a:Int))=(m:Int)-(a:Int):=AU _ Q0
 have d0:((m:Int)-(a:Int)==1)=false:=by simp;omega
 have w1:IntKind.i64.wrap ((b:Int)-(m:Int))=(b:Int)-(m:Int):=AU _ Q0
 have d1:((b:Int)-(m:Int)==1)=false:=by simp;omega
 have w2:((a:Int)+(b:Int))/ 2=(k:Int):=Q0
 have w3:IntKind.i64.wrap ((k:Int)+(m:Int))=(nn:Int):=by rw[AU _ Q0];omega
 have w4:IntKind.i64.wrap ((nn:Int)-(b:Int))=(nn:Int)-(b:Int):=AU _ Q0
 have w5:IntKind.i64.wrap ((nn:Int)-1)=(p:Int):=by rw[AU _ Q0];omega
 have e1:k<m->(nn:Int)-(b:Int)=(B:Int)/\k=A:=λh=>by rw[if_pos h] at O a0;omega
 have e2:¬ k<m->a=B/\m=A:=λh=>by rw[if_neg h] at O a0;omega
 have g0:=Aa e1;have g1:=Aa e2;have n7:=Aa e9;have e8:=Aa e0;have k9:=Aa hp;have kp:p+1=nn:=Q0
 clear hr ha hb hn c4 c2 c9 d2 hc d5 j4 c3 ht hm m2 m3 f6 c5 O a0 e1 e2 e9 e0 hp ih;unfold Io
 go_enter Tryz.func253,Tryz.ntmps253
 go_upto_if 140 with(fail)
 go_cut [20,21] from 141 (λsv rv wx=>sv=Qi (B:Int)/\rv=Qi (A:Int)/\wx=w)
 case first =>
  as_aux_lemma =>
   by_cases d9:k<m
   ·obtain⟨f1,f2⟩:=g0.out d9
    go_wp2_with fail
    go_meet
    case rel=>exact⟨by first|rfl|rw[f1],by first|rfl|rw[f2],rfl⟩
   ·obtain⟨f1,f2⟩:=g1.out d9
    go_wp2_with fail
    go_meet
    case rel=>exact⟨by first|rfl|rw[f1],by first|rfl|rw[f2],rfl⟩
 case rest =>
  obtain⟨rfl,rfl,hw⟩:=hcut;rw[hw];clear g0 g1 hw
  go_wp2_with fail
  go_loopw [20,21] (λiv jv wr=>∃i j:Nat,iv=Qi i/\jv=Qi j/\Hid (Bu (λc=>!G (a3[p-c]?.getD 0) (a3[c]?.getD 0)) B A i j)/\Hid (Aq wr g a3 E)/\Hid (Ab g w wr)) (λiv jv _=>(intOf jv-intOf iv).toNat)
  case atStart=>exact⟨B,A,rfl,rfl,Bu.start _ k5,C.out,Ab.refl _ _⟩
  case round =>
   clear C;obtain⟨i,j,rfl,rfl,H,C,T⟩:=hrel;obtain⟨o5,m7,o6⟩:B<=i/\i<=j/\j<=A:=⟨H.out.1,H.out.2.1,H.out.2.2.1⟩
   by_cases d9:i<j
   ·as_aux_lemma =>
     obtain⟨c,hh⟩:=Qe ((i+j)/ 2);have i6:i<=c:=Q0
     have i5:c<j:=Q0
     have hz:((i:Int)+(j:Int))/ 2=(c:Int):=Q0
     have hq:=e8.out;clear hh;obtain⟨d7,i9⟩:=b5.out (p-c) Q0 Q0
     obtain⟨d8,j0⟩:=b5.out c Q0 Q0
     obtain⟨x,u⟩:=Qe (a3[p-c]?.getD 0);obtain⟨y,K⟩:=Qe (a3[c]?.getD 0);have e3:=H.out.up i6 i5;have d6:=H.out.down i6 i5;simp only[u,K] at d7 i9 d8 j0 e3 d6;have cx:=C.out.cell _ _ d7;have cu:=C.out.cell _ _ d8;have b9:=C.out.lt;have b0:Hid (∀W,Qb wr W->Qk 146 #[Qi x,Qi y,Qp q 0] W λe v=>∃c:Int,e=.returned (Qi c)/\decide (c<0)=G x y/\Qb W v):=λW l5=>c0.out W (T.out.trans (Ab.of l5)) x y i9 j0;have l1:c<n:=Q0
     have l2:p-c<n:=Q0
     have w6:IntKind.i64.wrap ((p:Int)-(c:Int))=((p-c:Nat):Int):=by rw[AU _ Q0];omega
     have b8:=Aa e3;have b6:=Aa d6;clear e3 d6 d7 d8 u K H;obtain⟨k0,hr⟩:=Qe (G x y);rw[hr] at b0 b8 b6;clear hr hq;generalize p-c=pc at*
     have b7:Hid (∀{a1:World},Qb wr a1->Qc a1 g pc (Qi (x:Int))/\Qc a1 g c (Qi (y:Int))):=λh0=>⟨(h0.cell (p:=⟨g,pc,none⟩) b9).trans cx,(h0.cell (p:=⟨g,c,none⟩) b9).trans cu⟩;have a8:Qb wr wr:=Ag _ _
     go_wp2_with fail
     go_region_held3 (λa1=>Qc a1 g pc (Qi (x:Int))/\Qc a1 g c (Qi (y:Int)))
      ((first|exact b7.out a8.drew|exact b7.out a6.out|fail))
      ((first
        |(go_at_call 146
          refine(b0.out _ a8.drew).mono ?_;rintro e w8 ⟨cc,rfl,i3,i1⟩;have a6:=Aa (A9 i1 a8.drew);have c6:=Aa i3;clear i1 i3)
        |fail))
     have g5:=Aa (T.out.trans (Ab.of a6.out));have g8:=Aa (C.out.below a6.out);rw[c6.out];cases k0 with
     | false =>
       have c7:=Aa (b8.out rfl);clear C T b7 b0 a6 b6 b8 cx cu a8 c6 b9
       go_wp2_with fail
       go_roundw
       case rel=>exact⟨c+1,j,by go_num,rfl,c7,g8,g5⟩
       case measure=>simp[intOf];omega
     | true =>
       have c7:=Aa (b6.out rfl);clear C T b7 b0 a6 b6 b8 cx cu a8 c6 b9
       go_wp2_with fail
       go_roundw
       case rel=>exact⟨i,c,rfl,rfl,c7,g8,g5⟩
       case measure=>simp[intOf];omega
   ·obtain rfl:i=j:=Q0
    obtain⟨s1,s2,s3,s4,s5,s6,s7⟩:=a4.out i H.out;have hq:=e8.out;obtain⟨d,hd⟩:=Qe (i-a);obtain⟨f,hf⟩:=Qe (k-i);rw[hd,hf] at s5 s6;have n2:=g9.out;have n3:=h1.out;have d3:U.take d++U.drop d=U:=Er _ _;have d4:V.take f++V.drop f=V:=Er _ _;have n4:(U.take d).length=d:=by simp;omega
    have n5:(U.drop d).length=m-i:=by simp;omega
    have n6:(V.take f).length=f:=by simp;omega
    have n9:nn-i=m+f:=Q0
    have j3:(V.drop f).length=b-(m+f):=by simp;omega
    have b3:=g6.out;have b4:=g7.out;have b1:=g2.out;have b2:=g3.out;have a5:=f9.out;have a2:=f4.out;rw[<-d3] at b3 b1 a5 a2;rw[<-d4] at b4 b2 a5 a2;have i0:∀L:List Nat,L.Perm ((U.take d++U.drop d)++(V.take f++V.drop f))->L.Perm (U++V):=λL h=>by rw[d3,d4] at h;exact h
    have f8:=Aa i0;generalize U.take d=z at*
    generalize U.drop d=o at*
    generalize V.take f=r at*
    generalize V.drop f=t at*
    have w7:IntKind.i64.wrap ((nn:Int)-(i:Int))=((m+f:Nat):Int):=by rw[AU _ Q0];omega
    obtain⟨e,he⟩:=Qe (m+f);rw[he] at w7 j3;have m6:i+f=k:=Q0
    have m4:a+d=i:=Q0
    have i8:m<=e:=Q0
    have i4:e<=b:=Q0
    have i7:i<=m:=s2;have m5:k+(m-i)=e:=Q0
    have f7:=h2.out;have i2:=c1.out;have o2:=k6;have m9:=g4.out;have j6:∀x∈z,x<M:=λx u=>b1 x (Ol _ u);have j7:∀x∈o,x<M:=λx u=>b1 x (QX _ u);have j8:∀x∈r,x<M:=λx u=>b2 x (Ol _ u);have j9:∀x∈t,x<M:=λx u=>b2 x (QX _ u);obtain⟨e4,e5,o0⟩:=Lm.1 b3;obtain⟨e6,e7,o1⟩:=Lm.1 b4;have h3:∀x∈z,∀y∈r,IB R G x y:=λx u y K=>a5 x (Ol _ u) y (Ol _ K);have h9:∀x∈o,∀y∈t,IB R G x y:=λx u y K=>a5 x (QX _ u) y (QX _ K)
    have j5:∀l I:List Nat,l.Perm (z++r)->I.Perm (o++t)->l.Pairwise R->I.Pairwise R->(l++I).Perm (U++V)/\(l++I).Pairwise R:=λl I D F J h4=>by
     have:=zxE R D F J h4 b3 b4 s5 s6;exact⟨f8.out _ this.1,this.2⟩
    have n8:=Aa j5
    have l6:X.length+z.length+o.length+r.length+t.length+Y.length=n:=by
     rw[<-i2,<-a2];simp;omega
    have m1:Hid (i<m->m<e->Qk 279 #[Qs g 0 n N,Qi i,Qi m,Qi e,.func (.func 146) #[] #[.pointer (some ⟨q,0,none⟩)]] wr λZ v=>Z=.returned (.tuple #[])/\Aq v g (X++(z++(r++(o++(t++Y))))) E/\Ab g wr v):=λD F=>by
     have a9:=C.out;rw[<-a2] at a9;have:=zr5 wr g n N (Io q) (X++z) o r (t++Y) E i m e (by simpa using a9) Q4 Q0 Q0 Q0 Q0 Q4 m8
     refine this.mono ?_;rintro Z v ⟨J,h4,h5⟩;exact⟨J,by simpa using h4,h5⟩
    have m0:Hid ((decide (i<m)&& decide (m<e))=false->Aq wr g (X++(z++(r++(o++(t++Y))))) E):=λh=>by
     have a9:=C.out;rw[<-a2] at a9
     have a7:o=[]\/r=[]:=by
      simp only[SG,QU] at h;rcases h with h|h
      ·exact .inl (Ey Q0)
      ·exact .inr (Ey Q0)
     rcases a7 with rfl|rfl<;>simpa using a9
    have k7:Hid (∀W,Aq W g (X++(z++(r++(o++(t++Y))))) E->Ab g w W->a<i->i<k->Qk 253 #[Qs g 0 n N,Qi a,Qi i,Qi k,.func (.func 146) #[] #[.pointer (some ⟨q,0,none⟩)]] W λZ v=>Z=.returned (.tuple #[])/\(∃L,Aq v g (X++(L++(o++(t++Y)))) E/\L.Perm (z++r)/\L.Pairwise R)/\Ab g W v):=λW D F J h4 =>
     c8.out (k-a) Q0 W X z r (o++(t++Y)) a i k D f7 Q0 Q0 (Af _) Q0 Q0 Q4 e4 e6 h3 j6 j8 (c0.out.only F)
    have l0:Hid ((decide (a<i)&& decide (i<k))=false->(z++r).Pairwise R):=λh=>by
     simp only[SG,QU] at h
     have a7:z=[]\/r=[]:=by
      rcases h with h|h
      ·exact .inl (Ey Q0)
      ·exact .inr (Ey Q0)
     rcases a7 with rfl|rfl
     ·simpa using e6
     ·simpa using e4
    have k8:Hid (∀W l,l.length=(z++r).length->Aq W g (X++(l++(o++(t++Y)))) E->Ab g w W->k<e->e<b->Qk 253 #[Qs g 0 n N,Qi k,Qi e,Qi b,.func (.func 146) #[] #[.pointer (some ⟨q,0,none⟩)]] W λZ v=>Z=.returned (.tuple #[])/\(∃L,Aq v g (X++(l++(L++Y))) E/\L.Perm (o++t)/\L.Pairwise R)/\Ab g W v):=λW l h0 D F J h4=>by
     have o3:l.length=z.length+r.length:=by rw[h0,AJ]
     have:=c8.out (b-k) Q0 W (X++l) o t Y k e b (by simpa using D) Q4 Q0 Q0 (Af _) Q0 Q0 Q4 e5 e7 h9 j7 j9 (c0.out.only F)
     refine this.mono ?_;rintro Z v ⟨h5,⟨L,h6,h7⟩,h8⟩;exact⟨h5,⟨L,by simpa using h6,h7⟩,h8⟩
    have l3:Hid ((decide (k<e)&& decide (e<b))=false->(o++t).Pairwise R):=λh=>by
     simp only[SG,QU] at h
     have a7:o=[]\/t=[]:=by
      rcases h with h|h
      ·exact .inl (Ey Q0)
      ·exact .inr (Ey Q0)
     rcases a7 with rfl|rfl
     ·simpa using e7
     ·simpa using e5
    have l4:=Aa w7;have l8:=Aa i7;have l9:=Aa i8;have l7:=Aa i4;clear j5 h3 h9 b3 b4 e4 e5 o0 e6 e7 o1 j6 j7 j8 j9 b1 b2 a5 i0 f8 a2 d3 d4 s5 s6 a4 b5 H w7 i7 i8 i4;clear f4 c1 h2 g9 h1 c8 g4 g6 g7 f9 g2 g3 n7 e8 k9 n2 n3 hq hd hf n9 he m6 m4 m5 f7 i2 l6 n4 n5 n6 j3 m9 o2 m7 s1 s2 s3 s4 s7
    go_upto_region 38 with(fail)
    go_cut [0,24] (λs0 se wx=>s0=Qs g 0 n N/\se=Qi (e:Nat)/\wx=wr)
    case first =>
     have w7:=l4.out
     go_wp2_with fail
     go_meet
     case rel=>exact⟨rfl,rfl,rfl⟩
    case rest =>
     obtain⟨rfl,rfl,hw⟩:=hcut;rw[hw];clear hw
     apply_assumption
     refine zpi (nn:=nn) g n N q R E wr X z o r t Y a m b i e k l8.out l9.out l7.out m1 m0 (Aa λW D F=>k7.out W D (T.out.trans F)) l0 (Aa λW l h0 D F=>k8.out W l h0 D (T.out.trans F)) l3 rfl _ ?_;intro ts v l I p1 p2 p3 p4 n1 n0;obtain⟨j1,j2⟩:=n8.out l I p1 p2 p3 p4;exact Fu (Dw rfl _ _ _) rfl ⟨rfl,⟨l++I,by simpa using n1,j1,j2⟩,T.out.trans n0⟩
theorem Za(g n d q M:Nat)(c:Nat->Nat->Bool)(R:Nat->Nat->Prop)(o:∀x y z,R x y->R y z->R x z)(E:List Value)(s:n<=1000000)(N:Nat):zul g n d q M c R E N:=by
 induction N using Nat.strongRecOn with
 | _ N F =>
   intro w X U V Y a m b l f j h B I J k t A e p r i
   by_cases G:U.length=1
   ·obtain⟨u,rfl⟩:=List.length_eq_one_iff.1 G
    exact zsp w g n d q M c R o X V Y u E a m b l f j h k s A (λy D=>e u Q6 y D) (p u Q6) r i
   ·by_cases H:V.length=1
    ·obtain⟨v,rfl⟩:=List.length_eq_one_iff.1 H
     exact zpG w g n d q M c R o X U Y v E a m b l f j h Q0 k s t (λx C=>e x C v Q6) (r v Q6) p i
    ·exact zy9 g n d q M c R o E s N F w X U V Y a m b l f j h B Q0 Q0 k t A e p r i
theorem Cm.mem{R:a->a->Prop}{D X U Y:List a}(h:Cm R D s m (X++(U++Y)))(g:X.length=m):∀x∈U,x∈D:=by
 obtain⟨d,e,f,_,_⟩:=h;have b:U++Y=D.drop m:=(List.append_inj e Q0).2
 intro x c;exact J7 (b ▸ (Ol _ c):x∈D.drop m)
theorem Br.mem{R:a->a->Prop}{D l:List a}(h:Br R D s m l)(b:0<s)(q:m=2*s*k)(i:Nat)(r:m<=i)(x:a)(p:l[i]?=some x):x∈D:=by
 have e:m=s*(2*k):=by rw[q,Km 2 s,Lx]
 have c:2*k<=i / s:=by
  rw[Nat.le_div_iff_mul_le b,Km];omega
 have d:m<=s*(i / s):=by rw[e];exact QP s c
 have g:=(h.2.2 (i / s) d).1;have f:=Nat.div_add_mod i s;have j:=F8 i b
 have o:x∈Go.Proofs.YtoejfkeofbdalaaGreatDoor.part l (s*(i / s)) s:=by
  refine Cn (i:=i%s) ?_;unfold Go.Proofs.YtoejfkeofbdalaaGreatDoor.part;rw[Mj j,Kh,f];exact p
 exact J7 (Ls (g.mem_iff.1 o))
theorem Br.mems{b:Type}{R:b->b->Prop}{D X U V Y:List b}(h:Br R D s m (X++(U++(V++Y))))(e:0<s)(f:m=2*s*k)(g:X.length=m):(∀x∈U,x∈D)/\∀x∈V,x∈D:=by
 have d:∀x∈U++V,x∈D:=by
  intro x a;obtain⟨i,c,rfl⟩:=List.mem_iff_getElem.1 a;refine h.mem e f (m+i) Q0 _ ?_
  rw[<-BN U,F7 Q0,show m+i-X.length=i by omega,FP c,Az c]
 exact⟨λx a=>d x (Ol _ a),λx a=>d x (QX _ a)⟩
theorem zsA(w:World)(g n a4 q M:Nat)(lt:Nat->Nat->Bool)(R:Nat->Nat->Prop)(ht:∀x y b8,R x y->R y b8->R x b8)(D:List Nat)(E:List Value)(hr:Aq w g D E)
 (hn:D.length=n) (b4:n<=1000000) (b9:D.Pairwise (IB R lt)) (c0:∀x∈D,x<M) (hc:Eh w g q M lt) :
 Qk 212 #[Qs g 0 n a4,Qi n,Io q] w λa1 a0=>a1=.returned (.tuple #[])/\(∃L,Aq a0 g L E/\L.Perm D/\L.Pairwise R)/\Ab g w a0:=by
 have i:=Aa hr;have V:=Aa hn;have b2:=Aa ht;have b1:=Aa b9;have Z:=Aa c0;have b0:=Aa hc;clear hr hn ht b9 c0 hc;unfold Io
 go_enter Tryz.func212,Tryz.ntmps212
 go_wp2_with fail
 go_loopw [7,8] (λav bv wr=>∃(a b k:Nat)(L:List Nat),av=Qi a/\bv=Qi b/\a<=n/\b<=n+20/\a<b/\Hid (b=a+20/\a=20*k)/\Hid (Cm R D 20 a L)/\Hid (Aq wr g L E)/\Hid (Ab g w wr)) (λav bv _=>(n+21-(intOf bv).toNat))
 case atStart=>exact⟨0,20,0,D,rfl,rfl,Q0,Q0,Q0,⟨rfl,rfl⟩,Cm.start D 20,i.out,Ab.refl _ _⟩
 case round =>
  clear i;obtain⟨a,b,k,L,rfl,rfl,ha,hb,c1,HE,d,i,f⟩:=hrel;have h:L.length=n:=d.out.length.trans V.out
  by_cases I:b<=n
  ·obtain⟨G,H⟩:=HE.out
   obtain⟨X,U,Y,p,l,O,a6,r⟩:=d.out.next (lt:=lt) Q0 H (c:=20) (Af _) (by rw[V.out,<-G];exact I) (.inl rfl)
   rw[<-G] at r;have o:=i.out;have m:=d.out;rw[p] at o h m;have a5:∀x∈U,x<M:=λx u=>Z.out x (m.mem l x u);have j:=Aa (Zw wr g n a4 q M lt R b2.out X U Y E a b o l Q0 h b4 (a6 b1.out) a5 (b0.out.only f.out))
   unfold Io at j;have v:=Aa r;have b7:Hid (b=20*(k+1)):=by show _=_;omega
   clear p l O a6 r o h a5 d i m G H HE;have W:decide (b<=n)=true:=Bl I;have w1:IntKind.i64.wrap ((b:Int)+20)=((b+20:Nat):Int):=by rw[AU _ Q0];omega
   go_wp2_with fail
   refine j.out.mono ?_;rintro a1 a0 ⟨rfl,⟨e,B,A,C⟩,z⟩;have K:=Aa B;have F:=Aa (v.out e A C);have J:=Aa (f.out.trans z);clear B A C z j v f
   go_wp2_with fail
   go_roundw
   case rel=>exact⟨b,b+20,k+1,_,rfl,rfl,I,Q0,Q0,⟨rfl,b7.out⟩,F,K,J⟩
   case measure=>simp[intOf];omega
  ·obtain⟨G,H⟩:=HE.out
   obtain⟨X,U,Y,p,l,O,a6,r⟩:=d.out.next (lt:=lt) Q0 H (c:=n-a) Q0 (by rw[V.out];omega) (.inr (by rw[V.out];omega))
   have b6:Y=[]:=by
    rw[p] at h;simp at h;exact Ey Q0
   subst b6;have o:=i.out;have m:=d.out;rw[p] at o h m;have a5:∀x∈U,x<M:=λx u=>Z.out x (m.mem l x u);have j:=Aa (Zw wr g n a4 q M lt R b2.out X U [] E a n o l Q0 h b4 (a6 b1.out) a5 (b0.out.only f.out))
   unfold Io at j
   have c2:∀e,e.Perm U->e.Pairwise R->Br R D 20 0 (X++(e++[])):=λe h1 h2=>by
    have:=r e h1 h2;rw[show a+(n-a)=D.length by rw[V.out];omega] at this
    exact this.done
   have v:=Aa c2;clear p l O a6 r o h a5 d i m G H HE c2;have W:decide (b<=n)=false:=AV I
   go_wp2_with fail
   refine j.out.mono ?_;rintro a1 a0 ⟨rfl,⟨e,B,A,C⟩,z⟩;have K:=Aa B;have F:=Aa (v.out e A C);have J:=Aa (f.out.trans z);clear B A C z j v f W I c1;generalize X++(e++[])=c6 at*
   clear X U e
   go_wp2_with fail
   go_loopw [6] (λsv wr=>∃(s:Nat)(L:List Nat),sv=Qi s/\20<=s/\s<=2000020/\Hid (Br R D s 0 L)/\Hid (Aq wr g L E)/\Hid (Ab g w wr)) (λsv _=>(n+2000021-(intOf sv).toNat))
   case atStart=>exact⟨20,c6,rfl,Q0,Q0,F,K,J⟩
   case round =>
    clear F K J;obtain⟨s,L,rfl,d0,d1,d,i,f⟩:=hrel
    by_cases c3:s<n
    ·have W:decide (s<n)=true:=Bl c3
     have w1:IntKind.i64.wrap (2*(s:Int))=((2*s:Nat):Int):=by rw[AU _ Q0];omega
     obtain⟨t,ht⟩:=Qe (2*s);rw[ht] at w1;have c9:s<t:=Q0
     have c4:t<=2000020:=Q0
     have N:=Aa ht;clear ht
     go_wp2_with fail
     go_loopw [7,8] (λav bv wr=>∃(a b k:Nat)(L:List Nat),av=Qi a/\bv=Qi b/\a<=n/\b<=n+t/\a<b/\Hid (b=a+t/\a=t*k)/\Hid (Br R D s a L)/\Hid (Aq wr g L E)/\Hid (Ab g w wr)) (λav bv _=>(n+t+1-(intOf bv).toNat))
     case atStart=>exact⟨0,t,0,L,rfl,rfl,Q0,Q0,Q0,⟨Q0,Q0⟩,d,i,f⟩
     case round =>
      clear d i f;obtain⟨a,b,k,L,rfl,rfl,ha,hb,c1,HE,d,i,f⟩:=hrel;obtain⟨G,H⟩:=HE.out;have T:a=2*s*k:=by rw[N.out];exact H
      have h:L.length=n:=d.out.1.trans V.out
      by_cases I:b<=n
      ·obtain⟨X,U,a9,Y,p,l,O,b3,a2,a3,a7,r⟩:=d.out.merge (lt:=lt) Q0 T (c:=t) c9 (by rw[N.out];exact Af _) Q0 (.inl N.out.symm)
       have o:=i.out;have m:=d.out;rw[p] at o h m;obtain⟨m1,m2⟩:=m.mems Q0 T l
       have j:=Aa (Za g n a4 q M lt R b2.out E b4 (b-a) wr X U a9 Y a (a+s) b o l Q0 Q0 (Af _) Q0 Q0 h a2 a3 (a7 b1.out) (λx u=>Z.out x (m1 x u)) (λx u=>Z.out x (m2 x u)) (b0.out.only f.out))
       unfold Io at j;rw[N.out,<-G] at r;have v:=Aa r;have b7:Hid (b=t*(k+1)):=by show _=_;rw[Ng];omega
       clear p l O b3 a2 a3 a7 r o h d i m m1 m2 G H T HE;have W:decide (b<=n)=true:=Bl I;have w2:IntKind.i64.wrap ((a:Int)+(s:Int))=((a+s:Nat):Int):=by rw[AU _ Q0];omega
       have w3:IntKind.i64.wrap ((s:Int)*2)=(t:Int):=by rw[Int.mul_comm];exact w1
       have w4:IntKind.i64.wrap ((b:Int)+(t:Int))=((b+t:Nat):Int):=by rw[AU _ Q0];omega
       go_wp2_with fail
       refine j.out.mono ?_;rintro a1 a0 ⟨rfl,⟨e,B,A,C⟩,z⟩;have K:=Aa B;have F:=Aa (v.out e A C);have J:=Aa (f.out.trans z);clear B A C z j v f
       go_wp2_with fail
       go_roundw
       case rel=>exact⟨b,b+t,k+1,_,rfl,rfl,I,Q0,Q0,⟨rfl,b7.out⟩,F,K,J⟩
       case measure=>simp[intOf];omega
      ·by_cases hm:a+s<n
       ·obtain⟨X,U,a9,Y,p,l,O,b3,a2,a3,a7,r⟩:=d.out.merge (lt:=lt) Q0 T (c:=n-a) Q0 (by rw[N.out];omega) Q0 (.inr Q0)
        have b6:Y=[]:=by
         rw[p] at h;simp at h;exact Ey Q0
        subst b6;have o:=i.out;have m:=d.out;rw[p] at o h m;obtain⟨m1,m2⟩:=m.mems Q0 T l
        have j:=Aa (Za g n a4 q M lt R b2.out E b4 (n-a) wr X U a9 [] a (a+s) n o l Q0 Q0 (Af _) Q0 Q0 h a2 a3 (a7 b1.out) (λx u=>Z.out x (m1 x u)) (λx u=>Z.out x (m2 x u)) (b0.out.only f.out))
        unfold Io at j
        have c5:∀e,e.Perm (U++a9)->e.Pairwise R->Br R D t 0 (X++(e++[])):=λe h1 h2=>by
         have h3:=(r e h1 h2).up (by rw[AJ,Eu,h1.length_eq,AJ,l,O,b3,N.out];omega)
         rw[N.out] at h3;exact h3
        have v:=Aa c5;clear p l O b3 a2 a3 a7 r o h d i m m1 m2 G H T HE c5;have W:decide (b<=n)=false:=AV I;have w2:IntKind.i64.wrap ((a:Int)+(s:Int))=((a+s:Nat):Int):=by rw[AU _ Q0];omega
        have w3:IntKind.i64.wrap ((s:Int)*2)=(t:Int):=by rw[Int.mul_comm];exact w1
        obtain⟨b5,a8⟩:=Qe (a+s);rw[a8] at hm w2 j;have dm:decide (b5<n)=true:=Bl hm;clear a8
        go_wp2_with fail
        refine j.out.mono ?_;rintro a1 a0 ⟨rfl,⟨e,B,A,C⟩,z⟩;have K:=Aa B;have F:=Aa (v.out e A C);have J:=Aa (f.out.trans z);clear B A C z j v f
        go_wp2_with fail
        go_roundw
        case rel=>exact⟨t,_,rfl,Q0,c4,F,K,J⟩
        case measure=>simp[intOf];omega
       ·have F:Hid (Br R D t 0 L):=by
         have:=d.out.rest Q0 T Q0
         rw[N.out] at this;exact this
        clear d G H T HE h;have W:decide (b<=n)=false:=AV I;have w2:IntKind.i64.wrap ((a:Int)+(s:Int))=((a+s:Nat):Int):=by rw[AU _ Q0];omega
        have w3:IntKind.i64.wrap ((s:Int)*2)=(t:Int):=by rw[Int.mul_comm];exact w1
        obtain⟨b5,a8⟩:=Qe (a+s);rw[a8] at hm w2;have dm:decide (b5<n)=false:=AV hm;clear a8
        go_wp2_with fail
        go_roundw
        case rel=>exact⟨t,_,rfl,Q0,c4,F,i,f⟩
        case measure=>simp[intOf];omega
    ·have W:decide (s<n)=false:=AV c3
     obtain⟨c7,c8⟩:=d.out.whole (by rw[d.out.1,V.out];omega)
     go_wp2_with fail
     exact Fu (Dw rfl _ _ _) rfl ⟨rfl,⟨L,i.out,c7,c8⟩,f.out⟩
theorem ztl(a b:Int)(v:Value)(w:World)(f:Ac w w.heap.size v [a,b]):Qk 147 #[v] w λe A=>e=.returned (Qi (if a=0 then b else a))/\w=A:=by
 obtain⟨q,c,rfl,B,C⟩:=f.shape;obtain⟨g,o,rfl,u,s⟩:=f.at 0 Q6
 obtain⟨G,H,k,F,t⟩:=f.at 1 Q6
 injection k with k
 injection k with D E
 subst D E;simp only[Bt,D4,Lh,Me,Es,Ic] at s t |-;clear f u F B C;obtain⟨z,l⟩:=Qe ((if a=0 then b else a))
 rw[l];have j:=Aa l;clear l
 go_enter Tryz.func147,Tryz.ntmps147
 go_wp2_with fail
 go_loopw [8] (λm wr=>∃i:Nat,m=Qi (i:Nat)/\(i=0\/(i=1/\a=0)\/(i=2/\a=0/\b=0))/\w=wr) (λm _=>3-(intOf m).toNat)
 case atStart=>exact⟨0,rfl,.inl rfl,rfl⟩
 case round =>
  obtain⟨i,rfl,x,rfl⟩:=hrel;rcases x with rfl|⟨rfl,d⟩|⟨rfl,d,h⟩
  ·by_cases d:a=0
   ·have r:(a ==0)=true:=by simp[d]
    subst d
    go_wp2_with fail
    go_roundw
    case rel=>exact⟨1,Q6⟩
    case measure=>simp[intOf]
   ·have r:(a ==0)=false:=by simp[d]
    have f:a=z:=by have:=j.out;rwa [if_neg d] at this
    subst f
    go_wp2_with fail
    go_ret
    exact⟨rfl,rfl⟩
  ·subst d
   have p:b=z:=by have:=j.out;rwa [if_pos rfl] at this
   subst p
   by_cases h:b=0
   ·subst h
    go_wp2_with fail
    go_roundw
    case rel=>exact⟨2,Q6⟩
    case measure=>simp[intOf]
   ·have r:(b ==0)=false:=by simp[h]
    go_wp2_with fail
    go_ret
    exact⟨rfl,rfl⟩
  ·subst d h
   have p:0=z:=by have:=j.out;rwa [if_pos rfl] at this
   subst p
   go_wp2_with fail
   go_ret
   exact⟨rfl,rfl⟩
def Jq(s:ByteArray)(a:Value)(m:Nat):Value:=.agg #[.string s,a,Qi (m:Nat)]
theorem zyy(s:ByteArray)(a n b m k:Nat)(P:List Nat)(w:World)(f:Aq w a P [])(o:P.length=n)(F:s.size=n)(D:k<n)(I:n<=1000000)(E:m<=2000000) :
 Qk 149 #[Jq s (Qs a 0 n b) m,Qi (k:Nat)] w λe q=>e=.returned (Qi (P[(k+m)%n]?.getD 0:Nat))/\Qb w q:=by
 have v:(k+m)%n<n:=F8 _ Q0
 obtain⟨i,j⟩:=Qe ((k+m)%n);rw[j] at v |-;obtain⟨x,g⟩:∃x,P[i]?=some x:=⟨_,Az Q0⟩
 have h:=f.cell i x g;rw[g,Es];have d:Qb w (w.alloc (.cells #[.string s,Qs a 0 n b,Qi (m:Nat)] 171)):=(Ag _ _).alloc (Af _) _;have c:Qg (w.alloc (.cells #[.string s,Qs a 0 n b,Qi (m:Nat)] 171)) w.heap.size #[.string s,.slice (some ⟨a,0,none⟩) n b,Qi (m:Nat)] 171:=Am _ _ _ rfl;have H:=(d.cell (p:=⟨a,i,none⟩) f.lt).trans h;have r:IntKind.i64.wrap ((k:Int)+(m:Int))=((k+m:Nat):Int):=by rw[AU _ Q0];omega
 have t:Int.tmod ((k+m:Nat):Int) (n:Int)=(i:Int):=by rw[KE Q0];omega
 obtain⟨G,l⟩:=Qe (k+m);rw[l] at r t;have A:=(Ae c 0).trans rfl;have B:=(Ae c 1).trans rfl;have C:=(Ae c 2).trans rfl;have u:=Aa d;clear j l f o g h c d;unfold Jq
 go_enter Tryz.func149,Tryz.ntmps149
 go_wp2_with fail
 generalize w.alloc (.cells #[.string s,Qs a 0 n b,Qi (m:Nat)] 171)=z at*
 go_region
 go_wp2_with fail
 go_ret
 exact⟨rfl,u.out.drew⟩
def KX(P:List Nat)(n m a b:Nat):Int:=if F3 (P[a]?.getD 0:Nat) (P[b]?.getD 0:Nat)=0 then F3 (P[(a+m)%n]?.getD 0:Nat) (P[(b+m)%n]?.getD 0:Nat) else F3 (P[a]?.getD 0:Nat) (P[b]?.getD 0:Nat)
theorem zyi(P:List Nat)(n m a b:Nat):decide (KX P n m a b<0)=Fx n (λk=>P[k]?.getD 0) m a b:=by
 rw[Ki,JQ,decide_eq_true_iff];unfold KX F3;generalize P[a]?.getD 0=x;generalize P[b]?.getD 0=y;generalize P[(a+m)%n]?.getD 0=u;generalize P[(b+m)%n]?.getD 0=v;rcases KJ x y with h|h|h<;>rcases KJ u v with c|c|c<;>(repeat' split)<;>omega
theorem zrw(P:List Nat)(n m a b:Nat):(KX P n m a b !=0)=(Fx n (λk=>P[k]?.getD 0) m a b ||Fx n (λk=>P[k]?.getD 0) m b a):=by
 rw[Ki,J5,JQ,JQ,SY];unfold KX F3;generalize P[a]?.getD 0=x;generalize P[b]?.getD 0=y;generalize P[(a+m)%n]?.getD 0=u;generalize P[(b+m)%n]?.getD 0=v;rcases KJ x y with h|h|h<;>rcases KJ u v with c|c|c<;>(repeat' split)<;>omega
theorem ZG(s:ByteArray)(d n f m a b:Nat)(P:List Nat)(w:World)(l:Aq w d P [])(r:P.length=n)(L:s.size=n)(ha:a<n)(hb:b<n)(V:n<=1000000)(K:m<=2000000) :
 Qk 98 #[Jq s (Qs d 0 n f) m,Qi (a:Nat),Qi (b:Nat)] w λe c=>e=.returned (Qi (KX P n m a b))/\Qb w c:=by
 have g:Hid (KX P n m a b=if F3 (P[a]?.getD 0:Nat) (P[b]?.getD 0:Nat)=0 then F3 (P[(a+m)%n]?.getD 0:Nat) (P[(b+m)%n]?.getD 0:Nat) else F3 (P[a]?.getD 0:Nat) (P[b]?.getD 0:Nat)):=by show _=_;rfl
 have Z:=Aa λx y W=>Z0 x y W;have H:=Aa λx y v W=>ztl x y v W;obtain⟨z,M⟩:=Qe (KX P n m a b);rw[M] at g |-;clear M;obtain⟨x,B⟩:∃x,P[a]?=some x:=⟨_,Az Q0⟩
 obtain⟨y,C⟩:∃y,P[b]?=some y:=⟨_,Az Q0⟩
 obtain⟨u,t⟩:=Qe (P[(a+m)%n]?.getD 0);obtain⟨v,A⟩:=Qe (P[(b+m)%n]?.getD 0)
 have X:Hid (∀W,Aq W d P []->Qk 149 #[.agg #[.string s,Qs d 0 n f,Qi (m:Nat)],Qi (a:Nat)] W λe c=>e=.returned (Qi (u:Nat))/\Qb W c):=λW h=>by
  have:=zyy s d n f m a P W h r L ha V K;rw[t] at this;exact this
 have Y:Hid (∀W,Aq W d P []->Qk 149 #[.agg #[.string s,Qs d 0 n f,Qi (m:Nat)],Qi (b:Nat)] W λe c=>e=.returned (Qi (v:Nat))/\Qb W c):=λW h=>by
  have:=zyy s d n f m b P W h r L hb V K;rw[A] at this;exact this
 rw[B,C,t,A] at g;simp only[Es] at g;have g:=Aa g.out;have R:=l.cell a x B;have T:=l.cell b y C;obtain⟨z1,E⟩:=Qe (F3 (x:Nat) (y:Nat));obtain⟨z2,F⟩:=Qe (F3 (u:Nat) (v:Nat));rw[E,F] at g;have g:=Aa g.out
 have a1:Hid (∀q W,Ac W W.heap.size q [F3 (x:Nat) (y:Nat),F3 (u:Nat) (v:Nat)]->Qk 147 #[q] W λe c=>e=.returned (Qi z)/\W=c):=λq W h=>by
  have:=H.out _ _ q W h;rw[E,F] at this;rw[<-g.out] at this;exact this
 have I:=Aa l;have o:=l.lt;have j:Qb w (w.alloc (.cells #[.string s,Qs d 0 n f,Qi (m:Nat)] 171)):=(Ag _ _).alloc (Af _) _;have k:Qg (w.alloc (.cells #[.string s,Qs d 0 n f,Qi (m:Nat)] 171)) w.heap.size #[.string s,.slice (some ⟨d,0,none⟩) n f,Qi (m:Nat)] 171:=Am _ _ _ rfl;clear B C t A E F l r H g;unfold Jq
 go_enter Tryz.func98,Tryz.ntmps98
 go_wp2_with fail
 obtain⟨W,J⟩:=Qe (w.alloc (.cells #[.string s,Qs d 0 n f,Qi (m:Nat)] 171));rw[J] at j k |-;obtain⟨i,G⟩:=Qe w.heap.size;rw[G] at k j o |-;have a3:=Aa G;clear J G;have O:Hid (∀c,Qb W c->Aq c d P []):=λc h=>(I.out.same (j.block d o)).below h;have a9:Qb W W:=Ag _ _;have D:=Aj k;have U:d<W.heap.size:=by have:=j.size;omega
 have a4:Hid (∀c:World,Qb W c->Qb W c/\Qc c i 0 (.string s)/\Qc c i 1 (Qs d 0 n f)/\Qc c i 2 (Qi (m:Nat))/\Qc c d a (Qi (x:Nat))/\Qc c d b (Qi (y:Nat))):=λc h =>
  ⟨h,(h.cell (p:=⟨i,0,none⟩) D).trans (Ae k 0),(h.cell (p:=⟨i,1,none⟩) D).trans (Ae k 1),(h.cell (p:=⟨i,2,none⟩) D).trans (Ae k 2),(h.cell (p:=⟨d,a,none⟩) U).trans ((j.cell (p:=⟨d,a,none⟩) o).trans R),(h.cell (p:=⟨d,b,none⟩) U).trans ((j.cell (p:=⟨d,b,none⟩) o).trans T)⟩
 have a2:=Aa j;clear j k R T I
 go_region_held3 (λc=>Qb W c/\Qc c i 0 (.string s)/\Qc c i 1 (Qs d 0 n f)/\Qc c i 2 (Qi (m:Nat))/\Qc c d a (Qi (x:Nat))/\Qc c d b (Qi (y:Nat)))
  ((refine a4.out _ ?_;first|assumption|exact Cq Q3|exact Bh Q3|exact Ay (Bh Q3) _|exact A9 Q3 (Bh Q3)|exact Ay Q3 _|fail))
  ((first
    |(go_at_call 148
      refine(Z.out _ _ _).mono ?_;rintro e N ⟨rfl,rfl⟩)
    |(go_at_call 149
      with_reducible show Qk _ #[_,Qi (a:Nat)] _ _
      refine(X.out _ (O.out _ (Bh Q3))).mono ?_
      rintro e N ⟨rfl,a5⟩;have a8:Qb W N:=A9 a5 (Bh Q3))
    |(go_at_call 149
      refine(Y.out _ (O.out _ (Bh Q3))).mono ?_
      rintro e w9 ⟨rfl,a6⟩;have a7:Qb W w9:=A9 a6 (Bh Q3))
    |(go_at_call 147
      refine(a1.out _ _ ((Ac.new _ [F3 (x:Nat) (y:Nat),F3 (u:Nat) (v:Nat)] _ _ 2 rfl rfl rfl (by simp[maxLen])).mono Q6)).mono ?_
      rintro e b0 ⟨rfl,rfl⟩)
    |fail))
 have a0:=Aa (a2.out.trans ((Ay a7 (.cells #[Qi (F3 (x:Nat) (y:Nat)),Qi (F3 (u:Nat) (v:Nat))] 3)).mono (show i<=W.heap.size by omega)))
 go_wp2_with fail
 go_ret
 exact⟨rfl,by rw[a3.out];exact a0.out⟩
theorem zun(s:ByteArray)(d q n r m a b:Nat)(P:List Nat)(w:World)(k:Qg w q #[.iface 171 (Jq s (Qs d 0 n r) m)] 258)(l:Aq w d P [])(j:P.length=n)(o:s.size=n)(g:a<n)(i:b<n)(t:n<=1000000)(c:m<=2000000) :
 Qk 146 #[Qi (a:Nat),Qi (b:Nat),Qp q 0] w λe p=>e=.returned (Qi (KX P n m a b))/\Qb w p:=by
 have u:=Aa (ZG s d n r m a b P w l j o g i t c);have x:=(Ae k 0).trans rfl;clear l j o g i t c k;unfold Jq at*
 have c:∀(h:Value)(W:World),(method 624 171 h "pressmark/turns.compare").run Tryz.prog W=.ok (98,h) W:=λ_ _=>by kernel_rfl
 go_enter Tryz.func146,Tryz.ntmps146
 go_wp2_with fail
 refine u.out.mono ?_;rintro e p ⟨rfl,f⟩;have v:=Aa f;clear f
 go_wp2_with fail
 go_ret
 exact⟨rfl,v.out⟩
def EQ(s:List UInt8)(c:Nat):Bool:=s.any λx=>x.toNat ==c
def ED(s:List UInt8)(k:Nat):List Bool:=(List.range 16).map λi=>EQ s (16*k+i)
def DZ(s:List UInt8)(k:Nat):Bool:=(ED s k).any id
def EZ(p:Nat->Bool)(n:Nat):List UInt8:=((List.range n).filter p).map UInt8.ofNat
def Bq(s:List UInt8):List UInt8:=EZ (EQ s) 256
def FF(s:List UInt8)(n:Nat):List Bool:=(List.range n).map (DZ s)
def Hw(s:List UInt8):Nat->List Bool
 |0=>[]
 |n+1=>Hw s n++if DZ s n then ED s n else[]
def FJ(s:List UInt8):List Bool:=FF s 16++Hw s 16
def FU(p:Nat->Bool)(n:Nat):Nat:=((List.range n).filter p).length
theorem PY(p:Nat->Bool)(n:Nat):FU p (n+1)=FU p n+(p n).toNat:=by
 unfold FU;rw[Fh,P6,AJ];cases h:p n<;>simp[h]
theorem zui(p:Nat->Bool):FU p 0=0:=rfl
theorem Sk(p:Nat->Bool)(n:Nat):FU p n<=n:=by
 unfold FU;have:=List.length_filter_le p (List.range n);simpa using this
theorem zml(p:Nat->Bool){n m:Nat}(h:n<=m):FU p n<=FU p m:=by
 induction h with
 |refl=>exact Af _
 |step h a=>rw[PY];omega
theorem zqX(h:∀k,k<n->p k=q k):FU p n=FU q n:=by
 induction n with
 |zero=>rfl
 |succ n a=>rw[PY,PY,a λk b=>h k Q0,h n Q0]
theorem zve(h:k<n)(b:p k=true):FU p k<FU p n:=by
 have a:=zml p (show k+1<=n from h)
 rw[PY,b] at a;simp at a;omega
theorem Ns(p:Nat->Bool)(n:Nat):EZ p (n+1)=EZ p n++if p n then[UInt8.ofNat n] else[]:=by
 unfold EZ;rw[Fh,P6,D3];cases h:p n<;>simp[h]
theorem YA(p:Nat->Bool)(n:Nat):(EZ p n).length=FU p n:=by simp[EZ,FU]
theorem Zf(h:∀k,k<n->p k=q k):EZ p n=EZ q n:=by
 induction n with
 |zero=>rfl
 |succ n a=>rw[Ns,Ns,a λk b=>h k Q0,h n Q0]
theorem ZH(s t:List UInt8)(c:Nat):EQ (s++t) c=(EQ s c ||EQ t c):=by simp[EQ]
theorem zqv(x:UInt8)(c:Nat):EQ [x] c=(x.toNat ==c):=by simp[EQ]
theorem ZN(p:Nat->Bool)(n c:Nat)(g:n<=256):EQ (EZ p n) c=(decide (c<n)&& p c):=by
 induction n with
 |zero=>rfl
 | succ n f =>
   rw[Ns,ZH,f Q0]
   have e:(UInt8.ofNat n).toNat=n:=by simp;omega
   by_cases d:c=n
   ·subst d
    cases h:p c<;>simp[EQ,e]
   ·have a:(n ==c)=false:=by rw[Ez];omega
    have b:EQ (if p n=true then[UInt8.ofNat n] else[]) c=false:=by
     cases p n
     ·rfl
     ·rw[if_pos rfl,zqv,e];exact a
    rw[b,Ri];congr 1
    rw[decide_eq_decide];omega
theorem zlg(p:Nat->Bool):Bq (EZ p 256)=EZ p 256 :=
 Zf λk a=>by rw[ZN _ _ _ (Af _),Bl a,Nc]
theorem Y8(s:List UInt8):Bq (Bq s)=Bq s:=zlg _
theorem O6(s:List UInt8)(k:Nat):(ED s k).length=16:=by simp[ED]
theorem PS(s:List UInt8)(n:Nat):(FF s n).length=n:=by simp[FF]
theorem VE(s:List UInt8)(n:Nat):(Hw s n).length=16*FU (DZ s) n:=by
 induction n with
 |zero=>rfl
 | succ n a =>
   rw[Hw,AJ,a,PY];cases DZ s n
   ·simp
   ·simp only[L5,O6,Bool.toNat_true];omega
theorem Zi(s:List UInt8):(FJ s).length=16+16*FU (DZ s) 16:=by
 unfold FJ;rw[AJ,PS,VE]
theorem zjU(s:List UInt8):(FJ s).length<=272:=by
 rw[Zi];have:=Sk (DZ s) 16;omega
theorem zrk(s:List UInt8)(n:Nat):FF s (n+1)=FF s n++[DZ s n]:=by simp[FF,Fh]
theorem O3(s:List UInt8):(Bq s).length<=256:=by
 unfold Bq;rw[YA];exact Sk _ _
theorem zx3(s:List UInt8)(k:Nat):DZ s k=s.any λx=>x.toNat / 16 ==k:=by
 rw[Ki];simp only[DZ,ED,EQ,List.any_map,J8,EB,Function.comp,id,FQ]
 constructor
 ·rintro⟨i,b,x,a,h⟩
  exact⟨x,a,Q0⟩
 ·rintro⟨x,a,h⟩
  exact⟨x.toNat%16,F8 _ Q0,x,a,Q0⟩
def F5(u:List UInt8)(a k:Nat):Bool:=B.bitAt u (a+k)
def Fz(u:List UInt8)(a k:Nat):Nat:=a+16+16*FU (F5 u a) k
def Ju(u:List UInt8)(a k:Nat):List Bool:=B.slice u (Fz u a k) 16
def Pk(u:List UInt8)(a c:Nat):Bool:=F5 u a (c / 16)&& B.bitAt u (Fz u a (c / 16)+c%16)
def OX(u:List UInt8)(a n:Nat):Bool:=(List.range n).any λk=>F5 u a k && !(Ju u a k).any id
def LH(u:List UInt8)(a:Nat):Except Int (List UInt8 × Nat) :=
 if 8*u.length<Fz u a 16 then .error 2
 else if OX u a 16 || !(List.range 16).any (F5 u a) then .error 3
 else .ok (EZ (Pk u a) 256,Fz u a 16)
theorem ZL(u:List UInt8)(a n:Nat):OX u a (n+1)=(OX u a n ||(F5 u a n && !(Ju u a n).any id)):=by
 simp[OX,Fh]
theorem RM(u:List UInt8)(a n:Nat):Fz u a (n+1)=Fz u a n+if F5 u a n then 16 else 0:=by
 unfold Fz;rw[PY];cases F5 u a n<;>simp<;>omega
theorem zvz(u:List UInt8)(a:Nat){n m:Nat}(h:n<=m):Fz u a n<=Fz u a m:=by
 have:=zml (F5 u a) h;unfold Fz;omega
theorem zy7(u:List UInt8)(a n:Nat):Fz u a n<=a+16+16*n:=by
 have:=Sk (F5 u a) n;unfold Fz;omega
theorem WW(u:List UInt8)(a k i:Nat)(b:i<16):Pk u a (16*k+i)=(F5 u a k && (Ju u a k).getD i false):=by
 unfold Pk Ju;rw[show(16*k+i)/ 16=k by omega,show(16*k+i)%16=i by omega,B.getD_slice _ _ _ _ b]
theorem zwB(v n i:Nat)(h:i<n):(B.low v n).getD i false=v.testBit (n-1-i):=by
 simp[B.low,Cx,h]
theorem zpe(l:List Bool)(i:Nat)(h:i<l.length):(B.num l).testBit (l.length-1-i)=l.getD i false:=by
 rw[<-zwB _ _ _ h,B.low_num]
theorem VN(l:List Bool):(B.num l=0)↔l.any id=false:=by
 induction l using B.snocRec with
 |nil=>simp[B.num_nil]
 | snoc l b a =>
   rw[B.num_snoc,List.any_append];cases b
   ·simp only[Bool.toNat_false,List.any_cons,List.any_nil,id,Ri,<-a]
    omega
   ·simp
theorem YJ(u:List UInt8)(a n i:Nat)(h:i<n):(B.num (B.slice u a n)).testBit (n-1-i)=B.bitAt u (a+i):=by
 have:=zpe (B.slice u a n) i (by rw[B.length_slice];exact h)
 rw[B.length_slice,B.getD_slice _ _ _ _ h] at this;exact this
theorem zjZ(u:List UInt8)(a n:Nat):(B.num (B.slice u a n)=0)↔(List.range n).any (λi=>B.bitAt u (a+i))=false:=by
 rw[VN];simp[B.slice,List.any_map]
theorem zqj(l:List Bool)(h:l.length=16):B.num l<65536:=by
 have:=B.num_lt l;rw[h] at this;exact this
theorem zBf(l:List Bool)(h:l.length=16):B.low (B.num l) 16=l:=by
 have:=B.low_num l;rw[h] at this;exact this
def EL(s:List UInt8):Array Value:=((List.range 256).map λc=>Value.bool (EQ s c)).toArray
theorem OI(s:List UInt8):(EL s).size=256:=by simp[EL]
theorem Qd(s:List UInt8)(c:Nat)(h:c<256):(EL s)[c]?=some (.bool (EQ s c)):=by simp[EL,h]
theorem zqd(s:List UInt8):(EL s).all (·.oneCell')=true:=by
 simp[EL,Value.oneCell']
theorem zmP(s:List UInt8)(c:Nat)(h:¬ c<256):(EL s)[c]?=none:=IK (by rw[OI];omega)
theorem zqA(s:List UInt8)(x:UInt8):(EL s).setIfInBounds x.toNat (.bool true)=EL (s++[x]):=by
 have b:x.toNat<256:=x.toNat_lt;apply KK
 intro i;rw[MU]
 by_cases a:i<256
 ·rw[Qd _ _ a,Qd _ _ a,ZH,zqv,OI]
  by_cases h:x.toNat=i
  ·subst h;simp[b]
  ·rw[if_neg h,Ez.2 h,Ri]
 ·rw[zmP _ _ a,zmP _ _ a,if_neg Q0]
theorem zp3:∀W,(zeroValue 166).run Tryz.prog W=.ok (.agg (EL [])) W:=λ_=>by kernel_rfl
theorem Xb:(Tryz.prog.info? 166).map (·.size)=some 256:=Q2
theorem zyQ(s:ByteArray)(w:World)(N:s.size<=1000000) :
 Qk 95 #[.string s] w λe C=>e=.returned (.agg (EL s.data.toList))/\Qb w C:=by
 have B:=zp3;obtain⟨Z,f⟩:=Qe (EL []);rw[f] at B;have v:=Aa f;clear f
 go_enter Tryz.func95,Tryz.ntmps95
 go_wp2
 have q:Qg (w.alloc (.cells Z 166)) w.heap.size Z 166:=Am _ _ _ rfl
 go_loopw [6] (λi wr=>∃k:Nat,k<=s.size/\i=Qi k/\Qg wr w.heap.size (EL (s.data.toList.take k)) 166/\Qb w wr) (λi _=>s.size-(intOf i).toNat)
 case atStart=>exact⟨0,BI _,rfl,by rw[Nh,v.out];exact q,(Ag _ _).alloc (Af _) _⟩
 case round =>
  obtain⟨k,M,rfl,j,g⟩:=hrel;have a:=Aa j;clear j q
  by_cases I:k<s.size
  ·have A:=(s[k]).toNat_lt
   have H:k<s.data.toList.length:=by simpa using I
   have z:=(Ae a.out (s[k]).toNat).trans (Qd _ _ A);have L:=Ah a.out (s[k]).toNat
   have x:Hid (EL (s.data.toList.take (k+1))=(EL (s.data.toList.take k)).setIfInBounds (s[k]).toNat (.bool true)):=by
    show _=_
    rw[zqA,Ep H];rfl
   have K:=Aa (Ak a.out (s[k]).toNat (.bool true));obtain⟨b,h⟩:=Qe (EQ (s.data.toList.take k) (s[k]).toNat);rw[h] at z;clear h
   go_wp2
   go_roundw
   case rel=>exact⟨k+1,Q0,by go_num,by rw[x.out];exact K.out,g.setCell (p:=⟨w.heap.size,_,none⟩) (Af _) _⟩
   case measure=>simp[intOf];omega
  ·obtain rfl:k=s.size:=Q0
   have a:Hid (Qg wr w.heap.size (EL s.data.toList) 166):=by
    show _=_
    have:=a.out;rw[BR Q6] at this
    exact this
   generalize c:EL s.data.toList=S at*
   have o:S.size=256:=by rw[<-c];exact OI _
   have m:S.all (·.oneCell')=true:=by rw[<-c];exact zqd _
   have l:(Tryz.prog.info? 166).map (·.size)=some S.size:=by rw[o];exact Xb
   have u:=Aa c;have d:=Aa l;have E:=Aa m;clear c o l m
   go_wp2_with
    (first
      |(refine Ot rfl 166 _ rfl w.heap.size rfl _ S _ _ a.out Oq rfl d.out ?_)
      |(refine Rq rfl 166 _ _ rfl w.heap.size S S _ rfl rfl a.out rfl d.out E.out ?_
        intro O t J G r;have F:=Aa t;have D:=Aa (r _ _ (Af _) g);clear t J G r))
   refine BV (Tk rfl _ _ w.heap.size _ S _ _ rfl F.out Oq rfl d.out) rfl ⟨by rw[u.out],D.out⟩
theorem zua(l:List UInt8)(k i:Nat)(h:i<16):(ED l k).take (i+1)=(ED l k).take i++[EQ l (16*k+i)]:=by
 rw[Ep (by rw[O6];exact h)]
 simp[ED]
theorem zyN(x:Nat)(a:x<4294967296):bits BinOp.or IntKind.u64 ((x:Int)*2) 1=((2*x+1:Nat):Int):=by
 have:=zyt x true Q0
 rw[show IntKind.u64.wrap ((x:Int)*2)=(x:Int)*2 by rw[Nb];omega] at this
 exact this
theorem zzQ(w:World)(l:List UInt8)(k:Nat)(F:k<16) :
 Qk 121 #[.agg (EL l),Qi (k:Nat)] w λe z=>e=.returned (.int .u64 (B.num (ED l k):Nat))/\Qb w z:=by
 obtain⟨S,c⟩:=Qe (EL l);rw[c];have h:=Aa c;clear c;have o:(Tryz.prog.info? 166).map (·.size)=some S.size:=by rw[<-h.out,OI];exact Xb
 have E:=Aa o;clear o
 go_enter Tryz.func121,Tryz.ntmps121
 go_wp2
 have m:Qg (w.alloc (.cells S 166)) w.heap.size S 166:=Am _ _ _ rfl;have t:=Aa m;clear m
 go_loopw [4,6] (λv i wr=>∃j:Nat,j<=16/\i=Qi j/\v=.int .u64 (B.num ((ED l k).take j):Nat)/\Hid (wr=w.alloc (.cells S 166))) (λ_ i _=>16-(intOf i).toNat)
 case atStart=>exact⟨0,BI _,rfl,rfl,Aa rfl⟩
 case round =>
  obtain⟨j,p,rfl,rfl,a⟩:=hrel
  by_cases C:j<16
  ·have d:=B.num_lt ((ED l k).take j)
   rw[BO,O6,Fs p] at d;have D:B.num ((ED l k).take j)<65536:=Iy d (Jj Q0 (show j<=16 from p))
   clear d;have q:=zua l k j C;obtain⟨x,f⟩:=Qe (B.num ((ED l k).take j));obtain⟨b,g⟩:=Qe (EQ l (16*k+j));have s:B.num ((ED l k).take (j+1))=2*x+b.toNat:=by rw[q,B.num_snoc,f,g]
   have u:Qc (w.alloc (.cells S 166)) w.heap.size (16*k+j) (.bool (EQ l (16*k+j))):=(Ae t.out (16*k+j)).trans (by rw[<-h.out];exact Qd l (16*k+j) Q0)
   rw[g,<-a.out,show 16*k+j=k*16+j by omega] at u
   rw[f] at D |-;have G:IntKind.u64.wrap ((x:Int)*2)=(x:Int)*2:=by rw[Nb];omega
   have A:=Aa (zyN x Q0)
   have r:=Aa s;clear q f g s;have H:((k:Int)*16+(j:Int)).toNat=k*16+j:=Q0
   cases b with
   | true =>
     go_wp2
     go_roundw
     case rel=>exact⟨j+1,Q0,by go_num,by rw[r.out,A.out];rfl,a⟩
     case measure=>simp[intOf];omega
   | false =>
     go_wp2
     go_roundw
     case rel=>exact⟨j+1,Q0,by go_num,by rw[r.out,Int.mul_comm];simp,a⟩
     case measure=>simp[intOf];omega
  ·obtain rfl:j=16:=Q0
   go_wp2
   go_ret
   refine⟨JD (by rw[BR (by rw[O6];exact Af _)]),?_⟩
   rw[a.out];exact(Ag _ _).alloc (Af _) _
theorem zim(l:List UInt8)(n:Nat)(p:Nat->Bool):(EZ p n).length<=n:=by rw[YA];exact Sk _ _
theorem zzA(c:Nat)(h:c<256):((UInt8.ofNat c).toNat:Int)=(c:Int):=by simp;omega
theorem zlA(c:Nat)(h:c<256):byteCells [UInt8.ofNat c]=[.int .u8 (c:Int)]:=by
 unfold byteCells;rw[Dz,zzA c h];rfl
def Ap(w:World)(b:Nat)(v:Value)(a:List UInt8):Prop:=w.ownsRow b 5 1 v a.length (byteCells a)
theorem Ap.nil(w:World)(a:Nat):Ap w a (.slice none 0 0) []:=⟨by simp[byteCells],.inl ⟨rfl,rfl⟩⟩
theorem Ap.shape(h:Ap w d x e):∃q c,x=.slice q e.length c:=by
 rcases h.2 with⟨rfl,a⟩|⟨g,f,i,rfl,_⟩
 ·have:=h.1
  rw[a] at this;rw[L9] at this;have b:e.length=0:=by simpa using this
  rw[b];exact⟨_,_,rfl⟩
 ·exact⟨_,_,rfl⟩
theorem Tv{rest:List Oper}{e:Oper}(G:e.guard=none)(s x:Operand)
 (A:e.op=.call { callee:=.builtin .append,args:=#[s,x],argTypes:=#[89,89] })
 (d:Nat) (v:Value) (a:List UInt8) (C:o.eval s=v) (K:Ap w d v a)
 (k:Nat) (c:Nat) (t:c<256) (D:o.eval x=Qs k 0 1 1) (B:Qg w k #[.int .u8 (c:Int)] 5)
 (M:a.length<=1099511627776) (L:d<=w.heap.size)
 (h:∀q f b,Ap b d (.slice q (a.length+1) f) (a++[UInt8.ofNat c])->w.grownBy b v.ownBlock->((Value.slice q (a.length+1) f).ownBlock=v.ownBlock\/(Value.slice q (a.length+1) f).ownBlock=some w.heap.size)->wpList Tryz.prog ops Q rest (o.put e.dst (.slice q (a.length+1) f)) b) :
 wpList Tryz.prog ops Q (e::rest) o w:=by
 obtain⟨E,z,H,I,J⟩:=Ie TT;refine Tu G s x 89 A d 5 E (.int .u8 0) 1 1 Lt z H I J rfl Q5 v a.length (byteCells a) C K (k+1) 1 _ (byteCells [UInt8.ofNat c]) D ?_ (Yn _) (by unfold maxLen;omega) Q0 L ?_
 ·refine⟨by simp[byteCells],_,1,rfl,Af _,by simp[maxLen],λ_=>⟨k,0,rfl,Kj _,λi u j=>?_⟩⟩
  rw[zlA c t] at j;rw[DC,Ae B,<-j];simp
 ·intro F b m p r
  have g:Ap b d F (a++[UInt8.ofNat c]):=by
   unfold Ap;rw[Yi];simpa using m
  obtain⟨q,l,rfl⟩:=g.shape;rw[show(a++[UInt8.ofNat c]).length=a.length+1 by simp] at*
  exact h q l b g p r
theorem TI{b:Nat}(h:Ap w b x e){m:Nat}(a:x.ownBlock=some m):b<=m:=by
 rcases h.2 with⟨rfl,_⟩|⟨g,d,f,rfl,c,_⟩
 ·simp[Value.ownBlock] at a
 ·obtain rfl:g=m:=by simpa [Value.ownBlock] using a
  exact c
theorem zr4(h:p n=true):EZ p (n+1)=EZ p n++[UInt8.ofNat n]:=by rw[Ns,h];rfl
theorem zva(h:p n=false):EZ p (n+1)=EZ p n:=by rw[Ns,h];simp
theorem zkR(a:Array Value)(k:Nat)(b:Bool)(d:k<256)(e:a.size=256)(h:a[k]?=some (.bool b))(W:World):(Instr.index 166 (.agg a) (Qi (k:Int))).run Tryz.prog W=.ok (.bool b) W:=by
 have c:(sizeOf 4).run Tryz.prog W=.ok 1 W:=Q2
 simp[Instr.index,Kl Oq,asIntOf,part,c,d,h,go_sem]
theorem VJ(w:World)(s:ByteArray)(z:s.size<=1000000) :
 Qk 32 #[.string s] w λe B=>e=.returned (.string ⟨(Bq s.data.toList).toArray⟩)/\Qb w B:=by
 have C:=Aa (zyQ s w z);unfold Bq;generalize s.data.toList=l at*
 obtain⟨S,f⟩:=Qe (EL l);rw[f] at C;have m:=Aa f;clear f;have q:S.size=256:=by rw[<-m.out];exact OI _
 have E:=Aa q;clear q
 go_enter Tryz.func32,Tryz.ntmps32
 go_wp2_with fail
 refine C.out.mono ?_;rintro e p ⟨rfl,c⟩;have D:=Aa c;clear c C
 go_wp2_with fail
 go_loopw [3,8] (λA h wr=>∃k:Nat,k<=256/\h=Qi k/\Ap wr w.heap.size A (EZ (EQ l) k)/\Qb w wr) (λ_ h _=>256-(intOf h).toNat)
 case atStart=>exact⟨0,BI _,rfl,Ap.nil _ _,D.out⟩
 case round =>
  obtain⟨k,J,rfl,t,a⟩:=hrel;have d:=Aa t;have N:=a.size;have M:=zim l k (EQ l);clear t
  by_cases i:k<256
  ·have G:∀W,(Instr.index 166 (.agg S) (Qi (k:Int))).run Tryz.prog W=.ok (.bool (EQ l k)) W:=by
    have v:S[k]?=some (.bool (EQ l k)):=by rw[<-m.out];exact Qd l k i
    exact zkR S k _ i E.out v
   obtain⟨b,g⟩:=Qe (EQ l k);rw[g] at G;have o:=Aa g;clear g;cases b with
   | true =>
     go_wp2_with
      (at_builtin
       refine Tv rfl _ _ rfl w.heap.size _ (EZ (EQ l) k) rfl (d.out.alloc _) wr.heap.size k i rfl (Am _ _ _ rfl) Q0 Q4 ?_
       intro K I p u r F;have H:=Aa u;have c:Qb w p:=(a.alloc Q0 _).grown r Q4 (λj x=>TI d.out x)
       clear r F u)
     go_roundw
     case rel=>exact⟨k+1,Q0,by go_num,by rw[zr4 o.out];exact H.out,c⟩
     case measure=>simp[intOf];omega
   | false =>
     go_wp2_with fail
     go_roundw
     case rel=>exact⟨k+1,Q0,by go_num,by rw[zva o.out];exact d.out,a⟩
     case measure=>simp[intOf];omega
  ·obtain rfl:k=256:=Q0
   have L:=M8 _ d.out
   go_wp2_with fail
   go_ret
   exact⟨rfl,a⟩
def Bc(Q:Exit->Act->World->Prop):Exit->Act->World->Prop
 | .normal,a,w=>Q .normal a w
 |_,_,_=>False
theorem Bc.normal(h:Q .normal o w):Bc Q .normal o w:=h
theorem Bc.lets:¬ LetsOut (Bc Q):=λ⟨_,_,h⟩=>h
def UM(ops:Array Oper):Bool:=ops.all λo=>match o.op with| .defer _=>false|_=>true
theorem znA(h:UM ops=true){i:Nat}{o:Oper}(d:ops[i]?=some o):∀c,o.op≠.defer c:=by
 intro c b;have e:o∈ops:=Array.mem_of_getElem? d;have a:=(SA.1 h) o e;rw[b] at a;cases a
theorem zoq{P:Program}{a:String}{h:Array Value}{R:Value->World->Prop}(y:Nat)(b:Rows P a h w R) :
 RowsIn (Fence.wide.inRound y) n P a h w R:=λc d _=>by
 obtain⟨v,e,r,s⟩:=b c d;exact⟨v,e,r,stepsIn_wide.2 s⟩
section
variable {P:Program} {ops:Array Oper} {Q:Exit->Act->World->Prop} {md:Region.Mode} {S:World->Prop} {n y:Nat}
theorem zs7{i:Nat}(m:UM ops=true){K k:Act->World->Prop}{o:Act}{w:World}(a:∀o w,K o w->k o w)
 (h:wpOp P ops (Bc Q) i K o w):wpOpIn (Fence.wide.inRound y) n P ops Q i k o w:=by
 unfold wpOp at h;unfold wpOpIn;cases ho:ops[i]? with
 |none=>simp only[ho] at h |-;exact a _ _ h
 | some j =>
   simp only[ho] at h |-
   by_cases l:Region.wanted j (yielded ops o.tmps)=true
   ·simp only[l,L5] at h |-
    rcases h with h|⟨_,h⟩
    ·refine⟨λ_ _=>trivial,?_⟩
     rw[Oper.semAt_plain _ _ _ (znA m ho)];unfold Oper.wp at h;generalize(execOp o.eval j).run P w=r at h;cases r with
     | ok x p =>
       cases x<;>simp only[Oper.upon] at h<;>simp only[Oper.uponIn]
       case value v=>exact a _ _ h
       case skip=>exact a _ _ h
       case defer d=>exact a _ _ h
       case enter f args =>
        refine⟨λg=>by simp[Fence.wide] at g,CallsIn.inRound y (Em.2 (h.mono ?_))⟩
        intro e q b;cases e with
        |returned v=>exact a _ _ b
        |panicked c=>exact b.elim
        |outgrown=>exact(Bc.lets b).elim
       case row row args=>exact⟨λg=>by simp[Fence.wide] at g,zoq y (h.mono λ_ _ b=>a _ _ b)⟩
     | halt x p =>
       cases x<;>simp only[Oper.upon] at h<;>simp only[Oper.uponIn]
       case panic v=>exact h.elim
    ·exact(Bc.lets h).elim
   ·simp only[l] at h |-
    exact⟨λ_ _=>trivial,a _ _ h⟩
theorem ZY(c:UM ops=true):∀(b:Nat)(d:Array Bool)(a:Act)(w:World),wpAny P md ops (Bc Q) b d a w ->
 wpAnyIn (Fence.wide.inRound y) n P md ops Q b d a w
 |0,_,_,_,h=>⟨h.1,h.2⟩
 |b+1,_,_,_,h=>⟨λj=>h.1 j,λi g=>zs7 c (λe k f=>ZY c b _ e k f) (h.2 i g)⟩
theorem Ye(c:P.follows .mixedOrders=true)(b:UM ops=true)
 (h:S w.drew->wpAnyH P .any ops (Bc Q) S ops.size (Array.replicate ops.size false) o w.drew) (a:S w.drew) :
 (Code.region d ops true).wpIn (Fence.wide.inRound y) n P Q o w :=
 wpIn_region_any c (ZY b _ _ _ _ (wpAny_of_held _ _ _ _ (h a)))
end
end Go.Proofs.YtoejfkeofbdalaaGreatDoor
namespace Go.Proofs.YtoejfkeofbdalaaGreatDoor
open Go.RowKit Go.Shelf
variable {b:Type} {w:World}
def C5(b:Nat->Prop)(W a:World):Prop:=Ao b W a/\KeepsWalks W a
theorem C5.trans{a:Nat->Prop}{v u:World}(h:C5 a w v)(k:C5 a v u):C5 a w u:=⟨h.1.trans k.1,h.2.trans k.2⟩
theorem C5.put{d:Nat->Prop}{r:Nat}{o:Obj}(a:Obj)(h:Qh w r o)(b:o.isCells=false)(c:o.isWalk=false):C5 d w (w.putObj r a):=⟨Ao.put a h b,KeepsWalks.putObj a h c⟩
def PK{b:Type}(n:Nat)(g:Nat)(h:Array Value)(k:b->Array Value)(j:Nat->Prop)(S:List b->Prop)(N:Nat)(i:World):Prop :=
 ∀(l:Nat)(J:List b->World->Prop)(W:World),Qb i W->AbidesFrom W.heap.size J ->
  (∀d x c,J d c->d.length<N->YieldAt Fence.wide (n-1) Tryz.prog l (k x) c λe a=>e=.returned (.bool true)/\J (d++[x]) a/\C5 j c a)->
  J [] W->CallsIn Fence.wide n Tryz.prog g (#[.func (.yield l) #[] #[]]++h) W λe a=>(∃v,e=.returned v)/\∃f,S f/\J f a
variable {n:Nat}
theorem zzi{c:Type}{j:FuncId}{tmps:Array Value}{g:Array Tmp}{i h:Go.Code}{D:Nat}{r:c->Array Value}(T:∀x,(r x).size=g.size)(m:Nat->Prop)
 (I:List c->World->Prop) (u:OwnFrom D I) (o:c->Act->World->Prop) (C:∀x b,OwnFrom D (λ(_:Unit) W=>o x b W)) (N:Nat)
 (X:∀(a:List c)(x:c)(W:World)(K:Act->World->Prop),I a W->D+1<W.heap.size->(∀b d,KeepsFrom D W d->C5 m W d->I a d->o x b d->K b d)->
   i.wpIn (Fence.wide.inRound (D+1)) n Tryz.prog (Exit.then K (λ_ _ _=>False)) { tmps:=(g.zip (r x)).foldl (λt (p,v)=>t.setIfInBounds p v) tmps,defers:=[] } W)
 (V:∀(a:List c)(x:c)(b:Act)(W:World),I a W->o x b W->D+1<W.heap.size->a.length<N->h.wpIn (Fence.wide.inRound (D+1)) n Tryz.prog (ownPostG D (C5 m) I (λ_ _ _=>False) (a++[x]) W) b W)
 (a:List c) (x:c) (W:World) (A:I a W/\Bf D (DT j tmps g i h D .ready none) W) (U:a.length<N) :
 YieldAt Fence.wide n Tryz.prog (D+1) (r x) W λe d=>e=.returned (.bool true)/\(I (a++[x]) d/\Bf D (DT j tmps g i h D .ready none) d)/\C5 m W d:=by
 obtain⟨B,q⟩:=A;have R:=Aj q.1;refine⟨j,_,i,h,run_yield q.1 (T x),roundIn_of_wpIn trivial (X a x W _ B R ?_)⟩;intro b z M F J E;have k:=q.from rfl M
 refine⟨_,run_beginRound k.1 rfl,?_⟩;have w:=k.put (DT j tmps g i h D .busy none);refine wpIn_mono (V a x b _ (u.putObj _ J Q0 k.1 rfl) ((C x b).putObj (s:=()) _ E Q0 k.1 rfl) (Aj w.1) U) ?_
 have H:C5 m W (z.putObj (D+1) (DT j tmps g i h D .busy none)):=F.trans (C5.put _ k.1 rfl rfl);rintro e Z Y f;cases e with
 | normal =>
   obtain⟨O,G,L⟩:=f;have l:=w.from rfl O
   exact⟨_,_,M0 none l.1,rfl,⟨u.putObj _ L Q0 l.1 rfl,l.put _⟩,(H.trans G).trans (C5.put _ l.1 rfl rfl)⟩
 |ret=>exact f.2.elim
 |exit a0=>exact f.2.elim
 |goto t=>exact f.2.elim
 |panic ch=>exact f.elim
 |outgrown=>exact f.elim
theorem zz1{g:Operand}{j:Array Tmp}{z u:Go.Code}{Q:Exit->Act->World->Prop}{o:Act}(Z:1<=n)
 {gf:Nat} {lb:Array Value} (hg:o.eval g=.func (.func gf) #[] lb) (X:Enters Tryz.prog gf) {encs:b->Array Value} (a4:∀x,(encs x).size=j.size) (G:Nat->Prop) {S:List b->Prop} {m:Nat} {v:World}
 (a8:PK (n-1) gf lb encs G S m v) (R:Qb v w)
 (I:List b->World->Prop) (E:OwnFrom w.heap.size I) (Y:I [] w) (B:b->Act->World->Prop) (a2:∀x f,OwnFrom w.heap.size (λ(_:Unit) W=>B x f W))
 (b1:∀(l:Nat)(a:List b)(x:b)(W:World)(K:Act->World->Prop),I a W->w.heap.size+1<W.heap.size->(∀f q,KeepsFrom w.heap.size W q->C5 G W q->I a q->B x f q->K f q)->
   z.wpIn (Fence.wide.inRound l) (n-1-1) Tryz.prog (Exit.then K (λ_ _ _=>False)) { tmps:=(j.zip (encs x)).foldl (λt (p,N)=>t.setIfInBounds p N) o.tmps,defers:=[] } W)
 (a9:∀(l:Nat)(a:List b)(x:b)(f:Act)(W:World),I a W->B x f W->w.heap.size+1<W.heap.size->a.length<m->u.wpIn (Fence.wide.inRound l) (n-1-1) Tryz.prog (ownPostG w.heap.size (C5 G) I (λ_ _ _=>False) (a++[x]) W) f W)
 (b0:∀(D:Nat)(F:List b)(W:World),w.heap.size<=D->S F->I F W->Qh W D (.deferred (some []))->Q .normal { o with defers:={ target:=.collected D,args:=#[] }::o.defers } W) :
 (Code.rangeFunc g j z u).wpIn Fence.wide n Tryz.prog Q o w:=by
 refine wpIn_rangeFunc ?_;intro H b4;obtain⟨d,M⟩:=Qe ((w.alloc (.deferred (some []))).alloc (DT H o.tmps j z u w.heap.size .ready none));have L:Qb w d:=by rw[<-M];exact((Ag _ w).alloc (Af _) _).alloc Q6 _
 have a3:Bf w.heap.size (DT H o.tmps j z u w.heap.size .ready none) d:=by
  rw[<-M];exact⟨Am _ _ _ Q6,Bb _ (Am _ _ _ rfl)⟩
 refine⟨w.heap.size+1,[{ target:=.collected w.heap.size,args:=#[] }],d,{ target:=.fn (.func gf) lb,args:=#[.func (.yield (w.heap.size+1)) #[] #[]] },d,gf,
  #[.func (.yield (w.heap.size+1)) #[] #[]]++lb,d,?_,?_,?_,?_,λ_=>Z,?_⟩
 ·rw[<-M];exact SS _ _ _ _ _
 ·simp only[resolve,hg]
  simp[go_sem]
 ·intro b3 T;simp[Target.leads] at T;subst T;trivial
 ·have:=X
  unfold Enters at this;simp[invoke,go_sem,this]
 ·have a5:w.heap.size<=d.heap.size:=L.size
  refine(a8 (w.heap.size+1) (λa W=>I a W/\Bf w.heap.size (DT H o.tmps j z u w.heap.size .ready none) W) d (R.trans (L.mono R.size))
   (λs A C a6 h U i=>by
     have V:∀(k:Nat)(c:Obj),Qh A k c->c.isWalk=false->Qh C k c:=λk c O J=>(grownBy_keeps U (λr e=>(i r e).2) O J).trans O;refine⟨E s A C a6 h.1 U λr e=>⟨BU a5 (i r e).1,?_⟩,V _ _ h.2.1 rfl,V _ _ h.2.2 rfl⟩;obtain⟨-,c,J,hw⟩:=i r e;exact⟨c,J,by cases c<;>first|rfl|(simp[Obj.isWalk] at hw)⟩)
   (λa x W a0 a7=>zzi a4 G I E B a2 m (b1 _) (a9 _) a x W a0 a7) ⟨Nr E Y L,a3⟩).mono ?_
  rintro e b2 ⟨⟨N,rfl⟩,F,a1,hi,i⟩;exact⟨none,_,Ox i.1 Q6,b0 _ F _ (Af _) a1 (E.putObj _ hi Q0 i.1 rfl) ((GK Q0).trans i.2)⟩
