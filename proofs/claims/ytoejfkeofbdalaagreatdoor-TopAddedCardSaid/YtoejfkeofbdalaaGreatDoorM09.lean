import Derived.Test.YtoejfkeofbdalaaGreatDoorM08
import Derived.Deep.RegionHeld3
import Derived.Lib.Split
import Derived.Lib.ItoaNum
import Derived.Lib.Atoi
import Derived.Lib.Strings
set_option linter.all false
set_option maxRecDepth 100000
set_option maxHeartbeats 8000000
namespace Go.Proofs.YtoejfkeofbdalaaGreatDoor
open Go.RowKit
variable {f:List Nat}
def rest(s:List UInt8)(a:Nat):List Bool:=B.slice s a (8*s.length-a)
theorem O4(s:List UInt8)(a:Nat):(rest s a).length=8*s.length-a:=B.length_slice _ _ _
theorem U9(s:List UInt8)(a:Nat)(h:8*s.length<=a):rest s a=[]:=Ey (by rw[O4];omega)
theorem U7(s:List UInt8)(a n:Nat)(h:a+n<=8*s.length):rest s a=B.slice s a n++rest s (a+n):=by
 unfold rest;rw[<-B.slice_append,show n+(8*s.length-(a+n))=8*s.length-a by omega]
theorem WK(s:List UInt8)(a:Nat)(h:a<8*s.length):rest s a=B.bitAt s a::rest s (a+1):=by
 rw[U7 s a 1 Q0]
 rfl
theorem Sa(s:List UInt8)(a:Nat):B.num (B.slice s a 1)=if B.bitAt s a then 1 else 0:=by
 rw[show B.slice s a 1=[B.bitAt s a] from rfl]
 cases B.bitAt s a<;>rfl
def En(l:List Nat)(n:Nat):List Nat:=(List.range l.length).filter λs=>l[s]? ==some n
def IR(l:List Nat)(n i:Nat):List Nat:=(List.range i).filter λs=>l[s]? ==some n
theorem VI(l:List Nat)(n i:Nat):IR l n (i+1)=IR l n i++if l[i]?=some n then[i] else[]:=by
 unfold IR;rw[Fh,P6]
 by_cases h:l[i]?=some n
 ·rw[if_pos h];simp[h]
 ·rw[if_neg h];simp[h]
theorem Yy(l:List Nat)(n i:Nat)(b:i<=l.length):(IR l n i).length=(l.take i).count n:=by
 induction i with
 |zero=>rfl
 | succ i a =>
   rw[VI,AJ,a Q0,Ep Q0,Oo,Az Q0]
   by_cases h:l[i]=n
   ·simp[h]
   ·simp[h]
theorem Nq(l:List Nat)(n:Nat):(En l n).length=l.count n:=by
 have:=Yy l n l.length (Af _);rw[Gp] at this;exact this
theorem zmF(l:List Nat)(n s:Nat):s∈En l n↔l[s]?=some n:=by
 simp only[En,Lu,EB,FQ]
 constructor
 ·exact λh=>h.2
 ·exact λh=>⟨(Cc.1 h).1,h⟩
theorem Yl(l:List Nat)(n:Nat):(En l n).length<=l.length:=by rw[Nq];exact Mq
theorem TR(l:List Nat)(n s:Nat)(h:l[s]?=some n):(En l n)[(l.take s).count n]?=some s:=by
 have b:=(Cc.1 h).1;obtain⟨d,a⟩:∃d,l.length=s+1+d:=⟨l.length-(s+1),Q0⟩
 have e:En l n=IR l n s++([s]++((List.range d).map λj=>s+1+j).filter λt=>l[t]? ==some n):=by
  unfold En;rw[a,List.range_add,P6,Fh,P6];unfold IR;simp[h]
 rw[e,<-Yy l n s Q0,F7 (Af _),Ow]
 rfl
def Gv(l:List Nat)(s:Nat):Nat:=2*Cg l ((l[s]?.getD 0)-1)+(l.take s).count (l[s]?.getD 0)
def EI(l:List Nat)(k:Nat):List Nat:=(List.range (k+1)).filter λn=>decide (1<=n)&& decide (0<l.count n)
theorem R5(l:List Nat)(k:Nat):EI l (k+1)=EI l k++if 0<l.count (k+1) then[k+1] else[]:=by
 unfold EI;rw[Fh,P6];congr 1
 by_cases h:0<l.count (k+1)
 ·rw[if_pos h,Tg,Bl h];simp
 ·rw[if_neg h,Tg,AV h];simp
theorem Rx(l:List Nat)(k n:Nat):n∈EI l k↔1<=n/\n<=k/\0<l.count n:=by
 simp only[EI,Lu,EB,GP,Fj];omega
theorem VH(l:List Nat){n m:Nat}(h:n<=m):EI l n <+: EI l m:=by
 induction h with
 |refl=>exact List.prefix_refl _
 |step _ a=>exact a.trans (by rw[R5];exact List.prefix_append _ _)
def Ha(l:List Nat)(u:List UInt8)(a:Int):List Nat->Except Int (Nat × Int)
 | []=>.error 3
 | n::ns =>
   if Ew u a n≠0 then .error (Ew u a n)
   else if 2*Cg l (n-1)<=(Ed u a n).toNat/\(Ed u a n).toNat<2*Cg l (n-1)+l.count n then .ok ((En l n)[(Ed u a n).toNat-2*Cg l (n-1)]?.getD 0,a+n)
   else Ha l u a ns
def La(l:List Nat)(u:List UInt8)(a:Int):Except Int (Nat × Int):=Ha l u a (EI l 20)
def JG(l:List Nat)(u:List UInt8)(a:Int)(n:Nat):Prop :=
 Ew u a n=0/\¬ (2*Cg l (n-1)<=(Ed u a n).toNat/\(Ed u a n).toNat<2*Cg l (n-1)+l.count n)
theorem VR{e:List UInt8}{g:Int}{B:List Nat}(h:∀n∈B,JG f e g n)(b:List Nat):Ha f e g (B++b)=Ha f e g b:=by
 induction B with
 |nil=>rfl
 | cons n B i =>
   have a:=h n Q6
   rw[Di,Ha,if_neg (by rw[a.1];simp),if_neg a.2,i λm d=>h m (by simp[d])]
def IW(l:List Nat)(s:Nat):List Bool:=B.low (Gv l s) (l[s]?.getD 0)
def Gw(l:List Nat)(m:List Nat):List Bool:=m.flatMap (IW l)
theorem YY(l:List Nat)(s:Nat):(IW l s).length=l[s]?.getD 0:=B.length_low _ _
theorem ztb(h:JX f)(s:Nat):f[s]?.getD 0<=20:=by
 cases hs:f[s]? with
 |none=>simp
 |some x=>exact(h x (Cn hs)).2
theorem Yx(h:JX f)(m:List Nat):(Gw f m).length<=20*m.length:=by
 induction m with
 |nil=>simp[Gw]
 | cons s m a =>
   have e:Gw f (s::m)=IW f s++Gw f m:=by simp[Gw]
   have:=ztb h s;rw[e,AJ,YY,Bt];omega
theorem zqq(h:Code f){n m:Nat}(a:f[n]?=some m):Gv f n<2 ^ m:=by
 have d:=h.fits m (Cn a);obtain⟨k,rfl⟩:∃k,m=k+1:=⟨m-1,Q0⟩
 have b:=U8 f h.fits h.room (k+1) d.2;rw[Cg] at b;have i:=(Cc.1 a).1
 have g:(f.take n).count (k+1)<f.count (k+1):=by
  have e:f=f.take n++(k+1)::f.drop (n+1):=by
   have:=(Cc.1 a).2;rw[<-this,List.getElem_cons_drop,Er]
  have:f.count (k+1)=(f.take n++(k+1)::f.drop (n+1)).count (k+1):=by rw[<-e]
  rw[this,Oo,Od];simp
 unfold Gv;rw[a];simp only[Es,Mm];omega
end Go.Proofs.YtoejfkeofbdalaaGreatDoor
namespace Go.Proofs.YtoejfkeofbdalaaGreatDoor
end Go.Proofs.YtoejfkeofbdalaaGreatDoor
namespace Go.Proofs.YtoejfkeofbdalaaGreatDoor
open Go.RowKit
variable {k m n:Nat} {l:List Int} {v w:World}
variable {W c c':World}
section
variable {P:Program} {ops:Array Oper} {Q:Exit->Act->World->Prop} {md:Region.Mode} {S:World->Prop}
theorem EX(i:Nat){a:Oper}{v:Value}{n:Nat}{d:Array Bool}{o:Act}{w:World}(g:ops[i]?=some a)
 (b:(Region.noSelect ops && Region.free md ops d i && (Region.ready md ops d).contains i)=true)
 (e:∀c o w,Q (.panic c) (o.put a.dst v) w->Q (.panic c) o w) (k:Region.wanted a (yielded ops o.tmps)=true) (f:S w)
 (j:∀w,S w->(execOp o.eval a).run P w=.ok (.value v) w)
 (h:wpAnyH P md ops Q S n (d.setIfInBounds i true) (o.put a.dst v) w):wpAnyH P md ops Q S (n+1) d o w:=by
 simp only[GP] at b;exact wpAnyH_take g b.1.1 b.1.2 b.2 e (Or.inl ⟨k,j⟩) f h
theorem Jp(i:Nat){a:Oper}{n:Nat}{b:Array Bool}{o:Act}{w:World}(e:ops[i]?=some a)
 (f:Region.ready md ops b=[i]) (g:Region.wanted a (yielded ops o.tmps)=true)
 (h:∀K:Act->World->Prop,Shut (∀o w,S w->(S w->wpAnyH P md ops Q S n (b.setIfInBounds i true) o w)->K o w)->Oper.wp P a o w K Q) :
 wpAnyH P md ops Q S (n+1) b o w :=
 wpAnyH_ready f Q6 (AllReadyH.cons e (λK d=>by rw[if_pos g];exact h K d) AllReadyH.nil)
end
structure Ab(k:Nat)(w w':World):Prop where
 os:w'.os=w.os
 tape:w'.tape=w.tape
 output:w'.output=w.output
 size:w.heap.size<=w'.heap.size
 block:∀j,j<w.heap.size->j≠k->w'.heap[j]?=w.heap[j]?
theorem Ab.refl(k:Nat)(w:World):Ab k w w:=⟨rfl,rfl,rfl,Af _,λ_ _ _=>rfl⟩
theorem Ab.of(h:Qb w v):Ab k w v:=⟨h.os,h.tape,h.output,h.size,λj a _=>h.block j a⟩
theorem Ab.trans{c:World}(h:Ab n w v)(g:Ab n v c):Ab n w c :=
 ⟨g.os.trans h.os,g.tape.trans h.tape,g.output.trans h.output,BU h.size g.size,λj a b=>(g.block j (Iy a h.size) b).trans (h.block j a b)⟩
theorem Ab.set(h:Ab k w v)(i:Nat)(u:Value):Ab k w (v.setCell ⟨k,i,none⟩ u) :=
 h.trans ⟨rfl,rfl,rfl,by simp[World.setCell],λj b a=>Bg _ _ _ _ a⟩
theorem Ab.below(h:Ab n w v)(d:m<=n)(a:m<=w.heap.size):Below m w v:=⟨h.os,h.tape,h.output,h.size,λj b=>h.block j Q0 Q0⟩
theorem Ab.bel{w0 u:World}(h:Ab n v u)(a:Below m w0 v)(d:m<=n)(b:m<=w0.heap.size):Below m w0 u:=a.trans (h.below d (BU b a.size))
theorem Ab.other{o:Obj}(h:Ab n w v)(a:Qh w m o)(b:m≠n):Qh v m o:=(h.block m (Aj a) b).trans a
def F3(x y:Int):Int:=if x<y then -1 else if y<x then 1 else 0
theorem zv0(x:Int)(w:World):Qk 213 #[Qi x] w λe a=>e=.returned (.bool false)/\w=a:=by
 go_enter Tryz.func213,Tryz.ntmps213
 go_wp2_with fail
 go_ret
 exact⟨Q6,rfl⟩
theorem Z0(x y:Int)(w:World):Qk 148 #[Qi x,Qi y] w λe f=>e=.returned (Qi (F3 x y))/\w=f:=by
 have g:=Aa λx W=>zv0 x W;have k:∃z,F3 x y=z:=⟨_,rfl⟩;obtain⟨z,d⟩:=k;rw[d];have b:=Aa d;clear d
 go_enter Tryz.func148,Tryz.ntmps148
 go_wp2_with fail
 refine(g.out _ _).mono ?_;rintro e f ⟨rfl,rfl⟩
 go_wp2_with fail
 refine(g.out _ _).mono ?_;rintro e f ⟨rfl,rfl⟩;rcases Int.lt_trichotomy x y with h|h|h
 ·have i:decide (x<y)=true:=Bl h
  have a:z = -1:=by have:=b.out;rw[F3,if_pos h] at this;exact this.symm
  subst a
  go_wp2_with fail
  go_ret
  exact⟨rfl,rfl⟩
 ·have i:decide (x<y)=false:=AV Q0
  have j:decide (y<x)=false:=AV Q0
  have a:z=0:=by have:=b.out;rw[F3,if_neg Q0,if_neg Q0] at this;exact this.symm
  subst a;clear h
  go_wp2_with fail
  go_ret
  exact⟨rfl,rfl⟩
 ·have i:decide (x<y)=false:=AV Q0
  have j:decide (y<x)=true:=Bl h;have a:z=1:=by have:=b.out;rw[F3,if_neg Q0,if_pos h] at this;exact this.symm
  subst a
  go_wp2_with fail
  go_ret
  exact⟨rfl,rfl⟩
theorem zzX(s:ByteArray)(a:Nat)(W:World)(f:s.size<=1099511627776)(h:a<8*s.size) :
 Qk 231 #[.string s,Qi (a:Nat),Qi 1] W λe b=>e=.returned (.tuple #[.int .u64 (if B.bitAt s.data.toList a then 1 else 0:Nat),Qi 0])/\W=b:=by
 have d:s.data.toList.length=s.size:=by simp
 have:=NA s a (1:Nat) W Q0
 rw[Sg _ a 1 Q0 Q0,Si _ a 1 Q0 Q0,Sa] at this
 exact this
theorem zmK(s:ByteArray)(a n:Nat)(W:World)(g:s.size<=1099511627776)(f:n<=64)(h:8*s.size<a+n) :
 Qk 231 #[.string s,Qi (a:Nat),Qi (n:Nat)] W λe d=>e=.returned (.tuple #[.int .u64 0,Qi 2])/\W=d:=by
 have b:s.data.toList.length=s.size:=by simp
 have:=NA s a n W Q0
 rw[show Ew s.data.toList a n=2 by unfold Ew;rw[if_neg Q0,if_pos (by rw[b];omega)],show Ed s.data.toList a n=0 by unfold Ed;rw[if_neg Q0,if_pos (by rw[b];omega)]] at this
 exact this
theorem N0{P:Program}{f:FuncId}{h:Array Value}{x:Value}
 (a:Calls P f h (w.drewN n) λe g=>e=.returned x/\w.drewN n=g):Calls P f h (w.drewN n) λe i=>e=.returned x/\∃m,i=w.drewN m :=
 a.mono λ_ _ ⟨b,d⟩=>⟨b,n,d.symm⟩
theorem zxF(a b:Bool):(NR a !=NR b)=(a !=b):=by cases a<;>cases b<;>rfl
attribute [go_sem] zxF
theorem Ad.place{x:Value}(h:Ad w n x l)(o:0<l.length) :
 ∃g d,x=Qs g 0 l.length d/\n<=g/\g<w.heap.size/\(∀j,j<l.length->Qc w g j (Qi (l[j]?.getD 0)))/\(∀j,w.frozen? ⟨g,j,none⟩=false)/\
  (∀(j:Nat)(a:Int),Ad (w.setCell ⟨g,j,none⟩ (Qi a)) n (Qs g 0 l.length d) (l.set j a)/\w.grownBy (w.setCell ⟨g,j,none⟩ (Qi a)) (some g)):=by
 rcases h.2 with⟨rfl,e⟩|⟨g,d,p,rfl,i,k,_⟩
 ·have:=h.1
  rw[e] at this;simp at this;omega
 ·refine⟨g,d,rfl,i,Aj k,λj m=>?_,λj=>Vu h j,λj a=>?_⟩
  ·have b:=SQ h j Q0
   rw[b,getElem?_intCells,Az m];rfl
  ·have b:=SN h j (Qi a)
   refine⟨?_,b.2⟩;unfold Ad;have f:C4 (l.set j a)=(C4 l).set j (Qi a):=by simp[C4,PI]
   rw[f,Jm];exact b.1
def LB(w:World)(b:Nat)(a:List Int):Prop:=∃v,Qg w b #[v] 282/\Ad w (b+1) v a
theorem LB.lt(h:LB w n l):n<w.heap.size:=by
 obtain⟨v,a,_⟩:=h;exact Aj a
theorem LB.below(h:LB w n l)(a:Qb w v):LB v n l:=by
 obtain⟨d,b,e⟩:=h;exact⟨d,(a.block n (Aj b)).trans b,e.below a⟩
theorem Ny(w:World)(b:Nat)(a d:List Int)(u:Value)(h:LB w b a)(q:Ac w w.heap.size u d)(D:a.length+d.length<=17592186044416) :
 Qk 169 #[Qp b 0,u] w λe s=>e=.returned (.tuple #[])/\LB s b (a++d)/\Below b w s:=by
 have B:=h.lt;obtain⟨v,i,o⟩:=h;have F:Qc w b 0 v:=Ae i 0;have x:=Aa i;have n:=Aa o;have y:=Aa q;clear i o q
 go_enter Tryz.func169,Tryz.ntmps169
 go_wp2_with
  (at_builtin
   refine KN rfl _ _ rfl (b+1) v a rfl n.out w.heap.size u d rfl y.out D Q0 ?_
   intro r c' f t m C;have l:∀k,v.ownBlock=some k->b+1<=k:=λk j=>Dm n.out j;have g:Qg f b #[v] 282:=(m.block b B (λe=>by have:=l b e.symm;omega)).trans x.out
   have H:f.frozen? ⟨b,0,none⟩=false:=Ah g 0;have G:Qc f b 0 v:=Ae g 0;have A:Below b w f:=(Ag _ _).grown m Q0 (λk j=>by have:=l k j;omega)
   have z:=Aa g;have E:=Aa t;clear g t m C l)
 go_end0
 refine⟨rfl,⟨.slice r (a.length+d.length) c',?_,?_⟩,A.setCell (p:=⟨b,0,none⟩) (Af _) _⟩
 ·have:=Ak z.out 0 (.slice r (a.length+d.length) c')
  simpa using this
 ·exact Na E.out Q6 _
end Go.Proofs.YtoejfkeofbdalaaGreatDoor
namespace Go.Proofs.YtoejfkeofbdalaaGreatDoor
theorem Zq(d:List Int)(b:Pp d):∀a r,K3 a (d++r)=K3 (a++d) r:=by
 induction d with
 |nil=>intro a r;simp
 | cons x d f =>
   intro a r;have g:=b x Jh;rw[Di,K3,if_pos Q0,f (λy e=>b y (J6 _ e))]
   simp
theorem zw8(l:List Int)(b:∀x∈l,0<=x):∀n,dec (IC n l)=Fa n++l:=by
 induction l with
 | nil =>
   intro n;have:=Zq (DA n) (Uz n) [] [];rw[Eu,C6] at this;rw[IC,dec,this,K3,Ul];simp
 | cons x l a =>
   intro n;have a:=a λy d=>b y (J6 _ d);have e:=b x Jh;rw[IC];split
   ·rename_i h
    obtain rfl:x=0:=Q0
    rw[a,zur];simp[Fa]
   ·rename_i h
    rw[dec,Zq _ (Uz n),C6,K3,if_neg Q0,Ul,show x+1-1=x by omega]
    show Fa n++x::dec (IC 0 l)=_
    rw[a];simp[Fa]
theorem zzy(l:List Int)(a:∀x∈l,0<=x):dec (enc l)=l:=by
 have:=zw8 l a 0;simpa [enc,Fa] using this
end Go.Proofs.YtoejfkeofbdalaaGreatDoor
namespace Go.Proofs.YtoejfkeofbdalaaGreatDoor
open Go.RowKit
variable {m n:Nat}
def JJ(n:Int):Bool:=decide (1<=n)&& decide (n<=20)
def QG(n:Int):Bool:=decide (2<=n)&& decide (n<=258)
def H6(a n:Nat):List Bool:=(List.replicate (n-a) [true,false]).flatten++(List.replicate (a-n) [true,true]).flatten++[false]
def Jr:Nat->List Nat->List Bool
 |_,[]=>[]
 |now,n::ns=>H6 now n++Jr n ns
def FT(l:List Nat):List Bool:=B.low (l.headD 0) 5++Jr (l.headD 0) l
theorem Xg(h:n<m):H6 n m=[true,false]++H6 (n+1) m:=by
 unfold H6;rw[show m-n=(m-(n+1))+1 by omega,Oi,Oc,show n-m=0 by omega,show n+1-m=0 by omega]
 simp
theorem Wh(h:m<n):H6 n m=[true,true]++H6 (n-1) m:=by
 unfold H6;rw[show n-m=(n-1-m)+1 by omega,Oi,Oc,show m-n=0 by omega,show m-(n-1)=0 by omega]
 simp
theorem TZ(n:Nat):H6 n n=[false]:=by
 unfold H6;simp
theorem R6(a n:Nat):(H6 a n).length=2*(n-a)+2*(a-n)+1:=by
 simp[H6];omega
theorem zna(l:List Nat):∀a,a<=20->(∀n∈l,n<=20)->(Jr a l).length<=41*l.length:=by
 induction l with
 |nil=>intro a _ _;simp[Jr]
 | cons n l f =>
   intro a h b;have d:=b n Q6
   have:=f n d (λm e=>b m (by simp[e]))
   have g:=R6 a n;simp only[Jr,AJ,Bt];omega
theorem YC(l:List Nat)(b:∀n∈l,n<=20):(FT l).length<=41*l.length+5:=by
 unfold FT
 have d:l.headD 0<=20:=by
  cases l with
  |nil=>simp
  |cons a l=>exact b a Q6
 have:=zna l (l.headD 0) d b;rw[AJ,B.length_low];omega
theorem BL.set2{w W:World}{x y:Value}{t:TypeId}{e:List (Nat × Array Value × TypeId)}(h:BL w W [] ((n,#[x,y],t)::e))(f:w.heap.size<=n)(g:∀p∈e,p.1≠n)(b d:Value) :
 BL w ((W.setCell ⟨n,0,none⟩ b).setCell ⟨n,1,none⟩ d) [] ((n,#[b,d],t)::e):=by
 refine⟨⟨(h.bel.setCell (p:=⟨n,0,none⟩) f b).setCell (p:=⟨n,1,none⟩) f d,λp a=>by simp at a⟩,λp a=>?_⟩
 have i:=h.blk 0 rfl;have j:=Ak i 0 b;have k:=Ak j 1 d;rcases CZ.1 a with rfl|a
 ·simpa using k
 ·rw[Bg _ _ _ _ (g p a),Bg _ _ _ _ (g p a)]
  exact h.2 p (by simp[a])
end Go.Proofs.YtoejfkeofbdalaaGreatDoor
namespace Go.Proofs.YtoejfkeofbdalaaGreatDoor
variable {e:List UInt8}
def H7:List (List UInt8)->Int->Nat
 | [],_=>0
 |p::ps,room=>if(Ea p.length:Int)<=room then p.length+H7 ps (room-Ea p.length) else min (min room.toNat 3) p.length
def Gf(l:List UInt8)(a:Int):Nat:=H7 (Ef l) a
theorem Yt(p:UInt8->Bool):∀(l:List UInt8)(k:Nat),((l.take k).takeWhile p).length=min (l.takeWhile p).length k
 | [],k=>by simp
 |a::l,0=>by simp
 | a::l,k+1=>by
   rw[Ra,List.takeWhile_cons,List.takeWhile_cons]
   by_cases h:p a
   ·rw[if_pos h,if_pos h,Bt,Bt,Yt p l k];omega
   ·rw[if_neg h,if_neg h];simp
theorem zmq(l:List UInt8)(k:Nat):Cr (l.take k)=min (Cr l) k:=by
 cases l with
 |nil=>simp[Cr]
 | cons c l =>
   cases k with
   |zero=>simp[Cr]
   | succ k =>
     rw[Ra,OG,OG,Yt];omega
theorem T9:Gs []=0:=by unfold Gs;rw[PW];rfl
theorem VL(h:e≠[]):Gs e=Ea (Cr e)+Gs (e.drop (Cr e)):=by
 unfold Gs;rw[PO h,Dz,IL,BO,Fs (Qx e)]
theorem zyT(n:Nat):Ea n<=5:=by unfold Ea;split<;>omega
theorem zqB(a:Int):Gf [] a=0:=by unfold Gf;rw[PW];rfl
theorem zmS(h:e≠[])(a:Int):Gf e a=if(Ea (Cr e):Int)<=a then Cr e+Gf (e.drop (Cr e)) (a-Ea (Cr e)) else min (min a.toNat 3) (Cr e):=by
 unfold Gf;rw[PO h,H7,BO,Fs (Qx e)]
theorem Xu:∀(m:Nat)(l:List UInt8)(a:Int),l.length<=m->0<=a->Gf l a<=l.length/\(Gs (l.take (Gf l a)):Int)<=a
 | 0,l,a,hm,hr=>by
   have:l=[]:=Ey Q0
   subst this;rw[zqB,List.take_nil,T9];exact⟨BI _,hr⟩
 | m+1,l,a,hm,hr=>by
   by_cases b:l=[]
   ·subst b
    rw[zqB,List.take_nil,T9];exact⟨BI _,hr⟩
   ·have n:=MF b
    have o:=Qx l;rw[zmS b]
    by_cases e:(Ea (Cr l):Int)<=a
    ·rw[if_pos e]
     obtain⟨g,p⟩:=Xu m (l.drop (Cr l)) (a-Ea (Cr l)) (by rw[D9];omega) Q0
     rw[D9] at g;refine⟨Q0,?_⟩
     have d:l.take (Cr l+Gf (l.drop (Cr l)) (a-Ea (Cr l)))≠[]:=by
      intro h;have:=Co List.length h;rw[BO,D4] at this;omega
     rw[VL d,zmq,Fs Q0,List.drop_take,Nat.add_sub_cancel_left]
     omega
    ·rw[if_neg e]
     obtain⟨k,f⟩:=Qe (min (min a.toNat 3) (Cr l));rw[f];refine⟨Q0,?_⟩
     by_cases i:k=0
     ·rw[i,Nh,T9]
      exact hr
     ·have d:l.take k≠[]:=by
       intro h;have:=Co List.length h;rw[BO,D4] at this;omega
      have j:Ea k=k:=by unfold Ea;rw[if_pos Q0]
      rw[VL d,zmq,PE Q0,j,Gm (by rw[BO];omega),T9]
      omega
theorem Qj(a:e≠[])(b:Int)(g:5<=b):1<=Gf e b:=by
 have d:=MF a;have f:=zyT (Cr e);rw[zmS a,if_pos Q0]
 omega
def Im(a:Int):Nat->List UInt8->List (List UInt8)
 |0,_=>[]
 |m+1,l=>if l=[] then[] else l.take (Gf l a)::Im a m (l.drop (Gf l a))
theorem zkw(b:Int)(d:5<=b):∀(m:Nat)(l:List UInt8),l.length<=m->(Im b m l).flatten=l
 |0,l,hm=>(Ey Q0).symm
 | m+1,l,hm=>by
   unfold Im
   by_cases a:l=[]
   ·rw[if_pos a,a];rfl
   ·have:=Qj a b d
    rw[if_neg a,Oc,zkw b d m _ (by rw[D9];omega),Er]
theorem zqe(a:Int)(d:5<=a):∀(m:Nat)(l:List UInt8),∀p∈Im a m l,p≠[]/\(Gs p:Int)<=a
 |0,l,p,hp=>by simp[Im] at hp
 | m+1,l,p,hp=>by
   unfold Im at hp
   by_cases b:l=[]
   ·rw[if_pos b] at hp;simp at hp
   ·rw[if_neg b] at hp
    rcases CZ.1 hp with e|h
    ·have g:=Qj b a d
     have f:=Xu l.length l a (Af _) Q0
     subst e;refine⟨?_,f.2⟩;intro h;have:=Co List.length h;rw[BO,D4] at this;omega
    ·exact zqe a d m _ p h
end Go.Proofs.YtoejfkeofbdalaaGreatDoor
namespace Go
end Go
namespace Go.Proofs.YtoejfkeofbdalaaGreatDoor
variable {n:Nat}
theorem XG(c:UInt8):∀(a b:List UInt8),c ∉ a->Lib.index (a++c::b) [c]=a.length
 | [],b,_=>by simp[Lib.index,List.isPrefixOf]
 | x::a,b,h=>by
   have d:c≠x:=λe=>h (by simp[e])
   have f:=XG c a b (λm=>h (J6 _ m));have g:([c]:List UInt8).isPrefixOf (x::(a++c::b))=false:=by simp[List.isPrefixOf,d]
   have i:((a.length:Int)== -1)=false:=Ez.2 Q0
   rw[Di,Lib.index,g,f,i,Bt];simp
theorem zyP(c:UInt8):∀(a:List UInt8),c ∉ a->Lib.index a [c]= -1
 | [],_=>by simp[Lib.index]
 | x::a,h=>by
   have b:c≠x:=λe=>h (by simp[e])
   have d:=zyP c a (λm=>h (J6 _ m));have f:([c]:List UInt8).isPrefixOf (x::a)=false:=by simp[List.isPrefixOf,b]
   rw[Lib.index,f,d];simp
theorem Zm(c:UInt8)(a:Nat)(g:a<=1):∀(b:List (List UInt8)) (r:List UInt8),(∀l∈b,c ∉ l)->Lib.splitK [c] a b.length (b.flatMap (λl=>l++[c])++r)=b.map (λl=>l++[c].take a)++[r]
 | [],r,_=>rfl
 | l::b,r,h=>by
   have d:=XG c l (b.flatMap (λl=>l++[c])++r) (h l Q6)
   have e:=Zm c a g b r λx i=>h x (by simp[i])
   have f:((l.length:Int)== -1)=false:=Ez.2 Q0
   rw[IQ,BN,BN,Mh,Bt,Lib.splitK,d,f];simp only[MT,M4,EM,Og,Dz,Di];rw[Th,Gm Q0,C6,show l.length+1-l.length=1 by omega,List.drop_one,List.tail_cons,e,Tf,BR Q0,show l.length+a-l.length=a by omega]
   congr 2
   have:a=0\/a=1:=Q0
   rcases this with rfl|rfl<;>simp
theorem zko(c:UInt8):∀(a:List (List UInt8)) (r:List UInt8),(∀l∈a,c ∉ l)->c ∉ r->Lib.count (a.flatMap (λl=>l++[c])++r) [c]=a.length
 | [],r,_,hr=>by
   rw[QT,C6];exact Lib.count_miss (zyP c r hr)
 | l::a,r,h,hr=>by
   have b:=XG c l (a.flatMap (λl=>l++[c])++r) (h l Q6)
   have d:=zko c a r (λx e=>h x (by simp[e])) hr
   rw[IQ,BN,BN,Mh,Lib.count_hit Q6 b]
   rw[Th,Gm Q6,C6,Og,show l.length+1-l.length=1 by omega,List.drop_one,List.tail_cons,d,Bt]
   omega
theorem zmN:∀(a b:List ByteArray),a.map (·.data.toList)=b.map (·.data.toList)->a=b
 | [],[],_=>rfl
 | [],y::b,h=>by simp at h
 |x::a,[],h=>by simp at h
 | x::a,y::b,h=>by
   rw[Dz,Dz,List.cons.injEq] at h;rw[zmN a b h.2];cases x
   cases y
   simp at h;simp[h.1]
theorem Wf(c:UInt8)(b:Nat)(d:b<=1)(a:List (List UInt8))(r:List UInt8)(h:∀l∈a,c ∉ l) :
 Lib.splitB ⟨#[c]⟩ b a.length ⟨(a.flatMap (λl=>l++[c])++r).toArray⟩=a.map (λl=>(⟨(l++[c].take b).toArray⟩:ByteArray))++[⟨r.toArray⟩]:=by
 apply zmN
 rw[Lib.splitB_data]
 show Lib.splitK [c] b a.length (a.flatMap (λl=>l++[c])++r)=_
 rw[Zm c b d a r h];simp[Function.comp_def]
theorem VQ(c:UInt8)(a:List (List UInt8))(r:List UInt8)(h:∀l∈a,c ∉ l)(b:c ∉ r):Lib.countB ⟨(a.flatMap (λl=>l++[c])++r).toArray⟩ ⟨#[c]⟩=a.length:=zko c a r h b
theorem zuH(l:List UInt8)(c:UInt8):Lib.trimSuffix (l++[c]) [c]=l:=by
 unfold Lib.trimSuffix Lib.hasSuffix;rw[if_pos Q6]
 simp
theorem VF(h:¬ n<10):Lib.decDigits n=Lib.decDigits (n / 10)++[UInt8.ofNat (48+n%10)]:=by rw[Lib.decDigits,dif_neg h]
theorem Yv:∀(n:Nat)(b:UInt8),b∈Lib.decDigits n->48<=b.toNat/\b.toNat<=57:=by
 intro n
 induction n using Nat.strongRecOn with
 | _ n d =>
   intro b a
   by_cases h:n<10
   ·rw[Lib.decDigits_one h] at a
    simp at a;subst a;simp;omega
   ·rw[VF h] at a
    rcases FZ.1 a with a|a
    ·exact d (n / 10) Q0 b a
    ·simp at a
     subst a;have:=F8 n (show 0<10 by omega)
     simp;omega
theorem Zc:∀(l:List UInt8)(a m:Nat)(b:UInt8)(d:Nat),Lib.decFrom a l=some m->Lib.digitVal b=some d->Lib.decFrom a (l++[b])=some (m*10+d)
 | [],a,m,b,d,h,hb=>by
   simp[Lib.decFrom] at h;subst h;simp[Lib.decFrom,hb]
 | x::l,a,m,b,d,h,hb=>by
   rw[Di];unfold Lib.decFrom at h |-;cases hx:Lib.digitVal x with
   |none=>rw[hx] at h;simp at h
   | some e =>
     rw[hx] at h;simp only at h |-;exact Zc l _ m b d h hb
theorem zoy:∀(n:Nat),Lib.decFrom 0 (Lib.decDigits n)=some n:=by
 intro n
 induction n using Nat.strongRecOn with
 | _ n b =>
   by_cases h:n<10
   ·rw[Lib.decDigits_one h]
    have a:Lib.digitVal (UInt8.ofNat (48+n))=some n:=by
     simp[Lib.digitVal];omega
    rw[Lib.decFrom,a];simp[Lib.decFrom]
   ·rw[VF h]
    have d:=F8 n (show 0<10 by omega)
    have:Lib.digitVal (UInt8.ofNat (48+n%10))=some (n%10):=by
     simp[Lib.digitVal];omega
    rw[Zc _ _ _ _ _ (b (n / 10) Q0) this]
    congr 1
    omega
theorem zxh(n:Nat):Lib.atoi (Lib.decDigits n)=some (n:Int):=by
 have d:=zoy n;have f:=Yv n;cases hd:Lib.decDigits n with
 | nil =>
   rw[hd] at d;have:=Co List.length hd;rw[Lib.decDigits_length] at this;have:=Lib.nDigits_pos n;simp at*
   omega
 | cons b l =>
   rw[hd] at d f;have a:=f b Q6
   have g:b≠43:=λe=>by rw[e] at a;simp at a
   have h:b≠45:=λe=>by rw[e] at a;simp at a
   simp[Lib.atoi,g,h,Lib.decNat,d]
theorem Ty(h:n<1000000000):(Lib.decDigits n).length<=9:=by
 rw[Lib.decDigits_length]
 by_cases b:Lib.nDigits n<=9
 ·exact b
 ·have step:∀(k u:Nat),u<10 ^ (k+1)->Lib.nDigits u<=k+1:=by
   intro k
   induction k with
   |zero=>intro u a;rw[Lib.nDigits_small Q0];omega
   | succ k d =>
     intro u a
     by_cases h:u<10
     ·rw[Lib.nDigits_small h];omega
     ·rw[Lib.nDigits_big h]
      have:=d (u / 10) (by rw[Jk] at a;omega)
      omega
  exact step 8 n Q0
