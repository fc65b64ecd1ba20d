import Derived.Test.YtoejfkeofbdalaaGreatDoorM13
import Derived.Test.YtoejfkeofbdalaaGreatDoorM11
import Derived.Test.YtoejfkeofbdalaaGreatDoorM14
import Derived.Laws.CopyRow
set_option linter.all false
set_option maxRecDepth 100000
set_option maxHeartbeats 8000000
namespace Go.Proofs.YtoejfkeofbdalaaGreatDoor
open Go.RowKit
variable {w:World}
def FH(P:List Nat)(k:Nat):Nat:=P[k]?.getD 0
theorem zjD(w:World)(g n m q M:Nat)(a:Nat->Nat->Bool)(R:Nat->Nat->Prop)(l:∀x y z,R x y->R y z->R x z)(D:List Nat)(E:List Value)(k:Aq w g D E)
 (j:D.length=n) (o:n<=1000000) (f:D.Pairwise (IB R a)) (h:∀x∈D,x<M) (i:Eh w g q M a) :
 Qk 145 #[Qs g 0 n m,Io q] w λe b=>e=.returned (.tuple #[])/\(∃L,Aq b g L E/\L.Perm D/\L.Pairwise R)/\Ab g w b:=by
 have p:=Aa (zsA w g n m q M a R l D E k j o f h i);unfold Io at*
 clear k j o f h i l
 go_enter Tryz.func145,Tryz.ntmps145
 go_wp2_with fail
 refine p.out.mono ?_;rintro e b ⟨rfl,c,d⟩;have r:=Aa c;have s:=Aa d;clear c d
 go_wp2_with fail
 exact Fu (Dw rfl _ _ _) rfl ⟨rfl,r.out,s.out⟩
theorem zlk(s:ByteArray)(w:World)(g n o a b m:Nat)(P D:List Nat)(E:List Value)(l:Aq w g D E)(j:Aq w a P [])(C:a≠g)(A:s.size=n)
 (z:D.length=n) (t:P.length=n) (p:n<=1000000) (v:m<=2000000) (q:D.Pairwise (· < ·)) (r:∀x∈D,x<n) :
 Qk 97 #[Qs g 0 n o,.iface 171 (Jq s (Qs a 0 n b) m)] w λe c=>e=.returned (.tuple #[])/\(∃L,Aq c g L E/\L.Perm D/\L.Pairwise (Dk n (FH P) m))/\Ab g w c:=by
 have Cw:=Cw;have d:Qb w (w.alloc (.cells #[.iface 171 (Jq s (Qs a 0 n b) m)] 258)):=(Ag _ _).alloc (Af _) _;have B:Qg (w.alloc (.cells #[.iface 171 (Jq s (Qs a 0 n b) m)] 258)) w.heap.size #[.iface 171 (Jq s (Qs a 0 n b) m)] 258:=Am _ _ _ rfl;have M:=l.lt
 have F:Hid (Qk 145 #[Qs g 0 n o,.func (.func 146) #[] #[.pointer (some ⟨w.heap.size,0,none⟩)]] (w.alloc (.cells #[.iface 171 (Jq s (Qs a 0 n b) m)] 258)) λe c=>e=.returned (.tuple #[])/\(∃L,Aq c g L E/\L.Perm D/\L.Pairwise (Dk n (FH P) m))/\Ab g (w.alloc (.cells #[.iface 171 (Jq s (Qs a 0 n b) m)] 258)) c):=by
  refine zjD _ g n o w.heap.size n (Fx n (FH P) m) (Dk n (FH P) m) (Dk.trans _ _ _) D E (l.below d) z p (q.imp λh=>zvS n (FH P) m h) r ?_;intro W u x y J K;have f:Qg W w.heap.size #[.iface 171 (Jq s (Qs a 0 n b) m)] 258:=u.other B Q0
  have i:Aq W a P []:=(j.below d).same (u.block a (by have:=j.lt;have:=d.size;omega) C)
  refine(zun s a w.heap.size n b m x y P W f i t A J K p v).mono ?_;rintro e c ⟨rfl,h⟩;exact⟨_,rfl,zyi P n m x y,h⟩
 have I:=Aa (Ab.of (k:=g) d);clear l j C A z t p v q r d B M;unfold Jq at*
 go_enter Tryz.func97,Tryz.ntmps97
 go_wp2_with fail
 refine F.out.mono ?_;rintro e c ⟨rfl,f,i⟩;have G:=Aa f;have H:=Aa (I.out.trans i);clear f i
 go_wp2_with fail
 exact Fu (Dw rfl _ _ _) rfl ⟨rfl,G.out,H.out⟩
def Jc(p:List Nat)(t:Nat):Array Value:=((p.map λn:Nat=>Value.int .i64 (n:Int))++[Value.int .i64 (t:Int)]).toArray
def KW(w:World)(b:Nat)(p:List Nat)(t:Nat):Prop:=w.heap[b]?=some (.cells (Jc p t) 157 (0,0))
theorem zoK{n:Nat}{h:Array Value}:Ab n w (w.setRow n h):=⟨rfl,rfl,rfl,by simp[World.setRow],λj b a=>by simp[World.setRow,QZ,Ne.symm a]⟩
theorem TY(p:List Nat)(t j:Nat)(b:p.length=6)(a:j<6):(Jc p t)[j]?=some (Qi ((p.getD j 0:Nat))):=by
 have h:j<p.length:=Q0
 simp[Jc,FP,Cx,h]
theorem ztQ(p:List Nat)(t:Nat):(Jc p t).size=p.length+1:=by simp[Jc]
theorem zjr{m:Array Oper}{rest:List Oper}{a:Oper}{o:Act}{Q:Exit->Act->World->Prop}(A:a.guard=none)(d s:Operand)
 (y:a.op=.call { callee:=.builtin .copy,args:=#[d,s],argTypes:=#[67,67] }) (b k:Nat) (p:List Nat) (t:Nat)
 (u:o.eval d=Qs b 1 5 5) (z:o.eval s=Qs b 0 k 6) (i:p.length=6) (D:k<6) (e:KW w b p t)
 (h:∀g,KW g b (p.take 1++p.take k++p.drop (1+k)) t->Ab b w g->wpList Tryz.prog m Q rest (o.put a.dst (Qi (k:Nat))) g) :
 wpList Tryz.prog m Q (a::rest) o w:=by
 obtain⟨E,x,G,B,H⟩:=Ie OH;refine wpList_plain A λK r=>?_;have f:((p.take k).map λn:Nat=>Value.int .i64 (n:Int)).length=k:=by simp;omega
 have q:=run_copy_row (P:=Tryz.prog) w 67 67 a.type 3 b 1 5 5 ⟨b,0,none⟩ k 6 (Jc p t) 157 ((p.take k).map λn:Nat=>Value.int .i64 (n:Int)) Oj (by rw[x];simp[B]) e
  (by rw[f];exact(Fs Q0).symm) (λj v c=>by
    rw[EA,Lp] at c;split at c
    ·rename_i F
     rw[RQ,Ae e,DC,TY p t j i Q0,<-c,Cx,Az (show j<p.length by omega)]
     rfl
    ·simp at c) (by rw[f,ztQ,i];omega) (λv l=>by
    simp only[C8] at l;obtain⟨n,_,rfl⟩:=l;rfl)
 rw[f] at q;unfold Oper.wp execOp;simp only[y,resolve,invoke,builtin,Ml,Mk,KH,MZ,Dz,Jl,u,z,q];refine r _ _ (h _ ?_ zoK)
 have C:((Jc p t).toList.take 1++(p.take k).map (λn:Nat=>Value.int .i64 (n:Int))++(Jc p t).toList.drop (1+k)).toArray=Jc (p.take 1++p.take k++p.drop (1+k)) t:=by
  unfold Jc;rw[QN Q4,Pt Q4]
  simp
 rw[C];unfold KW;simp[World.setRow,QZ,show w.heap[b]?=_ from e]
def Md(i t:Nat):Array Value:=Jc ((List.range 6).map λj=>if j<i then j else 0) t
theorem zvb(w:World)(t:Nat)(o:t<=6):Qk 84 #[Qi (t:Nat)] w λe l=>e=.returned (Qp w.heap.size 0)/\l=w.alloc (.cells (Jc (List.range 6) t) 157):=by
 go_enter Tryz.func84,Tryz.ntmps84
 go_wp2_with fail
 go_loopw [8] (λj wr=>∃i:Nat,i<=6/\j=Qi i/\wr=w.alloc (.cells (Md i t) 157)) (λj _=>7-(intOf j).toNat)
 case atStart=>exact⟨0,Q0,rfl,by simp[Md,Jc,List.range,List.range.loop]⟩
 case round =>
  obtain⟨i,n,rfl,rfl⟩:=hrel;have k:i=0\/i=1\/i=2\/i=3\/i=4\/i=5\/i=6:=Q0
  have m:Qb w (w.alloc (.cells (Jc (List.range 6) t) 157)):=(Ag _ _).alloc (Af _) _;have h:Md 0 t=#[Qi 0,Qi 0,Qi 0,Qi 0,Qi 0,Qi 0,Qi (t:Nat)]:=rfl;have a:Md 1 t=#[Qi 0,Qi 0,Qi 0,Qi 0,Qi 0,Qi 0,Qi (t:Nat)]:=rfl;have b:Md 2 t=#[Qi 0,Qi 1,Qi 0,Qi 0,Qi 0,Qi 0,Qi (t:Nat)]:=rfl;have c:Md 3 t=#[Qi 0,Qi 1,Qi 2,Qi 0,Qi 0,Qi 0,Qi (t:Nat)]:=rfl;have d:Md 4 t=#[Qi 0,Qi 1,Qi 2,Qi 3,Qi 0,Qi 0,Qi (t:Nat)]:=rfl;have f:Md 5 t=#[Qi 0,Qi 1,Qi 2,Qi 3,Qi 4,Qi 0,Qi (t:Nat)]:=rfl;have g:Md 6 t=#[Qi 0,Qi 1,Qi 2,Qi 3,Qi 4,Qi 5,Qi (t:Nat)]:=rfl;rcases k with rfl|rfl|rfl|rfl|rfl|rfl|rfl
  ·have E:=Aa a
   rw[h];clear h a b c d f g
   go_wp2
   go_roundw
   case rel=>exact⟨1,Q0,rfl,by rw[E.out]⟩
   case measure=>simp[intOf]
  ·have E:=Aa b
   rw[a];clear h a b c d f g
   go_wp2
   go_roundw
   case rel=>exact⟨2,Q0,rfl,by rw[E.out]⟩
   case measure=>simp[intOf]
  ·have E:=Aa c
   rw[b];clear h a b c d f g
   go_wp2
   go_roundw
   case rel=>exact⟨3,Q0,rfl,by rw[E.out]⟩
   case measure=>simp[intOf]
  ·have E:=Aa d
   rw[c];clear h a b c d f g
   go_wp2
   go_roundw
   case rel=>exact⟨4,Q0,rfl,by rw[E.out]⟩
   case measure=>simp[intOf]
  ·have E:=Aa f
   rw[d];clear h a b c d f g
   go_wp2
   go_roundw
   case rel=>exact⟨5,Q0,rfl,by rw[E.out]⟩
   case measure=>simp[intOf]
  ·have E:=Aa g
   rw[f];clear h a b c d f g
   go_wp2
   go_roundw
   case rel=>exact⟨6,Q0,rfl,by rw[E.out]⟩
   case measure=>simp[intOf]
  ·rw[g]
   clear h a b c d f g
   go_wp2
   go_ret
   exact⟨rfl,rfl⟩
theorem zp9(t:Int)(W:World):Qk 81 #[Qi t] W λe a=>e=.returned (.bool (decide (2<=t)&& decide (t<=6)))/\W=a:=by
 rcases h1:decide (2<=t) with _|_<;>rcases h2:decide (t<=6) with _|_<;>
 ·go_enter Tryz.func81,Tryz.ntmps81
  go_wp2
  go_ret
  exact⟨rfl,rfl⟩
theorem znJ(w:World)(b:Nat)(p:List Nat)(t k:Nat)(d:p.length=6)(i:k<6)(f:KW w b p t) :
 Qk 86 #[Qp b 0,Qi (k:Nat)] w λe l=>e=.returned (Qi ((p.getD k 0:Nat)))/\Ab b w l/\KW l b (KD p k) t:=by
 have n:∀j,j<6->Qc w b j (Qi ((p.getD j 0:Nat))):=λj r=>by rw[Ae f j,TY p t j d r]
 have v:=n k i;obtain⟨x,g⟩:=Qe (p.getD k 0);rw[g] at v |-;have A:(0:Int)<=(k:Int):=Q0
 have B:(k:Int)<6:=Q0
 have C:(k:Int)<=6:=Q0
 have HE:=Aa f;have o:=Aa g;clear n f g
 go_enter Tryz.func86,Tryz.ntmps86
 go_wp2_with fail
 go_still_tail 7,Q2
 refine zjr rfl (.tmp 13) (.tmp 17) rfl b k p t rfl rfl d i HE.out ?_;intro m c h;have u:=Aa c;have s:Ab b w m:=(Ab.of (Ag _ w).drew).trans h
 have y:Qc m b 0 (Qi (p.getD 0 0:Nat)):=by
  rw[Ae c 0,TY _ _ _ Q4 Q0]
  cases p with
  |nil=>simp at d
  |cons a p=>rfl
 have z:=Ah c 0;clear c h
 go_wp2_with fail
 go_ret
 refine⟨rfl,s.set _ _,?_⟩;have q:=Ak u.out 0 (Qi (x:Nat));unfold KW;rw[q];congr 2
 unfold Jc KD;rw[o.out];cases p with
 |nil=>simp at d
 |cons a p=>simp[Mv]
end Go.Proofs.YtoejfkeofbdalaaGreatDoor
namespace Go.Proofs.YtoejfkeofbdalaaGreatDoor
open Go.RowKit Go.Shelf
attribute [local go_sem] Oper.semAt_some
variable {e:List UInt8} {f:List Nat} {g:Int} {n:Nat} {t:ByteArray} {v w:World} {x y z:Value}
theorem YH{e:Func}{p q r:Tmp}{f g i:TypeId}(h:e.results=#[.cell p f,.cell q g,.cell r i])(d:Array Value)(P:Program)(w:World)(a b c:Addr)(v u z:Value)(m:d.getD p undef=.pointer (some a))(n:d.getD q undef=.pointer (some b))(o:d.getD r undef=.pointer (some c))(j:(loadVar f a).run P w=.ok v w)(k:(loadVar g b).run P w=.ok u w)(l:(loadVar i c).run P w=.ok z w):(results e d).run P w=.ok (.tuple #[v,u,z]) w:=by
 have s:d[p]?.getD undef=.pointer (some a):=by simpa using m
 have t:d[q]?.getD undef=.pointer (some b):=by simpa using n
 have x:d[r]?.getD undef=.pointer (some c):=by simpa using o
 simp[results,h,s,t,x,asAddr,j,k,l]
def V4:Except Int (Nat × Int)->Int × Int × Int
 | .ok (x,p)=>(x,p,0)
 | .error c=>(0,0,c)
theorem zwr(s:List UInt8)(a n:Int):0<=Ed s a n:=by
 unfold Ed;split
 ·omega
 ·split<;>omega
theorem zzE(s:List UInt8)(a:Int)(n:Nat)(b:n<=20):Ed s a n<1048576:=by
 unfold Ed;split
 ·omega
 ·split
  ·omega
  ·have:=B.num_lt (B.slice s a.toNat (n:Int).toNat)
   rw[B.length_slice,EM] at this;have c:(2:Nat)^ n<=2 ^ 20:=Jj Q0 b
   have d:(2:Nat)^ 20=1048576:=Q5
   rw[EM];omega
theorem zv4(s:List UInt8)(a n:Int)(h:Ew s a n=0):0<=n/\n<=64/\0<=a/\a<=8*(s.length:Int)-n:=by
 unfold Ew at h;split at h
 ·cases h
 ·split at h
  ·cases h
  ·omega
theorem zq2(s:List UInt8)(a n:Int):Ew s a n=0\/Ew s a n=1\/Ew s a n=2:=by
 unfold Ew;split
 ·simp
 ·split<;>simp
theorem zrN(h:¬ JG f e g n)(c:List Nat):Ha f e g (n::c)=Ha f e g [n]:=by
 rw[Ha,Ha]
 by_cases a:Ew e g n≠0
 ·rw[if_pos a,if_pos a]
 ·rw[if_neg a,if_neg a]
  by_cases b:2*Cg f (n-1)<=(Ed e g n).toNat/\(Ed e g n).toNat<2*Cg f (n-1)+f.count n
  ·rw[if_pos b,if_pos b]
  ·exact absurd ⟨by simpa using a,b⟩ h
theorem zmx{B:List Nat}(b:B++[n]<+: EI f 20)(a:∀m∈B,JG f e g m)(h:¬ JG f e g n):La f e g=Ha f e g [n]:=by
 obtain⟨r,c⟩:=b;unfold La;rw[<-c,BN,VR a];exact zrN h r
theorem zqO(a:∀m∈EI f 20,JG f e g m):La f e g=.error 3:=by
 have:=VR a [];rw[Eu] at this;exact this
structure Iq(w W:World)(s:ByteArray)(a:Int)(x y z:Value):Prop where
 b0:Boxed W w.heap.size 9 (.string s)
 b1:Boxed W (w.heap.size+1) 3 (Qi a)
 b2:Boxed W (w.heap.size+1+1) 3 x
 b3:Boxed W (w.heap.size+1+1+1) 3 y
 b4:Boxed W (w.heap.size+1+1+1+1) 25 z
 bel:Qb w W
theorem Iq.start(w:World)(s:ByteArray)(a:Int) :
 Iq w (((((w.alloc (.cells #[.string s] 9)).alloc (.cells #[Qi a] 3)).alloc (.cells #[Qi 0] 3)).alloc (.cells #[Qi 0] 3)).alloc (.cells #[Qi 0] 25)) s a (Qi 0) (Qi 0) (Qi 0) :=
 ⟨((((Boxed.new w _ _).alloc _).alloc _).alloc _).alloc _,(((OJ _ _ _ _ Q6).alloc _).alloc _).alloc _,((OJ _ _ _ _ Q6).alloc _).alloc _,(OJ _ _ _ _ Q6).alloc _,OJ _ _ _ _ Q6,
   (((((Ag _ w).alloc (Af _) _).alloc Q6 _).alloc Q4 _).alloc Q4 _).alloc Q4 _⟩
theorem Iq.step{u:World}(h:Iq w v t g x y z)(a:Qb v u):Iq w u t g x y z :=
 ⟨(a.block _ h.b0.lt).trans h.b0,(a.block _ h.b1.lt).trans h.b1,(a.block _ h.b2.lt).trans h.b2,(a.block _ h.b3.lt).trans h.b3,(a.block _ h.b4.lt).trans h.b4,h.bel.trans (a.mono h.bel.size)⟩
theorem Iq.set(h:Iq w v t g x y z)(a b c:Value) :
 Iq w (((v.setCell ⟨w.heap.size+1+1,0,none⟩ a).setCell ⟨w.heap.size+1+1+1,0,none⟩ b).setCell ⟨w.heap.size+1+1+1+1,0,none⟩ c) t g a b c :=
 ⟨((h.b0.other Q0 _).other Q0 _).other Q0 _,((h.b1.other Q0 _).other Q0 _).other Q0 _,
   ((M5 _ h.b2).other Q0 _).other Q0 _,(M5 _ (h.b3.other Q0 _)).other Q0 _,M5 _ ((h.b4.other Q0 _).other Q0 _),
   ((h.bel.setCell (p:=⟨w.heap.size+1+1,0,none⟩) Q4 _).setCell (p:=⟨w.heap.size+1+1+1,0,none⟩) Q4 _).setCell (p:=⟨w.heap.size+1+1+1+1,0,none⟩) Q4 _⟩
theorem Iq.own{β:Type}(B:Nat)(i:w.heap.size<=B)(s:ByteArray)(a:Int)(f:β->Value × Value × Value):OwnFrom B (λ(p:β) W=>Iq w W s a (f p).1 (f p).2.1 (f p).2.2):=λp W b g h c d =>
 ⟨boxed_own _ _ (λ_:β=>_) p W b g h.b0 c (λr e=>(d r e).2),boxed_own _ _ (λ_:β=>_) p W b g h.b1 c (λr e=>(d r e).2),boxed_own _ _ (λ_:β=>_) p W b g h.b2 c (λr e=>(d r e).2),
   boxed_own _ _ (λ_:β=>_) p W b g h.b3 c (λr e=>(d r e).2),boxed_own _ _ (λ_:β=>_) p W b g h.b4 c (λr e=>(d r e).2),Nj (β:=β) (w₀:=w) (Af _) i p W b g h.bel c d⟩
def NJ(r:Except Int (Nat × Int)):Value × Value × Value:=(Qi ((V4 r).1),Qi ((V4 r).2.1),Qi ((V4 r).2.2))
theorem zvt(w:World)(v:Value)(l:List Nat)(s:ByteArray)(a:Int)(hv:Ac w w.heap.size v (ints l))(hl:Code l)(hs:s.size<=281474976710656) :
 Qk 313 #[v,.string s,Qi a] w λe p=>e=.returned (.tuple #[(NJ (La l s.data.toList a)).1,(NJ (La l s.data.toList a)).2.1,(NJ (La l s.data.toList a)).2.2])/\Qb w p:=by
 obtain⟨A,j,rfl,i4,k7⟩:=hv.shape;have d0:=Bj l;obtain⟨N,a5⟩:=Qe l.length;rw[d0,a5] at i4 hv |-;have m0:N<=258:=by rw[<-a5];exact hl.most
 have d9:Hid (∀W,Ac W W.heap.size (.slice A N j) (ints l)->Qk 31 #[.slice A N j] W λe p=>e=.returned (Qi 0)/\Qb W p):=λW h=>by
  have:=RI W _ _ h (by rw[d0];omega)
  rw[hl.ok] at this;exact this
 have f8:s.data.toList.length=s.size:=by simp
 have g3:Hid (∀n W,Qk 231 #[.string s,Qi a,Qi n] W λe p=>e=.returned (.tuple #[.int .u64 (Ed s.data.toList a n),Qi (Ew s.data.toList a n)])/\W=p):=λn W=>NA s a n W hs;generalize s.data.toList=u at*
 have i0:=Aa f8;have e2:=Aa hv;have g5:=Aa a5;have c5:=Aa hl;obtain⟨D,j8⟩:∃D:Nat,8<=D:=⟨8,Q0⟩
 have i3:1<=D:=Q0
 clear hv a5 hl d0 f8;refine(Em (n:=D)).1 ?_;refine Lr Tryz.func313 rfl trivial ?_ rfl;simp only[Tryz.ntmps313,F6,Bt,D4,Nat.reduceAdd,Nat.reduceSub,GM,GL,GQ,GN,C6,Di];have a7:=Iq.start w s a
 gi_wp2_with fail
 generalize((((w.alloc (.cells #[.string s] 9)).alloc (.cells #[Qi a] 3)).alloc (.cells #[Qi 0] 3)).alloc (.cells #[Qi 0] 3)).alloc (.cells #[Qi 0] 25)=g6 at*
 refine⟨trivial,(Em.2 (d9.out g6 ((e2.out.below a7.bel (Af _)).mono a7.bel.size))).mono ?_⟩;rintro e G ⟨rfl,e5⟩;have b4:=Aa (a7.step e5);clear a7 e5 d9
 gi_wp2_with fail
 refine⟨trivial,(Em.2 (ZW _ A N j)).mono ?_⟩;rintro e p ⟨rfl,rfl⟩
 gi_wp2_with fail
 have e7:Qb G (G.alloc (.cells #[.slice A N j] 67)):=(Ag _ _).alloc (Af _) _;have k:=b4.out.step e7;have O:Qg (G.alloc (.cells #[.slice A N j] 67)) G.heap.size #[.slice A N j] 67:=Am _ _ _ rfl;have X:(G.alloc (.cells #[.slice A N j] 67)).heap.size=G.heap.size+1:=by simp
 have J:=b4.out.b4.lt;obtain⟨bl,e8⟩:=Qe G.heap.size;rw[e8] at O X J |-;generalize G.alloc (.cells #[.slice A N j] 67)=r at*
 have a2:=e2.out.below k.bel (Af _);clear e7 b4 e8
 refine Xh (n:=D) i3 (gf:=229) (lb:=#[.pointer (some ⟨bl,0,none⟩)]) rfl YD (encs:=Po) (λ_=>rfl) (MO l r.heap.size) (λ_=>False)
  (zkz (D-1) Q0 bl w.heap.size l c5.out (λ_=>False) (.slice A N j) r a2 k.bel.size ((Ae O 0).trans rfl) (λj6 hk=>hk.elim)) (Ag _ _)
  (λo W=>Iq w W s a (Qi 0) (Qi 0) (Qi 0)/\∀n∈o.map (·.1),JG l u a n)
  (λc o W=>∃n U,Iq w W s a (NJ (Ha l u a [n])).1 (NJ (Ha l u a [n])).2.1 (NJ (Ha l u a [n])).2.2/\c=Code.ret/\o.map (·.1)=U++[n]/\(∀m∈U,JG l u a m)/\¬ JG l u a n)
  (I1 (Iq.own _ k.bel.size s a (λ_:List KC=>(Qi 0,Qi 0,Qi 0))) (ownFrom_pure _ (λo:List KC=>∀n∈o.map (·.1),JG l u a n)))
  (λc o W b5 d4 h hg hr=>by
    obtain⟨n,U,h1,h2⟩:=h;exact⟨n,U,Iq.own _ k.bel.size s a (λ_:Unit=>NJ (Ha l u a [n])) () W b5 d4 h1 hg hr,h2⟩)
  ⟨k,λn hn=>by simp at hn⟩
  (λx b6 W=>∃lb,r.heap.size<=lb/\b6 = { tmps:=#[.slice A N j,.string s,Qi a,undef,.pointer (some ⟨w.heap.size,0,none⟩),.pointer (some ⟨w.heap.size+1,0,none⟩),.pointer (some ⟨w.heap.size+1+1,0,none⟩),.pointer (some ⟨w.heap.size+1+1+1,0,none⟩),.pointer (some ⟨w.heap.size+1+1+1+1,0,none⟩),Qi 0,.pointer (some ⟨lb,0,none⟩),undef,undef,.slice A N j,Qi 0,Qi 0,.bool false,undef,.slice A N j,.func (.func 229) #[] #[.pointer (some ⟨bl,0,none⟩)],.agg #[Qi (x.1:Nat),.int .u64 (x.2.1:Nat),x.2.2],undef,undef,undef,undef,undef,undef,undef,undef,undef,undef,undef,undef,undef,undef,undef,undef,undef,undef,undef,undef,undef,undef,undef,undef,undef,undef,undef,undef,undef,undef],defers:=[] } /\
    Qg W lb #[Qi (x.1:Nat),.int .u64 (x.2.1:Nat),x.2.2] 288/\MO l r.heap.size x W)
  (λx b6 s W b5 d4 h f5 hr=>by
    obtain⟨lb,h0,h2,h3,h4,h5,h6,h7⟩:=h;exact⟨lb,h0,h2,WO lb _ (λ_:Unit=>_) () W b5 d4 h3 f5 (λa4 e=>(hr a4 e).2),h4,h5,TC h6 f5 (λa4 e=>(hr a4 e).2),h7⟩)
  ?assign ?body ?done ?stop
 case assign =>
  intro y o x W K hi d1 i5 i;obtain⟨n,q,v⟩:=x;obtain⟨Z,P,E,a0⟩:n∈EI l 20/\q=2*Cg l (n-1)/\Ac W W.heap.size v (ints (En l n))/\∀g b2 m c,v=Qs g b2 m c->r.heap.size<=g:=d1;obtain⟨sq,sc,rfl,d3,_⟩:=E.shape;have a6:Hid (MO l r.heap.size (n,q,.slice sq (ints (En l n)).length sc) W):=⟨Z,P,E,a0⟩;have g4:=Aa i;have e1:=Aa hi;clear i Z P E a0 hi k a2 O;simp only[Po]
  gi_wp2_with fail
  have c7:Qb W (W.alloc (.cells #[Qi (n:Nat),.int .u64 (q:Nat),.slice sq (ints (En l n)).length sc] 288)):=(Ag _ W).alloc (Af _) _
  exact g4.out _ _ ((Ti W _).from _) ((Ao.refl _ _).below c7) ⟨e1.out.1.step c7,e1.out.2⟩
   ⟨W.heap.size,Q0,rfl,Am _ _ _ rfl,a6.out.1,a6.out.2.1,TC a6.out.2.2.1 (TE c7) (λa4 e=>by cases e),a6.out.2.2.2⟩
 case body =>
  rintro y o x b6 W ⟨b,F⟩ ⟨lb,f7,rfl,Q,d1⟩ i5 j4;have j2:=k.bel.size;obtain⟨n,q,v⟩:=x;have k4:=Aa f7;have i1:=Aa X;have i2:=Aa J;have n2:¬ lb=w.heap.size+1+1:=Q0
  have n3:¬ lb=w.heap.size+1+1+1:=Q0
  have n4:¬ lb=w.heap.size+1+1+1+1:=Q0
  have m2:¬ w.heap.size+1+1=lb:=Q0
  have m3:¬ w.heap.size+1+1+1=lb:=Q0
  have m4:¬ w.heap.size+1+1+1+1=lb:=Q0
  obtain⟨Z,P,E,a0⟩:n∈EI l 20/\q=2*Cg l (n-1)/\Ac W W.heap.size v (ints (En l n))/\∀g b2 m c,v=Qs g b2 m c->r.heap.size<=g:=d1;have j5:=(Rx l 20 n).1 Z
  have l5:q<=1048576:=by
   have h1:=U8 l c5.out.fits c5.out.room (n-1) Q0
   have h2:2 ^ (n-1)<=2 ^ 19:=Jj Q0 Q0
   have h3:(2:Nat)^ 19=524288:=Q5
   omega
  obtain⟨sq,sc,rfl,d3,_⟩:=E.shape;have a9:=Nq l n;have g2:=Yl l n;rw[Bj] at E Q d3 |-;rw[g5.out] at g2;obtain⟨C,b7⟩:=Qe ((En l n).length);rw[b7] at E Q a9 d3 g2 |-;have e0:=Aa b7;have g9:=Aa E;have h8:=Aa a0;have j7:=Aa P;have k5:=Aa a9;have L:=Aa b;have d7:=Aa F;have hd:1<=D-1-1:=Q0
  have k0:=(Ae Q 0).trans rfl;have k1:=(Ae Q 1).trans rfl;have k2:=(Ae Q 2).trans rfl;have c0:=b.b0.cell;have c1:=b.b1.cell;have c2:=b.b2.cell;have c3:=b.b3.cell;have c4:=b.b4.cell;have f2:=b.b2.frozen;have f3:=b.b3.frozen;have f4:=b.b4.frozen;have l2:=b.b2.lt;have l3:=b.b3.lt;have l4:=b.b4.lt;have e3:=Aa (g3.out n);have f0:=zq2 u a n;have f1:=zv4 u a n;have i7:=zwr u a n;have f9:=zzE u a n j5.2.1
  have a8:Ha l u a [n]=if Ew u a n≠0 then .error (Ew u a n)
   else if 2*Cg l (n-1)<=(Ed u a n).toNat/\(Ed u a n).toNat<2*Cg l (n-1)+l.count n then .ok ((En l n)[(Ed u a n).toNat-2*Cg l (n-1)]?.getD 0,a+n)
   else .error 3:=rfl
  have b0:JG l u a n↔Ew u a n=0/\¬ (2*Cg l (n-1)<=(Ed u a n).toNat/\(Ed u a n).toNat<2*Cg l (n-1)+l.count n):=Iff.rfl;rw[<-P,<-a9] at a8 b0;generalize Ew u a n=b1 at*
  obtain⟨V,b8⟩:∃V:Nat,Ed u a n=(V:Int):=⟨(Ed u a n).toNat,Q0⟩
  rw[b8,EM] at a8 b0;rw[b8] at e3 f9;have l9:V<1048576:=Q0
  have e4:=Aa a8;have c6:=Aa b0;have g8:=Aa f1;have k3:=Aa f0;clear Q b F Z P E a0 b7 a9 O a2 k j4 f0 f1 i7 f9 a8 b0 b8 X J j2 f7
  gi_wp2_with fail
  refine⟨trivial,(CallsIn.inRound y (Em.2 (e3.out W))).mono ?_⟩;rintro e j9 ⟨rfl,rfl⟩;have f6:∀x y z:Value,KeepsOthers W (((W.setCell ⟨w.heap.size+1+1,0,none⟩ x).setCell ⟨w.heap.size+1+1+1,0,none⟩ y).setCell ⟨w.heap.size+1+1+1+1,0,none⟩ z):=λx y z=>((FO W _ _).trans (FO _ _ _)).trans (FO _ _ _);have h9:=Aa f6;clear f6
  by_cases R:b1=0
  ·subst R
   by_cases H:q<=V/\V<q+C
   ·have a1:Hid (¬ JG l u a n):=λh=>(c6.out.1 h).2 H
    obtain⟨d,e9⟩:=Qe (V-q);have c9:d<C:=Q0
    obtain⟨t,o2,rfl,l0,hx⟩:=g9.out.at d (by rw[Bj,e0.out];exact c9)
    obtain⟨s2,d2⟩:∃s,(En l n)[d]?=some s:=⟨_,Az (by rw[e0.out];exact c9)⟩
    have g0:(ints (En l n))[d]?.getD 0=(s2:Int):=by simp[ints,d2]
    rw[g0] at hx
    have d6:Hid (Ha l u a [n]= .ok (s2,a+n)):=by
     show _=_
     rw[e4.out,if_neg Q6,if_pos H,e9,d2]
     rfl
    have i8:IntKind.u64.wrap ((V:Int)-(q:Int))=(d:Int):=by rw[Nb];omega
    have k9:(d:Int)<(C:Int):=Q0
    have l8:(0:Int)<=(d:Int):=Q0
    have j1:=g8.out rfl;have i6:=i0.out;have l6:IntKind.i64.wrap (a+(n:Int))=a+(n:Int):=AU _ Q0
    have l1:Tryz.prog.follows .mixedOrders=true:=Q2
    have j3:=h8.out t o2 _ _ rfl;have i9:=i1.out;have J:=i2.out;have p2:¬ t=w.heap.size+1+1:=Q0
    have p3:¬ t=w.heap.size+1+1+1:=Q0
    have p4:¬ t=w.heap.size+1+1+1+1:=Q0
    have q2:¬ w.heap.size+1+1=t:=Q0
    have q3:¬ w.heap.size+1+1+1=t:=Q0
    have q4:¬ w.heap.size+1+1+1+1=t:=Q0
    clear j3 i9 J;clear H e9 d2 g0 j1 i6 c9
    gi_wp2_with fail
    refine Ye (S:=(λp=>Qc p lb 0 (Qi (n:Nat))/\Qc p lb 2 (Qs t o2 C sc)/\Qc p (w.heap.size+1) 0 (Qi a)/\Qc p t (o2+d) (Qi (s2:Int)))) Q2 Q2 (λd8=>?_) ?_
    rotate_left
    ·(refine⟨?_,?_,?_,?_⟩<;>(go_simp;try assumption))
    refine EX (v:=?_) 0 (by simp only[JM,Lh];rfl) Q2 (λ_ _ _ h=>h) Q7 Q3 ?_ ?_
    rotate_left
    ·(intro w f;(try dsimp only at f);go_simp;try with_reducible rfl)
    try simp only[Act.put,AO,AR,AL]
    refine EX (v:=?_) 1 Q1 Q2 (λ_ _ _ h=>h) Q7 Q3 ?_ ?_
    rotate_left
    ·(intro w f;(try dsimp only at f);go_simp;try with_reducible rfl)
    try simp only[Act.put,AO,AR,AL]
    refine EX (v:=?_) 2 Q1 Q2 (λ_ _ _ h=>h) Q7 Q3 ?_ ?_
    rotate_left
    ·(intro w f;(try dsimp only at f);go_simp;try with_reducible rfl)
    try simp only[Act.put,AO,AR,AL]
    refine EX (v:=?_) 3 Q1 Q2 (λ_ _ _ h=>h) Q7 Q3 ?_ ?_
    rotate_left
    ·(intro w f;(try dsimp only at f);go_simp;try with_reducible rfl)
    try simp only[Act.put,AO,AR,AL]
    refine EX (v:=?_) 4 Q1 Q2 (λ_ _ _ h=>h) Q7 Q3 ?_ ?_
    rotate_left
    ·(intro w f;(try dsimp only at f);go_simp;try with_reducible rfl)
    try simp only[Act.put,AO,AR,AL]
    refine EX (v:=?_) 5 Q1 Q2 (λ_ _ _ h=>h) Q7 Q3 ?_ ?_
    rotate_left
    ·(intro w f;(try dsimp only at f);go_simp;try with_reducible rfl)
    try simp only[Act.put,AO,AR,AL]
    refine EX (v:=?_) 6 Q1 Q2 (λ_ _ _ h=>h) Q7 Q3 ?_ ?_
    rotate_left
    ·(intro w f;(try dsimp only at f);go_simp;try with_reducible rfl)
    try simp only[Act.put,AO,AR,AL]
    refine EX (v:=?_) 7 Q1 Q2 (λ_ _ _ h=>h) Q7 Q3 ?_ ?_
    rotate_left
    ·(intro w f;(try dsimp only at f);go_simp;try with_reducible rfl)
    try simp only[Act.put,AO,AR,AL]
    refine EX (v:=?_) 8 Q1 Q2 (λ_ _ _ h=>h) Q7 Q3 ?_ ?_
    rotate_left
    ·(intro w f;(try dsimp only at f);go_simp;try with_reducible rfl)
    try simp only[Act.put,AO,AR,AL]
    refine Jp 9 Q1 Q2 Q7 (λK i=>?_)
    go_simp
    skip
    refine i.out _ _ ?_ (λd8=>?_)
    ·(refine⟨?_,?_,?_,?_⟩<;>(go_simp;try assumption))
    clear i K
    try simp only[Act.put,AO,AR,AL]
    refine Jp 10 Q1 Q2 Q7 (λK i=>?_)
    go_simp
    skip
    refine i.out _ _ ?_ (λd8=>?_)
    ·(refine⟨?_,?_,?_,?_⟩<;>(go_simp;try assumption))
    clear i K
    try simp only[Act.put,AO,AR,AL]
    refine Jp 11 Q1 Q2 Q7 (λK i=>?_)
    go_simp
    skip
    refine i.out _ _ ?_ (λd8=>?_)
    ·(refine⟨?_,?_,?_,?_⟩<;>(go_simp;try assumption))
    clear i K
    try simp only[Act.put,AO,AR,AL]
    refine wpAnyH_done Q2 ?_ _
    refine Bc.normal ?_
    all_goals gi_wp2_with fail
    all_goals exact⟨((KeepsOthers.drew W).trans (((FO _ _ _).trans (FO _ _ _)).trans (FO _ _ _))).from _,n,o.map (·.1),by rw[d6.out];exact(L.out.step (Ag _ W).drew).set _ _ _,rfl,by rw[D3];rfl,d7.out,a1.out⟩
   ·have a1:Hid (JG l u a n):=c6.out.2 ⟨rfl,H⟩
    obtain⟨z,i8,j0⟩:∃z:Nat,IntKind.u64.wrap ((V:Int)-(q:Int))=(z:Int)/\C<=z:=by
     by_cases h:q<=V
     ·exact⟨V-q,by rw[Nb];omega,Q0⟩
     ·exact⟨V+18446744073709551616-q,by rw[Nb];omega,Q0⟩
    have l7:decide (z<C)=false:=by rw[QU];omega
    clear H j0
    gi_wp2_with fail
    exact⟨Pz _ _,Ao.refl _ _,L.out,λm I=>by
     rw[D3,FZ] at I;rcases I with I|I
     ·exact d7.out m I
     ·simp at I
      rw[I];exact a1.out⟩
  ·have k6:(b1 !=0)=true:=by rw[SY];exact R
   have d6:Hid (Ha l u a [n]= .error b1):=by
    show _=_
    rw[e4.out,if_pos R]
   have a1:Hid (¬ JG l u a n):=λh=>R (c6.out.1 h).1;clear R
   gi_wp2_with fail
   exact⟨(h9.out _ _ _).from _,n,o.map (·.1),by rw[d6.out];exact L.out.set _ _ _,rfl,by rw[D3];rfl,d7.out,a1.out⟩
 case done =>
  rintro b3 xs W c8 T ⟨b,F⟩ i;have M:xs.map (·.1)=EI l 20:=T;rw[M] at F;have a3:=zqO F;have d5:=Aa a3;have L:=Aa b;have c2:=b.b2.cell;have c3:=b.b3.cell;have c4:=b.b4.cell;have f2:=b.b2.frozen;have f3:=b.b3.frozen;have f4:=b.b4.frozen;have l2:=b.b2.lt;have l3:=b.b3.lt;have l4:=b.b4.lt;have Y:=k.bel.size;have b9:=Aa Y;have g7:=Aa (show w.heap.size+1+1+1+1<b3 by omega)
  clear F a3 b k O a2 T M X J Y
  gi_wp2_with fail
  have k8:=g7.out;have hs:=L.out.set (Qi 0) (Qi 0) (Qi 3)
  have e6:Qh (((W.setCell ⟨w.heap.size+1+1,0,none⟩ (Qi 0)).setCell ⟨w.heap.size+1+1+1,0,none⟩ (Qi 0)).setCell ⟨w.heap.size+1+1+1+1,0,none⟩ (Qi 3)) b3 (.deferred (some [])):=by
   rw[Bg _ _ _ _ Q4,Bg _ _ _ _ Q4,Bg _ _ _ _ Q4,i]
  have B:=(Iq.own r.heap.size b9.out s a (λ_:Unit=>((Qi 0,Qi 0,Qi 3):Value × Value × Value))).putObj (s:=()) (.deferred none) hs c8 e6 rfl;refine⟨Q6,.inl ⟨_,_,rfl,J9 e6,?_⟩⟩
  exact⟨_,YH rfl _ _ _ _ _ _ _ _ _ rfl rfl rfl (L8 _ _ _ B.b2.cell) (L8 _ _ _ B.b3.cell) (O8 _ _ _ B.b4.cell),by rw[d5.out];rfl,B.bel⟩
 case stop =>
  rintro b3 c o W c8 T ⟨n,U,b,rfl,g1,F,H⟩ i;have M:o.map (·.1)<+: EI l 20:=T;rw[g1] at M;have a3:=zmx M F H;have d5:=Aa a3;have L:=Aa b;have Y:=k.bel.size;have b9:=Aa Y;clear F a3 b k O a2 T M g1 H X J Y
  gi_wp2_with fail
  have B:=(Iq.own r.heap.size b9.out s a (λ_:Unit=>NJ (Ha l u a [n]))).putObj (s:=()) (.deferred none) L.out c8 i rfl;refine⟨Q6,.inl ⟨_,_,rfl,J9 i,?_⟩⟩
  exact⟨_,YH rfl _ _ _ _ _ _ _ _ _ rfl rfl rfl (L8 _ _ _ B.b2.cell) (L8 _ _ _ B.b3.cell) (O8 _ _ _ B.b4.cell),by rw[d5.out],B.bel⟩
end Go.Proofs.YtoejfkeofbdalaaGreatDoor
namespace Go.Proofs.YtoejfkeofbdalaaGreatDoor
open Go.RowKit
def NL(a b:Nat):Nat:=((a*2%4294967296) |||(a / 2147483648))^^^ b
theorem zqf(a b:Nat)(d:a<4294967296)(c:b<4294967296):NL a b<4294967296 :=
 Rc (n:=32) (Nat.or_lt_two_pow (n:=32) Q0 Q0) c
def Gj(l:List Nat):Nat:=l.foldl NL 0
theorem zvH(l:List Nat)(x:Nat):Gj (l++[x])=NL (Gj l) x:=by simp[Gj]
theorem zw4(a b:Nat)(l:a<4294967296)(j:b<4294967296)(w:World) :
 Qk 63 #[.int .u32 (a:Nat),.int .u32 (b:Nat)] w λe k=>e=.returned (.int .u32 (NL a b:Nat))/\w=k:=by
 have d:bits BinOp.or IntKind.u32 ((a:Int)*2%4294967296) ((a:Int)/ 2147483648)=(((a*2%4294967296) |||(a / 2147483648):Nat):Int):=by
  rw[<-u32_or_nat _ _ Q0 Q0]
  congr 1
 have i:(a*2%4294967296) |||(a / 2147483648)<4294967296:=Nat.or_lt_two_pow (n:=32) Q0 Q0
 have c:=u32_xor_nat ((a*2%4294967296) |||(a / 2147483648)) b i j;have f:((a*2%4294967296) |||(a / 2147483648))^^^ b=NL a b:=rfl;rw[f] at c;have h:=Aa c;have g:=Aa d;clear d c f
 go_enter Tryz.func63,Tryz.ntmps63
 go_wp2_with fail
 go_ret
 exact⟨by rw[g.out,h.out];rfl,rfl⟩
theorem zuJ(w:World)(v:Value)(l:List Nat)(b:Rd w w.heap.size 1 v l.length (Jy l))(r:∀x∈l,x<4294967296)(E:l.length<=1000000) :
 Qk 18 #[v] w λe H=>e=.returned (.int .u32 (Gj l:Nat))/\Gj l<4294967296/\w=H:=by
 obtain⟨q,c,rfl,I,J⟩:=b.isSlice;obtain⟨N,h⟩:=Qe l.length;rw[h] at b E |-;have p:=Aa h;have A:=Aa b;have y:=Aa r;clear b h r I J
 go_enter Tryz.func18,Tryz.ntmps18
 go_wp2_with fail
 go_loopw [2,7] (λD j wr=>∃k a:Nat,k<=N/\a<4294967296/\j=Qi k/\D=.int .u32 (a:Nat)/\Hid (a=Gj (l.take k))/\Hid (wr=w)) (λ_ j _=>N+1-(intOf j).toNat)
 case atStart=>exact⟨0,0,Q0,Q0,rfl,rfl,rfl,rfl⟩
 case round =>
  obtain⟨k,a,O,i,rfl,rfl,m,B⟩:=hrel;have G:wr=w:=B;subst G
  by_cases L:k<N
  ·obtain⟨x,d⟩:∃x,l[k]?=some x:=⟨_,Az (by rw[p.out];exact L)⟩
   obtain⟨g,o,F,M,u⟩:=A.out.cellAt Q0
   subst F;have Q:=u k _ (zxO l k x d);have s:=y.out x (Cn d)
   have z:Hid (Gj (l.take (k+1))=NL a x):=by
    show _=_
    rw[G7,d,m.out];exact zvH _ _
   have K:=zqf a x i s;have C:=Aa (zw4 a x i s wr);generalize NL a x=f at*
   clear d u
   go_wp2_with fail
   refine C.out.mono ?_;rintro e P ⟨rfl,rfl⟩
   go_wp2_with fail
   go_roundw
   case rel=>exact⟨k+1,f,Q0,K,by go_num,rfl,z.out.symm,by first|rfl|exact True.intro⟩
   case measure=>simp[intOf];omega
  ·obtain rfl:k=N:=Q0
   have t:a=Gj l:=by rw[m.out,BR (by rw[p.out];exact Af _)]
   have n:=Aa t;clear t
   go_wp2_with fail
   go_ret
   exact⟨by rw[n.out];rfl,by rw[<-n.out];exact i,rfl⟩
