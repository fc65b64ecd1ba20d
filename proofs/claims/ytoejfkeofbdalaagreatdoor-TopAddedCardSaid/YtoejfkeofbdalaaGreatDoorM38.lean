import Derived.Test.YtoejfkeofbdalaaGreatDoorM37
import Derived.Test.YtoejfkeofbdalaaGreatDoorM34
set_option linter.all false
set_option maxRecDepth 100000
set_option maxHeartbeats 8000000
namespace Go.Proofs.YtoejfkeofbdalaaGreatDoor
open Go.RowKit Go.Shelf
open Go.Maps (Keyed)
variable {m n:Nat} {v w:World}
theorem Yu(k:Nat)(w:World)(a:Value)(h:Qg w k #[a] 388):(loadVar 388 ⟨k,0,none⟩).run Tryz.prog w=.ok (.agg #[a]) w:=by
 have b:=A8 h
 go_simp
theorem zoM(w:World):Qk 280 #[] w λe c=>e=.returned (.agg #[.func (.func 308) #[] #[]])/\Qb w c:=by
 obtain⟨z,b⟩:=Qe w.heap.size;have d:=Aa (Am w (.cells #[.func (.func 308) #[] #[]] 388) z b.symm);have a:=Aa (Ay (Ag w.heap.size w) (.cells #[.func (.func 308) #[] #[]] 388))
 go_enter Tryz.func280,Tryz.ntmps280
 go_wp2_with fail
 exact BV (L7 rfl _ _ _ ⟨z,0,none⟩ _ rfl (Yu _ _ _ d.out)) rfl ⟨rfl,a.out⟩
theorem Nv{u:World}(a:Qb v u)(h:Ab n w v):Ab n w u:=h.trans (Ab.of a)
theorem zkm(h:Ab n w v)(o:Obj):Ab n w (v.alloc o):=Nv (Ay (Ag _ _) o) h
theorem JR(h:Ab n w v):Ab n w v.drew:=Nv (Cq (Ag _ _)) h
theorem Ab.grown1(a:w.grownBy v (some n)):Ab n w v:=⟨a.os,a.tape,a.output,a.size,λj b c=>a.block j b Q4⟩
theorem Ab.setNew(h:Ab n w v){m:Nat}(c:w.heap.size<=m)(i:Nat)(u:Value):Ab n w (v.setCell ⟨m,i,none⟩ u) :=
 ⟨h.os,h.tape,h.output,by have:=h.size;simp;omega,λj a b=>(Bg v ⟨m,i,none⟩ u j (by show j≠m;omega)).trans (h.block j a b)⟩
theorem zu7:∀{c:List HE},c.length<=2->(∀(i:Nat)(x y:HE),c[i]?=some x->c[i+1]?=some y->x.b<y.b)->(c.map (·.b)).Nodup
 | [],_,_=>by simp
 | [a],_,_=>by simp
 | [a,b],_,h=>by
   have:=h 0 a b rfl rfl;simp;omega
theorem Zr{k f:List HE}(o:k.length<=2)(q:∀(i:Nat)(x y:HE),k[i]?=some x->k[i+1]?=some y->x.b<y.b)(e:(f.map (·.b)).Nodup)(m:∀h,h∈f↔h∈k):f.length<=2/\FD (λh=>(h.b:Nat)) f=k:=by
 have c:∀a∈f,a∈k:=λa h=>(m a).1 h
 match k,o with
 | [],_ =>
   have:f=[]:=List.eq_nil_iff_forall_not_mem.2 λa h=>by have:=c a h;simp at this
   subst this;exact⟨Q6,rfl⟩
 | [a],_ =>
   have d:a∈f:=(m a).2 Q6
   match f,e,c,d with
   | [],_,_,d=>simp at d
   | [x],_,c,_ =>
     have:=c x Q6
     simp at this;subst this;exact⟨Q6,rfl⟩
   | x::y::r,e,c,_ =>
     have g:=c x Q6
     have j:=c y Q6
     simp at g j;subst g j;simp at e
 | [a,b],_ =>
   have p:=q 0 a b rfl rfl;have d:a∈f:=(m a).2 Q6
   have l:b∈f:=(m b).2 Q6
   match f,e,c,d,l with
   | [],_,_,d,_=>simp at d
   | [x],_,_,d,l =>
     simp at d l;subst d;rw[l] at p;omega
   | [x,y],e,c,d,l =>
     have g:=c x Q6
     have j:=c y Q6
     simp at g j e;refine⟨Q6,?_⟩
     rcases g with rfl|rfl<;>rcases j with rfl|rfl
     ·exact absurd rfl e
     ·rw[FD,if_neg Q0]
     ·rw[FD,if_pos Q0]
     ·exact absurd rfl e
   | x::y::z::r,e,c,_,_ =>
     have g:=c x Q6
     have j:=c y Q6
     have n:=c z Q6
     simp at g j n e;rcases g with rfl|rfl<;>rcases j with rfl|rfl<;>rcases n with rfl|rfl<;>simp at e
theorem zmh(w:World)(l n R c:Nat)(m:Value)(H d:List HE)(r:Nat)(t:List UInt8)(L:DN w l n H)(hn:n<=100)(d4:R<=64)(hc:c+1<=1099511627776)
 (U:∀h,h∈d↔h=⟨r,c+1,t⟩\/(h∈H/\h.b≠r)) (b4:d.length=if H.any (λb8=>decide (b8.b=r)) then H.length else H.length+1) (a5:d.length<=2) (O:A7 R (c+1) d) :
 Qk 257 #[.map (some l),.agg #[.int .i64 R,.int .i64 c,m],.int .i64 r,.string ⟨t.toArray⟩] w λe g=>∃v,e=.returned (.agg #[.int .i64 R,.int .i64 ((c+1:Nat):Int),v])/\g.ownsRow w.heap.size 271 3 v d.length (BB d)/\Ab l w g:=by
 have a7:-9223372036854775808<=(r:Int)/\(r:Int)<=9223372036854775807:=by
  have:=O.small ⟨r,c+1,t⟩ ((U _).2 (.inl rfl));simp only at this;omega
 have b1:=Aa (P9 (a:=(r:Int)) J4 (PG a7));have d9:IntKind.i64.wrap ((c:Int)+1)=((c+1:Nat):Int):=(AU _ Q0).trans Q0
 obtain⟨d2,K⟩:=Qe ((⟨t.toArray⟩:ByteArray):ByteArray);obtain⟨f,P⟩:=Qe w.heap.size;obtain⟨b6,V,X⟩:=L;have a4:=Ay (Ay (Ag w.heap.size w) (.cells #[.int .i64 (R:Nat),.int .i64 (c:Nat),m] 36)) (.cells #[.int .i64 0,.int .i64 0,.slice none 0 0] 36);have Q:=Aa ((V.alloc (.cells #[.int .i64 (R:Nat),.int .i64 (c:Nat),m] 36)).alloc (.cells #[.int .i64 0,.int .i64 0,.slice none 0 0] 36));have y:=Aa (Bb (.cells #[.int .i64 0,.int .i64 0,.slice none 0 0] 36) (Am w (.cells #[.int .i64 (R:Nat),.int .i64 (c:Nat),m] 36) f P.symm));have E:=Aa (Am (w.alloc (.cells #[.int .i64 (R:Nat),.int .i64 (c:Nat),m] 36)) (.cells #[.int .i64 0,.int .i64 0,.slice none 0 0] 36) (f+1) (by simp[P]))
 have Z:=Aa (Ab.of (k:=l) a4);have d5:=Aa P
 have a2:Hid (l<f):=by
  show _<_
  have:=V.lt;omega
 have x1:=AA y.out;have W:=Aa X;have b3:=Aa U;have b2:=Aa b4;have A:=Aa a5;have B:=Aa O;have c7:=Aa K;rw[K];clear V X a4 U b4 a5 O K a7
 go_enter Tryz.func257,Tryz.ntmps257
 go_upto_region 1 with(fail)
 generalize(w.alloc (.cells #[.int .i64 (R:Nat),.int .i64 (c:Nat),m] 36)).alloc (.cells #[.int .i64 0,.int .i64 0,.slice none 0 0] 36)=b7 at*
 go_wp2_with (first
  |(at_mapUpdate;refine wpList_mapUpdate_own _ rfl _ _ _ 371 rfl 3 271 KQ PD EO l n b6 rfl Q.out (by unfold maxLen;omega) _ _ _ rfl rfl b1.out _ [] rfl ?_;intro p b5 D)
  |go_in)
 have a1:Hid (DN p l (n+1) d):=⟨_,b5,by
  have:=W.out.put (e:=⟨r,c+1,t⟩) (Q.out.tidy KQ) b3.out b2.out;unfold G5 at this;rw[c7.out] at this;exact this⟩
 have c5:=Aa (Z.out.trans (Ab.grown1 D));have u:=Aa ((D.block f (Aj y.out) (by have:=a2.out;simp;omega)).trans y.out)
 have C:=Aa ((D.block (f+1) (Aj E.out) (by have:=a2.out;simp;omega)).trans E.out)
 have c6:Hid (w.heap.size<=p.heap.size):=by
  show _<=_
  have:=Aj u.out;omega
 clear b5 D Q y E Z W x1 b1;clear b7;have b9:=Aa zoM;have c1:=Aa (zt1 l)
 have c4:Hid (∀(j:World)(b:Nat),Qh j b (Obj.cells #[.map (some l)] 371 (0,0))->DN j l (n+1) d->Qk 281 #[.func (.func 310) #[] #[.pointer (some ⟨b,0,none⟩)]] j λe g=>∃v i,e=.returned v/\(i.length<=2/\FD (λh=>(h.b:Nat)) i=d/\∀h∈i,h.st<=1099511627776)/\g.ownsRow j.heap.size 271 3 v i.length (BB i)/\Qb j g):=λj b hb L=>by
  have d1:=zu7 A.out B.out.up;refine(ZJ j _ _ zl6 _ d.length (by have:=A.out;omega) (λi h=>by have:=(Zr A.out B.out.up h.1 h.2).1;omega) (λk hk=>zuv k hk b l (n+1) d d1 Q0 j hb L)).mono ?_
  rintro e g ⟨v,i,rfl,o,m,J⟩;obtain⟨h1,G⟩:=Zr A.out B.out.up o.1 o.2;exact⟨v,i,rfl,⟨h1,G,λh hh=>by have:=(B.out.one h ((o.2 h).1 hh)).2;omega⟩,m,J⟩
 have c0:Hid (∀(j:World)(v:Value)(i:List HE),Rd j j.heap.size 3 v i.length (BB i)->(i.length<=2/\FD (λh=>(h.b:Nat)) i=d/\∀h∈i,h.st<=1099511627776)->Qk 269 #[.agg #[.func (.func 308) #[] #[]],v] j λe g=>∃q c,e=.returned (.slice q d.length c)/\g.ownsRow j.heap.size 271 3 (.slice q d.length c) d.length (BB d)/\Qb j g):=λj v i m o=>by
  refine(zmf _ _ zpq j v i m o.1 o.2.2).mono ?_;rintro e g ⟨d3,rfl,z,J⟩
  have hl:i.length=d.length:=by
   have:=Co List.length (Co BB o.2.1);rw[PU,PU] at this;have I:=z.1;rw[PU] at I;omega
  rw[o.2.1,hl] at z;obtain⟨q,c,rfl⟩:=EN z;exact⟨q,c,rfl,z,J⟩
 have y0:=A8 u.out;have y1:=AA u.out;have d8:=Aj u.out
 have d0:Hid (∀g:World,Ab (f+1) p g->Ab (f+1) p g/\Qc g f 0 (.int .i64 (R:Nat))/\Qc g f 1 (.int .i64 (c:Nat))):=λg h=>by
  have o:=h.other u.out Q0
  exact⟨h,(Ae o 0).trans rfl,(Ae o 1).trans rfl⟩
 have d7:Ab (f+1) p p:=Ab.refl _ _;clear b3 b2
 go_region_held3 (λg=>Ab (f+1) p g/\Qc g f 0 (.int .i64 (R:Nat))/\Qc g f 1 (.int .i64 (c:Nat)))
  ((refine d0.out _ ?_;first|assumption|exact JR Q3|exact Bh Q3|exact zkm (Bh Q3) _|exact Nv Q3 (Bh Q3)|exact zkm Q3 _|exact Ab.set (Ab.set (Ab.set (Bh Q3) _ _) _ _) _ _|exact Ab.set (Ab.set (Ab.set Q3 _ _) _ _) _ _|fail))
  ((first
    |(go_at_call 280
      refine(b9.out _).mono ?_;rintro e Y ⟨rfl,a3⟩;have d6:Ab (f+1) p Y:=Nv a3 (Bh Q3)
      have a0:Hid (Qb p Y):=A9 a3 (Cq (Ag _ _)))
    |(go_at_call 282
      refine(c1.out _).mono ?_;rintro e w9 ⟨rfl,rfl⟩)
    |(go_at_call 281
      refine(c4.out _ _ (Am _ _ _ rfl) (a1.out.same ((Ay a0.out (.cells #[.map (some l)] 371)).block l a1.out.lt))).mono ?_;rintro e a8 ⟨v,i,rfl,o,m,S⟩;obtain⟨vq,vc,rfl⟩:=EN m;have e0:Ab (f+1) p a8:=Nv S (Bh Q3)
      have a9:Hid (Qb p a8):=A9 S (Ay a0.out (.cells #[.map (some l)] 371));have c9:=Aa o;have c2:=Aa (Rd.own m);clear o m S)
    |(go_at_call 269
      refine(c0.out _ _ i c2.out c9.out).mono ?_;rintro e x ⟨M,F,rfl,a6,T⟩;have e1:Ab (f+1) p x:=Nv T (Bh Q3)
      have b0:Hid (Qb p x):=A9 T a9.out;have c8:Hid (x.ownsRow p.heap.size 271 3 (.slice M d.length F) d.length (BB d)):=EY a6 a9.out.size;have s:=Al b0.out C.out;have r0:=A8 s;have r1:=AA s;have r2:=Bk s;have g0:=Ah s 0;have g1:=Ah s 1;have g2:=Ah s 2;clear a6 T)
    |fail))
 have c3:=Ak (Ak (Ak s 0 (.int .i64 (R:Nat))) 1 (.int .i64 ((c:Int)+1))) 2 (.slice M d.length F)
 go_wp2_with fail
 refine BV (L7 rfl _ _ _ ⟨f+1,0,none⟩ _ rfl (PR _ _ _ _ _ c3)) rfl ⟨_,rfl,?_,?_⟩
 ·have G:=Dq (Dq (Dq c8.out ((Ab.refl (f+1) x).set 0 (.int .i64 (R:Nat))) (by have:=Aj C.out;omega)) ((Ab.refl (f+1) _).set 1 (.int .i64 ((c:Int)+1))) (by have:=Aj C.out;omega)) ((Ab.refl (f+1) _).set 2 (.slice M d.length F)) (by have:=Aj C.out;omega)
  exact EY G c6.out
 ·have I:Ab l w x:=c5.out.trans (Ab.of b0.out)
  have N:w.heap.size<=f+1:=Q0
  exact((I.setNew N _ _).setNew N _ _).setNew N _ _
theorem DN.look{H:List HE}(h:DN w n m H)(b:Nat)(s:b<=1000000){W:World}(o:W.heap[n]?=w.heap[n]?) :
 ∃x:Value,(Instr.lookup 371 (.map (some n)) (.int .i64 (b:Nat)) true).run Tryz.prog W=.ok (.tuple #[x,.bool (H.any λy=>decide (y.b=b))]) W/\(∀y∈H,y.b=b->x=G5 y)/\((H.any λy=>decide (y.b=b))=false->x=.agg #[.int .i64 0,.int .i64 0,.string ⟨#[]⟩]):=by
 obtain⟨D,⟨j,i,k,l⟩,d⟩:=h;have r:W.ownsMap Tryz.prog 3 EO n m D:=⟨j,i,o.trans k,l⟩;obtain⟨x,u,f,c⟩:=r.look_ok (t:=371) (e:=271) KQ PD (z:=.agg #[.int .i64 0,.int .i64 0,.string ⟨#[]⟩]) Q2 (rfl:EO _=some (.held _,[])) (P9 (a:=(b:Int)) J4 (PG Q0))
 rw[show Lit.int .i64 (b:Int)=Gh (b:Int) from rfl] at f c
 rw[d.has_iff] at f;refine⟨x,f,λy p q=>?_,λg=>?_⟩
 ·rw[<-q,(d.at0 y p).2] at c
  injection c with c
  injection c with c _
  injection c
 ·rw[<-d.has_iff] at g
  rw[Maps.atKey_of_not_has g] at c;injection c with c
  injection c with c _
  injection c
def G9(a c:Nat)(H:List HE):List HE:=H.map λx=>if x.b=a then⟨x.b,c+1,x.t⟩ else x
theorem UF(a c:Nat)(x:HE):(if x.b=a then(⟨x.b,c+1,x.t⟩:HE) else x).b=x.b:=by split<;>rfl
theorem zqu{H:List HE}(h:A7 n m H)(g:Nat):A7 n (m+1) (G9 g m H):=by
 have k:∀(i:Nat)(y:HE),(G9 g m H)[i]?=some y->∃x,H[i]?=some x/\y=if x.b=g then⟨x.b,m+1,x.t⟩ else x:=λi y a=>by
  unfold G9 at a;rw[EA] at a;cases d:H[i]? with
  |none=>rw[d] at a;simp at a
  |some x=>rw[d] at a;simp only[Iz,Om] at a;exact⟨x,rfl,a.symm⟩
 have l:∀y∈G9 g m H,∃x∈H,y=if x.b=g then⟨x.b,m+1,x.t⟩ else x:=λy a=>by
  obtain⟨x,b,c⟩:=C8.1 a;exact⟨x,b,c.symm⟩
 refine⟨by rw[G9,Da];exact h.room,?_,?_,?_,?_⟩
 ·intro i x y d a
  obtain⟨e,b,rfl⟩:=k i x d;obtain⟨f,c,rfl⟩:=k (i+1) y a;rw[UF,UF];exact h.up i e f b c
 ·intro y a
  obtain⟨x,b,rfl⟩:=l y a;have:=h.one x b;split
  ·simp only;omega
  ·omega
 ·intro y a
  obtain⟨x,b,rfl⟩:=l y a;rw[UF];exact h.small x b
 ·intro i j x y o d a
  obtain⟨e,b,rfl⟩:=k i x d;obtain⟨f,c,rfl⟩:=k j y a;have p:=h.one e (Cn b);have q:=h.one f (Cn c);have r:=h.apart i j e f o b c;have s:=h.lt (j-i-1) i e f b (by rw[show i+(j-i-1)+1=j by omega];exact c)
  split<;>split<;>(try simp only)<;>omega
theorem zuu{H:List HE}(h:A7 n m H){y:HE}(f:y∈H):∀x,x∈G9 y.b m H↔x=⟨y.b,m+1,y.t⟩\/(x∈H/\x.b≠y.b):=by
 have k:∀a∈H,a.b=y.b->a=y:=λa b e=>by
  obtain⟨i,d⟩:=List.mem_iff_getElem?.1 b;obtain⟨j,c⟩:=List.mem_iff_getElem?.1 f;rcases KJ i j with g|rfl|g
  ·have:=h.lt (j-i-1) i a y d (by rw[show i+(j-i-1)+1=j by omega];exact c);omega
  ·rw[d] at c;injection c
  ·have:=h.lt (i-j-1) j y a c (by rw[show j+(i-j-1)+1=i by omega];exact d);omega
 intro x;unfold G9;rw[C8]
 constructor
 ·rintro⟨a,b,rfl⟩
  by_cases e:a.b=y.b
  ·rw[if_pos e,k a b e];exact .inl rfl
  ·rw[if_neg e];exact .inr ⟨b,e⟩
 ·rintro(rfl|⟨b,e⟩)
  ·exact⟨y,f,by rw[if_pos rfl]⟩
  ·exact⟨x,b,by rw[if_neg e]⟩
theorem ZC(w:World)(R c:Nat)(x:Value)(H:List HE)(U:Rd w w.heap.size 3 x H.length (BB H))(d7:1<=R/\R<=2)(hc:c+1<=1099511627776)(N:A7 R c H)(g:Nat)(d4:g<=1000000) :
 Qk 219 #[.agg #[Qi R,Qi c,x],Qi g] w λe d=>Qb w d /\
  ((∃y∈H,y.b=g/\∃v,e=.returned (.tuple #[.string ⟨y.t.toArray⟩,.agg #[Qi R,Qi ((c+1:Nat):Int),v],Qi 0])/\d.ownsRow w.heap.size 271 3 v H.length (BB (G9 g c H))) \/
   ((H.any λy=>decide (y.b=g))=false/\e=.returned (.tuple #[.string ⟨#[]⟩,.agg #[Qi 0,Qi 0,.slice none 0 0],Qi 5]))):=by
 obtain⟨q,i,rfl,-,-⟩:=U.isSlice;obtain⟨a,a7⟩:=Qe w.heap.size;have l:=Aa (Bb (.cells #[Qi 0,Qi 0,.slice none 0 0] 36) (Am w (.cells #[Qi (R:Nat),Qi (c:Nat),.slice q H.length i] 36) a a7.symm));have b2:=Aa (Am (w.alloc (.cells #[Qi (R:Nat),Qi (c:Nat),.slice q H.length i] 36)) (.cells #[Qi 0,Qi 0,.slice none 0 0] 36) (a+1) (by simp[a7]))
 have L:=Aa (Ay (Ay (Ag w.heap.size w) (.cells #[Qi (R:Nat),Qi (c:Nat),.slice q H.length i] 36)) (.cells #[Qi 0,Qi 0,.slice none 0 0] 36));have b1:=Aa U;have d8:=Aa a7;have b0:=Aa (λW (h:Rd W W.heap.size 3 (.slice q H.length i) H.length (BB H))=>RA W R c (.slice q H.length i) H h Q0 Q0 N)
 have a9:=Aa (λW (h:Rd W W.heap.size 3 (.slice q H.length i) H.length (BB H))=>ztO W R c (.slice q H.length i) H h Q0 N)
 have a1:=Aa N;have e0:((c:Int)==1099511627776)=false:=Ez.2 Q0
 clear U N
 go_enter Tryz.func219,Tryz.ntmps219
 go_upto_region 1 with(fail)
 generalize(w.alloc (.cells #[Qi (R:Nat),Qi (c:Nat),.slice q H.length i] 36)).alloc (.cells #[Qi 0,Qi 0,.slice none 0 0] 36)=W at*
 have X:=A8 l.out;have C:=AA l.out;have Y:=Bk l.out
 go_wp2_with fail
 refine(b0.out W ((Rd.below b1.out L.out (Af _)).mono L.out.size)).mono ?_;rintro e w1 ⟨rfl,n⟩;have E:=Aa (Al n l.out);have a2:=Aa (Al n b2.out);have D:=Aa (A9 n L.out);clear n l b2 L X C Y b0;have X:=A8 E.out;have C:=AA E.out;have Y:=Bk E.out
 go_wp2_with fail
 refine(a9.out w1 ((Rd.below b1.out D.out (Af _)).mono D.out.size)).mono ?_;rintro e z ⟨f,rfl,b7,S,n⟩;have c9:=Aa (Al n E.out);have b5:=Aa (Al n a2.out);have b3:=Aa (A9 n D.out);have Z:=Aa S
 have a0:Hid (a+1<f):=by
  show _<_
  have:=Aj a2.out;omega
 have c7:Hid (w.heap.size<=f):=BU D.out.size b7;obtain⟨d6,P,a8,a5⟩:=S.look g d4 (W:=z) rfl;clear n E a2 D X C Y a9 b7 S;cases hany:(H.any λy=>decide (y.b=g)) with
 | false =>
   rw[hany] at P;obtain rfl:=a5 hany;have F:=Aa (Bb (.cells #[Qi 0,Qi 0,.string ⟨#[]⟩] 271) b5.out);have M:=Aa (Ay b3.out (.cells #[Qi 0,Qi 0,.string ⟨#[]⟩] 271));have p:=F.out;have r0:=A8 p;have r1:=AA p;have r2:=Bk p;have f0:=Ah p 0;have f1:=Ah p 1;have f2:=Ah p 2;have B:=Ak (Ak (Ak p 0 (Qi 0)) 1 (Qi 0)) 2 (.slice none 0 0);have l:=Aa B;have t:w.heap.size<=a+1:=Q0
   have c5:=Aa (Ce (Ce (Ce M.out t 0 (Qi 0)) t 1 (Qi 0)) t 2 (.slice none 0 0));clear B p a8 a5
   go_wp2_with fail
   exact BV (TD rfl _ _ _ ⟨a+1,0,none⟩ _ rfl (PR _ _ _ _ _ l.out)) rfl ⟨c5.out,.inr ⟨hany,rfl⟩⟩
 | true =>
   rw[hany] at P;obtain⟨y,O,A⟩:=J8.1 hany;have A:=Kk A;obtain rfl:=a8 y O A;obtain⟨T,J⟩:=Qe ((⟨y.t.toArray⟩:ByteArray):ByteArray)
   have c0:Hid (∀u,DN u f H.length H->Qk 257 #[.map (some f),.agg #[Qi R,Qi c,.slice q H.length i],Qi g,.string T] u λe d=>∃o m,e=.returned (.agg #[Qi R,Qi ((c+1:Nat):Int),.slice o H.length m])/\d.ownsRow u.heap.size 271 3 (.slice o H.length m) H.length (BB (G9 g c H))/\Ab f u d):=λu h3=>by
    have hl:(G9 g c H).length=H.length:=by rw[G9,Da]
    have d9:=a1.out.room;have:=zmh u f H.length R c (.slice q H.length i) H (G9 g c H) g y.t h3 Q0 Q0 hc (by have h4:=zuu a1.out O;rw[A] at h4;exact h4) (by rw[hl,if_pos hany]) Q0 (zqu a1.out g)
    rw[J] at this;refine this.mono ?_;rintro e d ⟨v,rfl,x,I⟩;rw[hl] at x;obtain⟨o,m,rfl⟩:=EN x;exact⟨o,m,rfl,x,I⟩
   simp only[G5,J] at P;have G:=Ay (Ag z.heap.size z) (.cells #[Qi (y.b:Nat),Qi (y.st:Nat),.string T] 271);obtain⟨s,a4⟩:=Qe z.heap.size;have c3:=Aa (Am z (.cells #[Qi (y.b:Nat),Qi (y.st:Nat),.string T] 271) s a4.symm);have F:=Aa (Al G c9.out);have a3:=Aa (Al G b5.out);have M:=Aa (A9 G b3.out);have b4:=Aa (Z.out.same (G.block f Z.out.lt))
   have c6:Hid (f<s):=by
    show _<_
    rw[<-a4];exact Z.out.lt
   have c1:=Aa J;have d1:=Aa O;have d0:=Aa A;clear a8 a5 G J O A
   go_upto_region 5 with(fail)
   generalize z.alloc (.cells #[Qi (y.b:Nat),Qi (y.st:Nat),.string T] 271)=j at*
   have C:=AA F.out
   go_upto_region 9 with(fail)
   clear C P a4
   have b6:Hid (∀d:World,Ao (λk=>k=f\/k=a+1) j d->Ao (λk=>k=f\/k=a+1) j d/\Qc d a 0 (Qi (R:Nat))/\Qc d a 1 (Qi (c:Nat))/\Qc d a 2 (.slice q H.length i)/\Qc d s 2 (.string T)):=λd h=>by
    have V:=h.cells (b:=a) (by have:=a0.out;simp;omega) F.out
    have hz:=h.cells (b:=s) (by have:=a0.out;have:=c6.out;simp;omega) c3.out
    exact⟨h,(Ae V 0).trans rfl,(Ae V 1).trans rfl,(Ae V 2).trans rfl,(Ae hz 2).trans rfl⟩
   have d3:Ao (λk=>k=f\/k=a+1) j j:=Ao.refl _ _
   go_region_held3 (λd=>Ao (λk=>k=f\/k=a+1) j d/\Qc d a 0 (Qi (R:Nat))/\Qc d a 1 (Qi (c:Nat))/\Qc d a 2 (.slice q H.length i)/\Qc d s 2 (.string T))
    ((refine b6.out _ ?_;first|assumption|exact Bh Q3|exact Ao.set (Ao.set (Ao.set Q3 (q:=⟨a+1,0,none⟩) (Or.inr rfl) _) (q:=⟨a+1,1,none⟩) (Or.inr rfl) _) (q:=⟨a+1,2,none⟩) (Or.inr rfl) _|exact Ao.set (Ao.set (Ao.set (Bh Q3) (q:=⟨a+1,0,none⟩) (Or.inr rfl) _) (q:=⟨a+1,1,none⟩) (Or.inr rfl) _) (q:=⟨a+1,2,none⟩) (Or.inr rfl) _|fail))
    ((first
      |(go_at_call 257
        refine(c0.out j.drew (b4.out.same rfl)).mono ?_;rintro e K ⟨o,m,rfl,b8,I⟩;have Q:Hid (Ab f j K):=(JR (Ab.refl f j)).trans I;have d2:Ao (λk=>k=f\/k=a+1) j K:=λb cs d5 fz s h1=>(Q.out.block b (Aj h1) (λe=>s (.inl e))).trans h1;have c8:Hid (K.ownsRow j.heap.size 271 3 (.slice o H.length m) H.length (BB (G9 g c H))):=b8;have r:=Q.out.other a3.out (by have:=a0.out;omega)
        have r0:=A8 r;have r1:=AA r;have r2:=Bk r;have g0:=Ah r 0;have g1:=Ah r 1;have g2:=Ah r 2;clear b8 I)
      |fail))
   have B:=Ak (Ak (Ak r 0 (Qi (R:Nat))) 1 (Qi ((c:Int)+1))) 2 (.slice o H.length m);have l:=Aa B;have t:w.heap.size<=a+1:=Q0
   have a6:=Aj a3.out;have b9:=Dq (Dq (Dq c8.out ((Ab.refl (a+1) K).set 0 (Qi (R:Nat))) a6) ((Ab.refl (a+1) _).set 1 (Qi ((c:Int)+1))) a6) ((Ab.refl (a+1) _).set 2 (.slice o H.length m)) a6;have c2:=Aa (EY b9 M.out.size);have c4:=Aa (Ce (Ce (Ce (Q.out.bel M.out c7.out (Af _)) t 0 (Qi (R:Nat))) t 1 (Qi ((c:Int)+1))) t 2 (.slice o H.length m));clear B b9 r d2 d3 b6 F a3 b4
   go_wp2_with fail
   refine BV (TD rfl _ _ _ ⟨a+1,0,none⟩ _ rfl (PR _ _ _ _ _ l.out)) rfl ⟨c4.out,.inl ⟨y,d1.out,d0.out,_,?_,c2.out⟩⟩;rw[c1.out];rfl
end Go.Proofs.YtoejfkeofbdalaaGreatDoor
namespace Go.Proofs.YtoejfkeofbdalaaGreatDoor
open Go.RowKit Go.Shelf
theorem zuP(w:World):Qk 268 #[] w λe c=>e=.returned (.agg #[.func (.func 295) #[] #[]])/\Qb w c:=by
 obtain⟨z,b⟩:=Qe w.heap.size;have d:=Aa (Am w (.cells #[.func (.func 295) #[] #[]] 388) z b.symm);have a:=Aa (Ay (Ag w.heap.size w) (.cells #[.func (.func 295) #[] #[]] 388))
 go_enter Tryz.func268,Tryz.ntmps268
 go_wp2_with fail
 exact BV (L7 rfl _ _ _ ⟨z,0,none⟩ _ rfl (Yu _ _ _ d.out)) rfl ⟨rfl,a.out⟩
def Sl(h:HE):Int:=-((h.st:Nat):Int)
theorem zm8(d:HE->Int)(l:List HE):(∀h,h∈FD d l↔h∈l)/\(FD d l).length=l.length:=by
 match l with
 | []=>exact⟨λh=>Iff.rfl,rfl⟩
 | [a]=>exact⟨λh=>Iff.rfl,rfl⟩
 | [a,b]=>
   rw[FD];split
   ·exact⟨λh=>by simp;exact or_comm,rfl⟩
   ·exact⟨λh=>Iff.rfl,rfl⟩
 |a::b::c::r=>exact⟨λh=>Iff.rfl,rfl⟩
theorem zqQ(w:World)(R c:Nat)(l:Value)(H:List HE)(J:Rd w w.heap.size 3 l H.length (BB H))(c6:1<=R/\R<=2)(hc:c<=1099511627776)(z:A7 R c H) :
 Qk 240 #[.agg #[Qi R,Qi c,l]] w λe a=>∃v,e=.returned v/\Ad a w.heap.size v (ints ((FD Sl H).map (·.b)))/\Qb w a:=by
 obtain⟨q,d,rfl,-,-⟩:=J.isSlice;obtain⟨M,b1⟩:=Qe w.heap.size;have j:=Aa (Am w (.cells #[Qi (R:Nat),Qi (c:Nat),.slice q H.length d] 36) M b1.symm);have o:=Aa (Ay (Ag w.heap.size w) (.cells #[Qi (R:Nat),Qi (c:Nat),.slice q H.length d] 36));have E:=Aa J;have c7:=Aa b1;have a9:H.length<=2:=by have:=z.room;omega
 have B:=Aa (λW (h:Rd W W.heap.size 3 (.slice q H.length d) H.length (BB H))=>RA W R c (.slice q H.length d) H h Q0 Q0 z)
 have X:=Aa zuP;obtain⟨c2,A⟩:=zm8 Sl H;obtain⟨N,I⟩:=Qe H.length;obtain⟨L,G⟩:=Qe (FD Sl H)
 have C:Hid (∀W,Rd W W.heap.size 3 (.slice q H.length d) H.length (BB H)->Qk 269 #[.agg #[.func (.func 295) #[] #[]],.slice q H.length d] W λe a=>∃g f,e=.returned (.slice g N f)/\a.ownsRow W.heap.size 271 3 (.slice g N f) N (BB L)/\Qb W a):=λW h=>by
  refine(zmf _ _ zvL W _ H h a9 (λx t=>by have:=(z.one x t).2;omega)).mono ?_
  rintro e a ⟨v,rfl,l,n⟩;rw[show FD (λh=>-((h.st:Nat):Int)) H=L from G,I] at l
  obtain⟨g,f,rfl⟩:=EN l;exact⟨g,f,rfl,l,n⟩
 rw[G] at A |-;rw[I] at C B E j o A a9;have U:=Aa A;rw[I];clear J z c2 A G
 go_enter Tryz.func240,Tryz.ntmps240
 go_upto_region 1 with(fail)
 generalize w.alloc (.cells #[Qi (R:Nat),Qi (c:Nat),.slice q N d] 36)=W at*
 have x0:=A8 j.out;have x1:=AA j.out;have x2:=Bk j.out
 go_wp2_with fail
 refine(B.out W ((Rd.below E.out o.out (Af _)).mono o.out.size)).mono ?_;rintro e i ⟨rfl,n⟩;have a3:=Aa (Al n j.out);have m:=Aa (A9 n o.out);clear n j o x0 x1 x2 B
 go_upto_region 3 with(fail)
 have a4:Hid (∀a:World,Qb i a->Qb i a/\Qc a M 2 (.slice q N d)):=λa h =>
  ⟨h,(Ae (Al h a3.out) 2).trans rfl⟩
 have b9:Qb i i:=Ag _ _
 go_region_held3 (λa=>Qb i a/\Qc a M 2 (.slice q N d))
  ((refine a4.out _ ?_;first|assumption|exact Cq Q3|exact Bh Q3|exact Ay (Bh Q3) _|exact A9 Q3 (Bh Q3)|exact Ay Q3 _|fail))
  ((first
    |(go_at_call 268
      refine(X.out _).mono ?_;rintro e w8 ⟨rfl,a5⟩;have y:Qb i w8:=A9 a5 (Bh Q3))
    |(go_at_call 269
      refine(C.out _ ((Rd.below E.out (A9 y m.out) (Af _)).mono (A9 y m.out).size)).mono ?_;rintro e w9 ⟨g,f,rfl,b2,a6⟩;have a7:Qb i w9:=A9 a6 (Bh Q3)
      have a2:Hid (w9.ownsRow w.heap.size 271 3 (.slice g N f) N (BB L)):=EY b2 (A9 y m.out).size;clear b2)
    |fail))
 have a1:=Aa (m.out.trans (a7.mono m.out.size))
 try clear hHeld
 clear a5 y a6 a7 b9 a4 a3 m X C
 go_wp2_with fail
 go_loopw [13,2] (λK ov wr=>∃k:Nat,k<=N/\K=Qi k/\(∃oq Z,ov=.slice oq k Z/\Hid (Ad wr w.heap.size ov (ints ((L.take k).map (·.b)))))/\Hid (wr.ownsRow w.heap.size 271 3 (.slice g N f) N (BB L))/\Hid (Qb w wr)) (λK _ _=>N+1-(intOf K).toNat)
 case atStart=>exact⟨0,Q0,rfl,⟨_,_,rfl,Ad.nil _ _⟩,a2,a1⟩
 case round =>
  clear a2 a1;obtain⟨k,hk,rfl,⟨oq,Z,rfl,r⟩,F,D⟩:=hrel
  by_cases c0:k<N
  ·have hd:decide ((k:Int)<(N:Int))=true:=Bl Q0
   obtain⟨c3,c4,x,rfl,hg,t,e0,e1,e2⟩:=Sw (Rd.own F.out) U.out k c0;have c9:(k:Int)<(N:Int):=Q0
   have c8:(0:Int)<=(k:Int):=Q0
   have b:=Ay (Ag wr.heap.size wr) (.cells #[Qi (x.b:Nat),Qi (x.st:Nat),.string ⟨x.t.toArray⟩] 271);have u:=Aa (r.out.below b);have b6:=Aa (Cd F.out b);have O:=Aa (A9 b D.out);have a8:=Am wr (.cells #[Qi (x.b:Nat),Qi (x.st:Nat),.string ⟨x.t.toArray⟩] 271) _ rfl;have b0:=A8 a8;have p:L.take (k+1)=L.take k++[x]:=by rw[G7,t];rfl
   have b7:=Aa p
   have S:(ints ((L.take k).map (·.b))).length=k:=by
    have:=U.out;rw[Bj,Da,BO];omega
   obtain⟨xs,T⟩:=Qe (ints ((L.take k).map (·.b)));rw[T] at u S;have b8:=Aa T;have P:=Aa S;clear a8 b t r F D p T S
   go_upto_region 6 with(fail)
   generalize wr.alloc (.cells #[Qi (x.b:Nat),Qi (x.st:Nat),.string ⟨x.t.toArray⟩] 271)=s at*
   go_wp2_with
    (at_builtin
     refine KN rfl _ _ rfl w.heap.size _ xs rfl (u.out.alloc _) (s.heap.size+1) _ [(x.b:Int)] rfl (Ac.new s [(x.b:Int)] _ _ _ rfl rfl rfl (by simp[maxLen])) (by rw[P.out];simp;omega) (by have:=O.out.size;simp;omega) ?_
     intro a0 Y w5 V Q c1;have b:=Ay (Ag s.heap.size s) (.cells #[Qi (x.b:Nat)] 3);have b5:=Aa (OM (Cd b6.out b) (u.out.below b) Q5 Q)
     have b3:=Aa ((A9 b O.out).grown Q (A9 b O.out).size (λc5 e=>Dm u.out e))
     have b4:Hid (Ad w5 w.heap.size (.slice a0 (k+1) Y) (ints ((L.take (k+1)).map (·.b)))):=by
      show Ad _ _ _ _
      rw[b7.out,D3,show ints ((L.take k).map (·.b)++[x].map (·.b))=ints ((L.take k).map (·.b))++[(x.b:Int)] by simp[ints],b8.out]
      rw[P.out] at V;exact V
     rw[P.out];clear V Q c1 b)
   go_roundw
   case rel=>exact⟨k+1,Q0,by go_num,⟨a0,Y,rfl,b4⟩,b5,b3⟩
   case measure=>simp[intOf];omega
  ·obtain rfl:k=N:=Q0
   have p:L.take k=L:=BR (by rw[U.out];exact Af _)
   rw[p] at r;clear p
   go_wp2_with fail
   go_ret
   exact⟨_,rfl,r.out,D.out⟩
