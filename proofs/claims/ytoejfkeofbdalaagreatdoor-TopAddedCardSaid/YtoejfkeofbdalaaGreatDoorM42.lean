import Derived.Test.YtoejfkeofbdalaaGreatDoorM39
set_option linter.all false
set_option maxRecDepth 100000
set_option maxHeartbeats 8000000
namespace Go.Proofs.YtoejfkeofbdalaaGreatDoor
open Go.RowKit Go.Shelf
theorem zoX(k:Nat)(w:World)(a b c d e:Value)(h:Qg w k #[a,b,c,d,e] 56):(loadVar 56 ⟨k,0,none⟩).run Tryz.prog w=.ok (.agg #[a,b,c,d,e]) w:=by
 have f:=A8 h;have g:=AA h;have i:=Bk h;have j:=CY h;have l:=De h
 go_simp
theorem zmw(w:World)(a3 f A:Nat)(T:ByteArray)(iv:Value)(R c:Nat)(hv:Value)(X Y:Nat)(l:List Ai)(a4:List HE)(r:BF)(b7:List Value)(k:Dt a3 f A T iv R c hv X Y l a4 r b7 w)(p:Ai)(u:l[r.blk]?=some p) :
 Qk 222 #[GJ f] w λe a=>e=.returned (NN p.at0 p.room (BZ l r.blk) p.t.length (BG p.t))/\Qb w a:=by
 obtain⟨st,c5,b8,b,c6,c0,c7⟩:=r
 dsimp only at u |-
 have a2:=(Cc.1 u).1;obtain⟨b9,C,rfl,-,-⟩:=Rd.isSlice (Rd.own k.iv);obtain⟨g,o,p2,rfl,hg,B,D,E,F,G,H⟩:=NB (show Au w _ l from Rd.own k.iv) rfl b a2
 rw[u] at B;injection B with B
 subst B;have c3:=Aj k.dk;have c4:=Aj k.rd;have S:=Aa (λ(W:World) h=>OO W f A T (Qs g o l.length C) R c hv X Y h);obtain⟨N,a0⟩:=Qe l.length;have J:=k.dk;have a1:=k.rd;rw[a0] at J S a2;obtain⟨s,K⟩:=Qe (BG p.t);obtain⟨y,P⟩:=Qe p.t.length;obtain⟨z,Q⟩:=Qe p.room;obtain⟨v,O⟩:=Qe p.at0;obtain⟨t,L⟩:=Qe (BZ l b);rw[K,P,Q,O,L];rw[K] at H;rw[P] at G;rw[Q] at E;rw[O] at D;rw[L] at F;obtain⟨d,M⟩:=Qe w.heap.size;have n:=Ay (Ay (Ag w.heap.size w) (.cells #[Qp f 0,Qi 0] 196)) (.cells #[Qi 0,Qi 0,Qi 0,Qi 0,.int .u32 0] 56);have a5:=Aa (Bb (.cells #[Qi 0,Qi 0,Qi 0,Qi 0,.int .u32 0] 56) (Am w (.cells #[Qp f 0,Qi 0] 196) d M.symm));have a8:=Aa (Am (w.alloc (.cells #[Qp f 0,Qi 0] 196)) (.cells #[Qi 0,Qi 0,Qi 0,Qi 0,.int .u32 0] 56) (d+1) (by simp[M]))
 have V:=Aa (Al n J);have a7:=Aa (Al n a1);have U:=Aa n;have m:∀i x,Qc w g i x->Qc ((w.alloc (.cells #[Qp f 0,Qi 0] 196)).alloc (.cells #[Qi 0,Qi 0,Qi 0,Qi 0,.int .u32 0] 56)) g i x:=λi x h=>(KG (n.block g hg)).trans h;have a6:=Aa (Gc (m _ _ D) (Gc (m _ _ E) (Gc (m _ _ F) (Gc (m _ _ G) (m _ _ H)))));have c2:(b:Int)<(N:Int):=Q0
 have c1:(0:Int)<=(b:Int):=Q0
 unfold GJ at*
 unfold NN;clear k n J a1 m D E F G H u K P Q O L a0
 go_enter Tryz.func222,Tryz.ntmps222
 go_upto_region 1 with(fail)
 generalize(w.alloc _).alloc _=W at*
 have b3:Hid (∀a:World,Ab (d+1) W a->Ab (d+1) W a/\Qc a d 0 (Qp f 0)/\Qc a d 1 (Qi 0)/\Qc a f 1 (Qs g o N C)/\Qc a A 3 (Qi (b:Nat))/\Qc a g (o+b*5) (Qi (v:Nat))/\Qc a g (o+b*5+1) (Qi (z:Nat))/\Qc a g (o+b*5+2) (Qi (t:Nat))/\Qc a g (o+b*5+3) (Qi (y:Nat))/\Qc a g (o+b*5+4) (.int .u32 (s:Nat))):=λa h=>by
  have Z:=h.other a5 Q0
  have a9:=h.other V Q0
  have b0:=h.other a7 Q0
  have q:∀i x,Qc W g i x->Qc a g i x:=λi x hx=>(KG (h.block g (by have:=U.size;omega) Q0)).trans hx
  obtain⟨y0,y1,y2,y3,y4⟩:=a6.out;exact⟨h,(Ae Z 0).trans rfl,(Ae Z 1).trans rfl,(Ae a9 1).trans rfl,(Ae b0 3).trans rfl,q _ _ y0,q _ _ y1,q _ _ y2,q _ _ y3,q _ _ y4⟩
 have b6:Ab (d+1) W W:=Ab.refl _ _
 go_region_held3 (λa=>Ab (d+1) W a/\Qc a d 0 (Qp f 0)/\Qc a d 1 (Qi 0)/\Qc a f 1 (Qs g o N C)/\Qc a A 3 (Qi (b:Nat))/\Qc a g (o+b*5) (Qi (v:Nat))/\Qc a g (o+b*5+1) (Qi (z:Nat))/\Qc a g (o+b*5+2) (Qi (t:Nat))/\Qc a g (o+b*5+3) (Qi (y:Nat))/\Qc a g (o+b*5+4) (.int .u32 (s:Nat)))
  ((refine b3 _ ?_;first|assumption|exact JR Q3|exact Bh Q3|exact Nv Q3 (Bh Q3)|exact Ab.set (Ab.set (Ab.set (Ab.set (Ab.set (Bh Q3) _ _) _ _) _ _) _ _) _ _|exact Ab.set (Ab.set (Ab.set (Ab.set (Ab.set Q3 _ _) _ _) _ _) _ _) _ _|fail))
  ((first
    |(go_at_call 220
      refine(S W.drew V).mono ?_;rintro e w8 ⟨rfl,I⟩;have b4:Ab (d+1) W w8:=Nv I (JR b6);have b2:Hid (Qb W w8):=A9 I (Cq (Ag _ _));have j:=Al b2 a8;have r0:=A8 j;have r1:=AA j;have r2:=Bk j;have r3:=CY j;have r4:=De j;have g0:=Ah j 0;have g1:=Ah j 1;have g2:=Ah j 2;have g3:=Ah j 3;have g4:=Ah j 4;clear I)
    |fail))
 have b1:=Ak (Ak (Ak (Ak (Ak j 0 (Qi (v:Nat))) 1 (Qi (z:Nat))) 2 (Qi (t:Nat))) 3 (Qi (y:Nat))) 4 (.int .u32 (s:Nat));have b5:=((((b4.set 0 (Qi (v:Nat))).set 1 (Qi (z:Nat))).set 2 (Qi (t:Nat))).set 3 (Qi (y:Nat))).set 4 (.int .u32 (s:Nat))
 go_wp2_with fail
 refine BV (L7 rfl _ _ _ ⟨d+1,0,none⟩ _ rfl (zoX _ _ _ _ _ _ _ b1)) rfl ⟨rfl,?_⟩;have h:=b5.bel U (show w.heap.size<=d+1 by omega) (Af _)
 exact M ▸ h
