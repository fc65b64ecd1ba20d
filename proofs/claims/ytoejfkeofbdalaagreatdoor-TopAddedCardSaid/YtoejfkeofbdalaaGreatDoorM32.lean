import Derived.Test.YtoejfkeofbdalaaGreatDoorM30
import Derived.Test.YtoejfkeofbdalaaGreatDoorM31
set_option linter.all false
set_option maxRecDepth 100000
set_option maxHeartbeats 8000000
namespace Go.Proofs.YtoejfkeofbdalaaGreatDoor
open Go.RowKit
variable {n:Nat} {v w:World}
abbrev EF(w:World)(a:Nat)(A:ByteArray)(o:Nat)(v:Value):Prop:=w.heap[a]?=some (Obj.cells #[.string A,Qi (o:Nat),v] 110 (0,0))
theorem EF.only{m k:Nat}{t:ByteArray}{x:Value}(h:EF w n t k x)(a:Ab m w v)(b:n≠m):EF v n t k x:=a.other h b
theorem Ab.far{q i:Nat}(h:Ab n w v)(c:w.heap.size<=q)(u:Value):Ab n w (v.setCell ⟨q,i,none⟩ u) :=
 ⟨h.os,h.tape,h.output,by have:=h.size;simpa [World.setCell] using this,λj a b=>(Bg _ _ _ _ (by show j≠q;omega)).trans (h.block j a b)⟩
theorem zzl(w:World)(k:Nat)(s:ByteArray)(a x:Nat)(t:List UInt8)(b5:Dj w k s a (.slice none 0 0) (.slice none 0 0) (Qi 0))(hs:s.size<=1000000)(h0:t≠[])(i8:Gs t<=x)(r:x<=360)(h:BC s.data.toList a (Fm t)) :
 Qk 259 #[Qp k 0,Qi (x:Nat)] w λe d=>e=.returned (.tuple #[.string ⟨t.toArray⟩,.int .u32 (BG t:Nat)])/\Ab k w d/\∃g f u,Dj d k s (a+(Fm t).length) g f u:=by
 have j9:s.data.toList.length=s.size:=by simp
 have C:D6 t≠[]:=znH h0;have c2:(D6 t).length<=x:=by rw[TK];exact i8
 obtain⟨b,ax,px,m⟩:=zri s.data.toList a t (D6 t) C Q0 h
 have X:=Xm t.length t 0 0 (Af _) (.inl rfl);have k2:t.length<=51*x:=by have:=UI t;omega
 have b0:px (BJ (D6 t)).length=a+(Fm t).length:=m.top;have c4:=WR (D6 t);have a7:0<(BJ (D6 t)).length:=by unfold BJ;simp
 have d3:=zuK (D6 t) C;have d4:=ztH (D6 t) C;have f6:0<(Bq (D6 t)).length:=Ga.2 (Nu C);have f7:=O3 (D6 t);have P:=Qu t;have j:EP (D6 t)<65536:=by have:=Sb (D6 t) C;omega
 generalize hp:D6 t=p at C c2 m X b0 c4 a7 d3 d4 f6 f7 j
 have Z:Hid (∀W,Qk 284 #[.string s,Qi ((a+96:Nat):Int)] W λe d=>e=.returned (.tuple #[.string (D5 (Bq p)),Qi (b:Nat),Qi 0])/\Qb W d):=λW=>by
  have:=zwb W s (a+96) hs (by have:=m.fit0;omega)
  rw[m.un] at this;exact this
 have a1:Hid (∀W g f u,Dj W k s a g f u->Qk 283 #[Qp k 0,Qi 48] W λe d=>e=.returned (Qi 54156738319193)/\Dj d k s (a+48) g f u/\Ab k W d):=λW g f u B=>RD W k s a 48 54156738319193 _ _ _ B Q0 Q0 (by have:=m.fit0;omega) m.m48
 have V:Hid (∀W g f u,Dj W k s (a+48) g f u->Qk 283 #[Qp k 0,Qi 32] W λe d=>e=.returned (Qi (BG t:Nat))/\Dj d k s (a+80) g f u/\Ab k W d):=λW g f u B=>RD W k s (a+48) 32 _ _ _ _ B Q0 Q0 (by have:=m.fit0;omega) m.s32
 have U:Hid (∀W g f u,Dj W k s (a+80) g f u->Qk 283 #[Qp k 0,Qi 16] W λe d=>e=.returned (Qi (EP p:Nat))/\Dj d k s (a+96) g f u/\Ab k W d):=λW g f u B=>RD W k s (a+80) 16 _ _ _ _ B Q0 Q0 (by have:=m.fit0;omega) m.o16
 obtain⟨n,hn⟩:=Qe ((Bq p).length+2);obtain⟨M,v⟩:=Qe ((BJ p).length);obtain⟨G,a0⟩:=Qe (Cs M);rw[v,a0,hn] at m;rw[v] at b0 c4 a7;have c0:0<G/\M<=10*G/\10*G<M+10:=by rw[<-a0];simp only[Cs];omega
 have d5:Hid (∀W,Dj W k s b (.slice none 0 0) (.slice none 0 0) (Qi (n:Nat))->Qk 286 #[Qp k 0] W λe d=>e=.returned (.tuple #[])/\Ab k W d/\∃g f L,Dj d k s (ax 2) g f (Qi (n:Nat))/\Ad d W.heap.size f (ints (Cz (BJ p) n))/\AC d W.heap.size g L/\L.map (·.2)=(List.range 2).map λi=>ints (B6 (BJ p) n i)):=λW B =>
  zwC W k s b b G n (Cz (BJ p) n) (B6 (BJ p) n) ax B Q0 Q0 Q0 m.n3 m.n15 Q0 Q0 (by have:=m.fit1;omega) m.sel (λi=>by have:=m.axle i;omega) (λi F=>⟨(m.tabs i F).1,(m.tabs i F).2.1⟩)
 have d7:Hid (∀W K g f L,Dj W k s (ax 2) g f (Qi (n:Nat))->k<K->K<=W.heap.size->Ad W K f (ints (Cz (BJ p) n))->AC W K g L->L.map (·.2)=(List.range 2).map (λi=>ints (B6 (BJ p) n i))->Qk 287 #[Qp k 0] W λe d=>∃sv,e=.returned sv/\Ab k W d/\Dj d k s (px M) g f (Qi (n:Nat))/\Ad d W.heap.size sv (ints (BJ p))):=λW K g f L B j8 hb j3 j5 j4 =>
  zqZ W k K s n G M g f L (Cz (BJ p) n) (BJ p) (B6 (BJ p) n) px (by rw[m.ax2];exact B) Q0 j8 hb j3 j5 j4 (λk9 hx=>by obtain⟨j0,-,rfl⟩:=C8.1 hx;exact Xz _ _ j0) (by rw[<-a0,<-v];simp[Cz]) (λi F=>(m.tabs i F).2.1) v a7 c0.2.1 c0.2.2 Q0 Q0 Q0
   (λq Q=>by have:=d4 q (by rw[v];exact Q);rw[v] at this;rw[<-this];omega) (λq Q=>by rw[<-hn];refine d3 _ ?_;rw[Cx,Az (by rw[v];exact Q)];exact Et _) (λq Q=>m.word q (by rw[v];exact Q))
 have Y:Hid (∀W b4,Qk 57 #[.agg #[.string (D5 (Bq p)),Qi (EP p:Nat),b4]] W λe d=>e=.returned (Qi (n:Nat))/\Qb W d):=λW b4=>by
  have:=znf (D5 (Bq p)) (EP p:Nat) b4 W (by rw[Jo];omega)
  rw[Jo,hn] at this;exact this
 have O:Hid (∀W q c,Ac W W.heap.size (.slice q M c) (ints (BJ p))->Qk 288 #[.agg #[.string (D5 (Bq p)),Qi (EP p:Nat),.slice q M c],Qi (x:Nat)] W λe d=>e=.returned (.tuple #[.string (D5 p),Qi 0])/\Qb W d):=λW q c F=>zrm W p x M c q C Q0 c2 Q0 v F
 have N:Hid (∀W,Qk 290 #[.string (D5 p),Qi ((52*x:Nat):Int)] W λe d=>e=.returned (.tuple #[.string ⟨t.toArray⟩,Qi 0])/\Qb W d):=λW=>by
  have:=zqM (D5 p) ((52*x:Nat):Int) W (by rw[Jo];omega) (by rw[JP,X.1];omega) Q0 (by rw[JP];exact X.2)
  rw[JP,X.1] at this;exact this
 have k8:=Aa b0;have j2:=Aa v;obtain⟨A,d8⟩:=Qe (D5 (Bq p));obtain⟨l0,f9⟩:=Qe (D5 p);obtain⟨l1,g1⟩:=Qe ((⟨t.toArray⟩:ByteArray):ByteArray);obtain⟨o,g8⟩:=Qe (EP p);obtain⟨c,c1⟩:=Qe (BG t);obtain⟨k3,d1⟩:=Qe (54156738319193:Int);obtain⟨b1,g2⟩:=Qe (a+48);obtain⟨b2,g3⟩:=Qe (a+80);obtain⟨b3,g4⟩:=Qe (a+96);obtain⟨k5,i9⟩:=Qe (52*x);have l5:(k3 ==(54156738319193:Int))=true:=by rw[<-d1];rfl
 have l7:IntKind.i64.wrap (52*(x:Int))=(k5:Int):=by rw[AU _ Q0];omega
 have l6:IntKind.u32.wrap (c:Int)=(c:Int):=by rw[c1] at P;simp[IntKind.wrap,IntKind.signed,IntKind.bits];omega
 rw[d8] at Z Y O;rw[f9] at O N;rw[g1] at N |-;rw[g8] at U Y O;rw[c1] at V |-;rw[d1] at a1;rw[g2] at a1 V;rw[g3] at V U;rw[g4] at U Z;rw[i9] at N;have HE:=Aa b5;have l3:=Aa (Aj b5);have j1:=Aa U3;have d6:=Aa UG;clear b5 m X k2 b0 c4 a7 d3 d4 f6 f7 P j hp hn v a0 c0 d8 f9 g1 g8 c1 d1 g2 g3 g4 i9 C c2 i8 h h0 j9
 go_enter Tryz.func259,Tryz.ntmps259
 go_wp2_with fail
 refine(a1.out _ _ _ _ HE.out).mono ?_;rintro e w1 ⟨rfl,r,j⟩;have e9:=Aa r;have d9:=Aa j;clear r j HE a1
 go_wp2_with fail
 refine(j1.out _ _).mono ?_;rintro e w2 ⟨rfl,rfl⟩
 go_wp2_with fail
 refine(V.out _ _ _ _ e9.out).mono ?_;rintro e w3 ⟨rfl,r,j⟩;have f0:=Aa r;have e0:=Aa (d9.out.trans j);clear r j e9 d9 V
 go_wp2_with fail
 refine(U.out _ _ _ _ f0.out).mono ?_;rintro e T ⟨rfl,r,j⟩;have b8:=Aa r;have b6:=Aa (e0.out.trans j);clear r j f0 e0 U
 go_upto_region 4 with(fail)
 obtain⟨l,c3⟩:=Qe T.heap.size;have g5:=Ay (Ag T.heap.size T) (.cells #[.string ⟨#[]⟩,Qi (o:Nat),.slice none 0 0] 110);have b7:Hid (EF (T.alloc (.cells #[.string ⟨#[]⟩,Qi (o:Nat),.slice none 0 0] 110)) l ⟨#[]⟩ o (.slice none 0 0)):=Am _ _ _ c3.symm;have D:=Aa (Bb (.cells #[.string ⟨#[]⟩,Qi (o:Nat),.slice none 0 0] 110) b8.out);have e1:=Aa (b6.out.trans (Ab.of g5));have H:Hid (l≠k):=by show _≠_;have:=Aj b8.out;omega
 have f3:Hid (w.heap.size<=l):=by show _<=_;have:=b6.out.size;omega
 rw[c3];clear g5 c3 b8 b6;generalize T.alloc (.cells #[.string ⟨#[]⟩,Qi (o:Nat),.slice none 0 0] 110)=E at*
 have k0:=(Ae D.out 0).trans rfl;have k1:=(Ae D.out 1).trans rfl;have kl:=Aj D.out;have ql:=Aj b7.out
 have f5:Hid (∀d:World,Qb E d->Qb E d/\Qc d k 0 (.string s)/\Qc d k 1 (Qi (b3:Nat))):=λd h=>by
  have h2:=(h.block k (Aj D.out)).trans D.out;exact⟨h,(Ae h2 0).trans rfl,(Ae h2 1).trans rfl⟩
 have j7:Qb E E:=Ag _ _
 go_region_held3 (λd=>Qb E d/\Qc d k 0 (.string s)/\Qc d k 1 (Qi (b3:Nat)))
  ((refine f5.out _ ?_;first|assumption|exact Cq Q3|exact A9 Q3 (Bh Q3)|fail))
  ((go_at_call 284
    refine(Z.out _).mono ?_;rintro e w6 ⟨rfl,f8⟩;have a5:Qb E w6:=A9 f8 (Bh Q3)))
 have f1:Hid (Dj w6 k s b3 (.slice none 0 0) (.slice none 0 0) (Qi 0)):=(a5.block k kl).trans D.out;have e6:Hid (EF w6 l ⟨#[]⟩ o (.slice none 0 0)):=(a5.block l ql).trans b7.out;have e2:=Aa (e1.out.trans (Ab.of a5));clear f8 a5 j7 f5 k0 k1 kl ql D b7 e1 Z
 try clear hHeld
 go_wp2_with fail
 refine(Ux w6 k s b3 b _ _ _ f1.out).mono ?_;rintro e w7 ⟨rfl,r,j⟩;have f2:=Aa r;have e3:=Aa (e2.out.trans j);have a2:=Aa (EF.only e6.out j H.out);clear r j f1 e2 e6;have R:=(Ae a2.out 0).trans rfl;have qf:=Ah a2.out 0
 go_upto_region 7 with(fail)
 have g0:EF (w7.setCell ⟨l,0,none⟩ (.string A)) l A o (.slice none 0 0):=by
  have:=Ak a2.out 0 (.string A);unfold EF;simpa using this
 have b9:Hid (Dj (w7.setCell ⟨l,0,none⟩ (.string A)) k s b (.slice none 0 0) (.slice none 0 0) (Qi 0)):=(Bg _ _ _ _ (by show k≠l;exact λe=>H.out e.symm)).trans f2.out
 have e4:=Aa (e3.out.far (q:=l) (i:=0) f3.out (.string A));have I:=Aa g0;clear g0 f2 a2 e3 R qf;generalize w7.setCell ⟨l,0,none⟩ (.string A)=l2 at*
 have R:=(Ae I.out 0).trans rfl;have q1:=(Ae I.out 1).trans rfl;have S:=(Ae I.out 2).trans rfl
 go_wp2_with fail
 refine(Y.out _ _).mono ?_;rintro e w9 ⟨rfl,a4⟩;have a3:=Aa ((a4.block k (Aj b9.out)).trans b9.out);have e7:Hid (EF w9 l A o (.slice none 0 0)):=(a4.block l (Aj I.out)).trans I.out;have e5:=Aa (e4.out.trans (Ab.of a4));clear a4 b9 I e4 R q1 S Y;have k4:=(Ae a3.out 4).trans rfl;have f4:=Ah a3.out 4
 go_upto_region 8 with(fail)
 have i7:Dj (w9.setCell ⟨k,4,none⟩ (Qi (n:Nat))) k s b (.slice none 0 0) (.slice none 0 0) (Qi (n:Nat)):=by
  have:=Ak a3.out 4 (Qi ((n:Nat):Int));unfold Dj;simpa using this
 have d2:=(Ab.refl k w9).set 4 (Qi ((n:Nat):Int));have i1:=Aa (EF.only e7.out d2 H.out);have h6:=Aa (e5.out.trans d2);have c6:=Aa i7;clear i7 d2 a3 e7 e5 k4 f4;generalize w9.setCell ⟨k,4,none⟩ (Qi ((n:Nat):Int))=j6 at*
 go_wp2_with fail
 refine(d5.out _ c6.out).mono ?_;rintro e h1 ⟨rfl,j,g,f,L,r,P,ht,hl⟩;have i2:=Aa r;have c5:=Aa (EF.only i1.out j H.out);have h7:=Aa (h6.out.trans j);have h3:=Aa P;have i5:=Aa ht;have h5:=Aa hl;have g9:=j.size;have g6:=Aj c6.out;clear r j P ht hl i1 h6 d5
 go_wp2_with fail
 refine(d7.out h1 j6.heap.size g f L i2.out g6 g9 h3.out i5.out h5.out).mono ?_;rintro e J ⟨sv,rfl,j,r,a6⟩;have i3:=Aa r;have a8:=Aa (EF.only c5.out j H.out);have h8:=Aa (h7.out.trans j);obtain⟨z,y,rfl⟩:=a6.shape;have g7:(ints (BJ p)).length=M:=by rw[Bj,j2.out]
 rw[g7] at a6 |-;have i4:=Aa a6;have e8:Hid (l<h1.heap.size):=Aj c5.out;clear r j a6 g7 c6 i2 c5 h7 h3 i5 h5 d7 g9 g6;have S:=(Ae a8.out 2).trans rfl;have qf:=Ah a8.out 2
 go_upto_region 10 with(fail)
 have i6:EF (J.setCell ⟨l,2,none⟩ (.slice z M y)) l A o (.slice z M y):=by
  have:=Ak a8.out 2 (.slice z M y);unfold EF;simpa using this
 have c7:Hid (Dj (J.setCell ⟨l,2,none⟩ (.slice z M y)) k s (px M) g f (Qi (n:Nat))):=(Bg _ _ _ _ (by show k≠l;exact λe=>H.out e.symm)).trans i3.out
 have h9:=Aa (h8.out.far (q:=l) (i:=2) f3.out (.slice z M y));have h4:Hid (Ac (J.setCell ⟨l,2,none⟩ (.slice z M y)) (J.setCell ⟨l,2,none⟩ (.slice z M y)).heap.size (.slice z M y) (ints (BJ p))):=Ad.is (Dq i4.out ((Ab.refl l J).set 2 (.slice z M y)) e8.out);have a9:=Aa i6;clear i6 i3 a8 h8 i4 e8 S qf;generalize J.setCell ⟨l,2,none⟩ (.slice z M y)=l4 at*
 have R:=(Ae a9.out 0).trans rfl;have q1:=(Ae a9.out 1).trans rfl;have S:=(Ae a9.out 2).trans rfl
 go_wp2_with fail
 refine(O.out _ _ _ h4.out).mono ?_;rintro e l8 ⟨rfl,c9⟩;have c8:=Aa ((c9.block k (Aj c7.out)).trans c7.out);have i0:=Aa (h9.out.trans (Ab.of c9));clear c9 c7 a9 h9 h4 R q1 S O
 go_wp2_with fail
 refine(d6.out _).mono ?_;rintro e l9 ⟨rfl,rfl⟩
 go_wp2_with fail
 refine(N.out _).mono ?_;rintro e m0 ⟨rfl,d0⟩;have k7:=Aa ((d0.block k (Aj c8.out)).trans c8.out);have k6:=Aa (i0.out.trans (Ab.of d0));clear d0 c8 i0 N
 go_wp2_with fail
 refine(d6.out _).mono ?_;rintro e m1 ⟨rfl,rfl⟩
 go_wp2_with fail
 go_ret2
 exact⟨rfl,k6.out,_,_,_,by rw[<-k8.out];exact k7.out⟩
theorem zro(p q:Addr)(w:World) :
 CallsD Tryz.prog 258 #[.pointer (some p),.pointer (some q)] .returning w λe c d=>e=.returned (.tuple #[])/\c = .returning/\d=w:=by
 refine Rk Tryz.func258 rfl λa f b=>?_;apply wpS_seq
 apply wpS_region
 simp[wpOpsS,go_sem,recoverD,b,Tryz.ntmps258,Exit.thenS];refine wpS_of_wp ?_
 go_wp2
 cases a
 simp_all[bodyPostS,results,Tryz.results258]
theorem zmc(w:World)(s:ByteArray)(a g:Nat)(t:List UInt8)(hs:s.size<=1000000)(u:t≠[])(a1:Gs t<=g)(b8:1<=g)(v:g<=360)(h:BC s.data.toList a (Fm t)) :
 Qk 223 #[.string s,Qi (a:Nat),Qi (g:Nat)] w λe j=>e=.returned (.tuple #[.agg #[.string ⟨t.toArray⟩,.int .u32 (BG t:Nat),Qi (a:Nat),Qi ((a+(Fm t).length:Nat):Int)],Qi 0])/\Qb w j:=by
 have o:=h.1;have a7:s.data.toList.length=s.size:=by simp
 have a8:t.length<=51*g:=by have:=UI t;omega
 have I:Hid (∀W,Qk 52 #[Qi (g:Nat)] W λe j=>e=.returned (.bool true)/\W=j):=λW=>by
  have:=zm1 (g:Nat) W;rw[Bl Q0,Bl Q0,Nc] at this
  exact this
 have r:Hid (∀W k,Dj W k s a (.slice none 0 0) (.slice none 0 0) (Qi 0)->Qk 259 #[Qp k 0,Qi (g:Nat)] W λe j=>e=.returned (.tuple #[.string ⟨t.toArray⟩,.int .u32 (BG t:Nat)])/\Ab k W j/\∃L K J,Dj j k s (a+(Fm t).length) L K J):=λW k a4=>zzl W k s a g t a4 hs u a1 v h;have B:Hid (∀W,Qk 22 #[.string ⟨t.toArray⟩] W λe j=>e=.returned (.int .u32 (BG t:Nat))/\Qb W j):=λW=>UL ⟨t.toArray⟩ (by show t.length<=_;omega) W
 have a3:=Aa U3;obtain⟨d,T⟩:=Qe ((⟨t.toArray⟩:ByteArray):ByteArray);obtain⟨c,Z⟩:=Qe (BG t);obtain⟨m,a0⟩:=Qe (a+(Fm t).length);rw[T,Z] at r B |-;rw[a0] at r |-;have d1:decide ((a:Int)<0)=false:=AV Q0
 have b7:((c:Int)==(c:Int))=true:=by simp
 obtain⟨b,q⟩:=Qe w.heap.size;clear o a7 a8 h u a1 T Z a0
 go_enter_defers Tryz.func223,Tryz.ntmps223
 go_wp2_with fail
 refine(I.out _).mono ?_;rintro e x ⟨rfl,rfl⟩
 go_wp2_with fail
 have U:Qg (((w.alloc (.cells #[.string ⟨#[]⟩,.int .u32 0,Qi 0,Qi 0] 87)).alloc (.cells #[Qi 0] 25)).alloc (.cells #[.string s,Qi (a:Nat),.slice none 0 0,.slice none 0 0,Qi 0] 380)) b #[.string ⟨#[]⟩,.int .u32 0,Qi 0,Qi 0] 87:=Bb _ (Bb _ (Am _ _ _ q.symm));have V:Qg (((w.alloc (.cells #[.string ⟨#[]⟩,.int .u32 0,Qi 0,Qi 0] 87)).alloc (.cells #[Qi 0] 25)).alloc (.cells #[.string s,Qi (a:Nat),.slice none 0 0,.slice none 0 0,Qi 0] 380)) (b+1) #[Qi 0] 25:=Bb _ (Am _ _ _ (by simp[q]))
 have X:Dj (((w.alloc (.cells #[.string ⟨#[]⟩,.int .u32 0,Qi 0,Qi 0] 87)).alloc (.cells #[Qi 0] 25)).alloc (.cells #[.string s,Qi (a:Nat),.slice none 0 0,.slice none 0 0,Qi 0] 380)) (b+1+1) s a (.slice none 0 0) (.slice none 0 0) (Qi 0):=Am _ _ _ (by simp[q])
 have R:Qb w (((w.alloc (.cells #[.string ⟨#[]⟩,.int .u32 0,Qi 0,Qi 0] 87)).alloc (.cells #[Qi 0] 25)).alloc (.cells #[.string s,Qi (a:Nat),.slice none 0 0,.slice none 0 0,Qi 0] 380)):=Ay (Ay (Ay (Ag _ _) _) _) _;have E:=Aa U;have F:=Aa V;have Q:=Aa X;have C:=Aa R;have P:=Aa q;clear U V X R q;generalize((w.alloc (.cells #[.string ⟨#[]⟩,.int .u32 0,Qi 0,Qi 0] 87)).alloc (.cells #[Qi 0] 25)).alloc (.cells #[.string s,Qi (a:Nat),.slice none 0 0,.slice none 0 0,Qi 0] 380)=b4 at*
 refine(r.out _ _ Q.out).mono ?_;rintro e x ⟨rfl,i,L,K,J,v⟩;have D:=Aa v;have G:Hid (Qg x b #[.string ⟨#[]⟩,.int .u32 0,Qi 0,Qi 0] 87):=(i.block b (Aj E.out) Q0).trans E.out
 have H:Hid (Qg x (b+1) #[Qi 0] 25):=(i.block (b+1) (Aj F.out) Q0).trans F.out
 have Y:Qb w x:=C.out.trans ⟨i.os,i.tape,i.output,i.size,λa2 hj=>i.block a2 (by have:=C.out.size;omega) (by have:=P.out;omega)⟩
 have M:=Aa Y;clear v i Y E F Q C r I
 go_wp2_with fail
 refine(B.out _).mono ?_;rintro e l ⟨rfl,p⟩;have O:=Aa ((p.block _ (Aj D.out)).trans D.out);have n:=Aa ((p.block _ (Aj G.out)).trans G.out);have A:=Aa ((p.block _ (Aj H.out)).trans H.out);have N:=Aa (A9 p M.out);clear p D G H M B
 go_wp2_with fail
 refine(a3.out _ _).mono ?_;rintro e w3 ⟨rfl,rfl⟩;have k1:=(Ae O.out 1).trans rfl;have b0:=Ae n.out 0;have b1:=Ae n.out 1;have b2:=Ae n.out 2;have b3:=Ae n.out 3;have g0:=Ah n.out;have e0:=Ae A.out 0;have u:=Ah A.out
 go_wp2_with fail
 have y:Qh (((((l.setCell ⟨b,0,none⟩ (.string d)).setCell ⟨b,1,none⟩ (.int .u32 (c:Nat))).setCell ⟨b,2,none⟩ (Qi (a:Nat))).setCell ⟨b,3,none⟩ (Qi (m:Nat))).setCell ⟨b+1,0,none⟩ (Qi 0)) b (Obj.cells #[.string d,.int .u32 (c:Nat),Qi (a:Nat),Qi (m:Nat)] 87 (0,0)):=by
  have:=Ak (Ak (Ak (Ak n.out 0 (.string d)) 1 (.int .u32 (c:Nat))) 2 (Qi (a:Nat))) 3 (Qi (m:Nat));exact(Bg _ _ _ _ (by show b≠b+1;omega)).trans (by simpa using this)
 have a6:Qh (((((l.setCell ⟨b,0,none⟩ (.string d)).setCell ⟨b,1,none⟩ (.int .u32 (c:Nat))).setCell ⟨b,2,none⟩ (Qi (a:Nat))).setCell ⟨b,3,none⟩ (Qi (m:Nat))).setCell ⟨b+1,0,none⟩ (Qi 0)) (b+1) (Obj.cells #[Qi 0] 25 (0,0)):=by
  have z:b+1≠b:=Q0
  have h1:=(Bg (((l.setCell ⟨b,0,none⟩ (.string d)).setCell ⟨b,1,none⟩ (.int .u32 (c:Nat))).setCell ⟨b,2,none⟩ (Qi (a:Nat))) ⟨b,3,none⟩ (Qi (m:Nat)) (b+1) z).trans ((Bg ((l.setCell ⟨b,0,none⟩ (.string d)).setCell ⟨b,1,none⟩ (.int .u32 (c:Nat))) ⟨b,2,none⟩ (Qi (a:Nat)) (b+1) z).trans ((Bg (l.setCell ⟨b,0,none⟩ (.string d)) ⟨b,1,none⟩ (.int .u32 (c:Nat)) (b+1) z).trans ((Bg l ⟨b,0,none⟩ (.string d) (b+1) z).trans A.out)));have:=Ak h1 0 (Qi 0);simpa using this
 have S:Qb w (((((l.setCell ⟨b,0,none⟩ (.string d)).setCell ⟨b,1,none⟩ (.int .u32 (c:Nat))).setCell ⟨b,2,none⟩ (Qi (a:Nat))).setCell ⟨b,3,none⟩ (Qi (m:Nat))).setCell ⟨b+1,0,none⟩ (Qi 0)):=by
  have o:w.heap.size<=b:=EV P.out;have a9:w.heap.size<=b+1:=Q0
  exact Ce (Ce (Ce (Ce (Ce N.out o _ _) o _ _) o _ _) o _ _) a9 _ _
 have a5:=Aa S;clear S O n A N k1 b0 b1 b2 b3 g0 e0 u;generalize((((l.setCell ⟨b,0,none⟩ (.string d)).setCell ⟨b,1,none⟩ (.int .u32 (c:Nat))).setCell ⟨b,2,none⟩ (Qi (a:Nat))).setCell ⟨b,3,none⟩ (Qi (m:Nat))).setCell ⟨b+1,0,none⟩ (Qi 0)=b5 at*
 have m0:=(Ae y 0).trans rfl;have m1:=(Ae y 1).trans rfl;have m2:=(Ae y 2).trans rfl;have m3:=(Ae y 3).trans rfl;have m4:=(Ae a6 0).trans rfl;refine Oz (f:=258) (args:=#[.pointer (some ⟨b,0,none⟩),.pointer (some ⟨b+1,0,none⟩)]) Q6 (by simp[go_sem]) ?_
 refine(zro _ _ _).mono ?_;rintro e b6 b9 ⟨rfl,rfl,rfl⟩;simp[Leaves,settle,results,Tryz.results223,go_sem,m0,m1,m2,m3,m4];exact a5.out
end Go.Proofs.YtoejfkeofbdalaaGreatDoor
namespace Go.Proofs.YtoejfkeofbdalaaGreatDoor
open Go.RowKit Go.Shelf
attribute [local go_sem] Oper.semAt_some
variable {n:Nat} {w:World}
theorem zwt{t:ByteArray}{S:Av}(h:Bv t.data.toList n S.lv S.ts S.z S.pad)(c:t.size<=1000000):XL t n S:=by
 intro q a W;have b:=h.ok S.ts[q] (Et a);have d:=h.lv1;have e:=h.lv9;have:=zmc W t (EJ (8*n+32) S.ts q) (40*S.lv) S.ts[q] c b.1 b.2 Q0 Q0 (h.block q a)
 rw[<-zkp _ _ _ a] at this;unfold Tq Av.part;rw[Cx,Az a];exact this
theorem zub(s:ByteArray)(w:World) :
 Qk 128 #[.string s] w λe a=>e=.returned (.func (.func 174) #[] #[.pointer (some ⟨w.heap.size,0,none⟩)])/\w.alloc (.cells #[.string s] 9)=a:=by
 have Cw:=Cw
 go_enter Tryz.func128,Tryz.ntmps128
 go_wp2
 go_ret
 exact⟨rfl,rfl⟩
theorem znd:Enters Tryz.prog 174:=enters_of Tryz.func174 Q2 rfl
theorem AB.wider{T U:TypeId->Bool}{v:World}(h:AB n T w v)(g:∀t,T t=true->U t=true):AB n U w v :=
 ⟨h.os,h.tape,h.output,h.size,h.low,λb o d f=>h.kept b o d λa t c e=>by
   have:=f a t c e;cases hT:T t with
   |false=>rfl
   |true=>rw[g t hT] at this;cases this⟩
theorem zzI(t:TypeId)(h:QF t=true):KY t=true:=by unfold KY;rw[h];rfl
theorem zq4(i:Nat)(S:Av)(L:List Av)(b a:List (Option Ai))(h:b++DU i (S::L)=a):(b++(S.parts i).map some)++(if S.good then[] else[none])<+: a:=by
 rw[<-h,DU];cases S.good with
 |true=>simp
 |false=>simp
theorem zsz{F:Fence}{P:Program}{m:Nat}{h:Array Value}{R b:Ending->World->Prop}(c:YieldAt F n P m h w R)(i:∀e a,R e a->b e a):YieldAt F n P m h w b :=
 let ⟨d,k,l,j,f,g⟩:=c
 ⟨d,k,l,j,f,g.mono i⟩
theorem zw3(i:Nat)(S:Av)(L:List Av)(b a:List (Option Ai))(h:b++DU i (S::L)=a)(q:Nat)(x:Option Ai)(e:q<S.ts.length/\x=some (S.part i q)\/q=S.ts.length/\x=none/\S.good=false):(b++((S.parts i).take q).map some).length<a.length:=by
 rw[<-h,AJ,AJ,Da,BO,DU,AJ,Da,Av.length_parts];rcases e with⟨c,-⟩|⟨c,-,d⟩
 ·omega
 ·rw[d];simp;omega
theorem zxP(n:Nat)(hn:6<=n)(y g H:Nat)(s:ByteArray)(hs:s.size<=1000000)(L:List Av)(a0:L≠[])(C:KS s.data.toList 0 L)(a9:∀S∈L,S.ts.length<=100000)
 (J v:List (Option Ai)->World->Prop) (W:World) (b2:H<=W.heap.size) (P:Qg W g #[.string s] 9)
 (Z:∀s A B,J s A->AB H KY A B->J s B)
 (a1:∀(a:List (Option Ai)) (x:Option Ai) (c:World),J a c->a.length<(DU 0 L).length->YieldAt Fence.wide (n-1) Tryz.prog y (NZ x) c λe b=>(e=.returned (.bool true)/\J (a++[x]) b/\AZ KY c b/\c.heap.size<=b.heap.size)\/(e=.returned (.bool false)/\v (a++[x]) b))
 (V:J [] W) :
 CallsIn Fence.wide n Tryz.prog 174 #[.func (.yield y) #[] #[],.pointer (some ⟨g,0,none⟩)] W λe b=>(∃b8,e=.returned b8)/\((∃xs,xs=DU 0 L/\J xs b)\/(∃a,a <+: DU 0 L/\v a b)):=by
 have e2:0<s.size:=by
  cases L with
  |nil=>exact absurd rfl a0
  | cons S d9 =>
    have h1:=Av.fits C.1;have z:=Av.bytes_pos S;have f:s.data.toList.length=s.size:=by simp
    omega
 have e3:s.toList.isEmpty=false:=by
  rw[Lib.toList_data];have f:s.data.toList.length=s.size:=by simp
  cases E:s.data.toList with
  |nil=>rw[E] at f;simp at f;omega
  |cons x y=>rfl
 have m:=Aa Z;have b9:=Aa a1;have K:=Aa P;have a4:=Aa a9;have U:=A8 P;clear Z a1 P a0 a9;have k:=Aa C;clear C;refine Mw Tryz.func174 rfl trivial ?_ rfl;simp only[Tryz.ntmps174,F6,Bt,D4,Nat.reduceAdd,Nat.reduceSub,GM,GL,GQ,GN,C6,Di];have e1:1<=n:=Q0
 gi_wp2_with fail
 obtain⟨j,Q⟩:=Qe W.heap.size;have a8:Fv (W.alloc (.cells #[.string s,Qi 0,.slice none 0 0] 292)) j s (8*0) (.slice none 0 0):=Am _ _ _ Q.symm;have O:=Ay (Ag W.heap.size W) (.cells #[.string s,Qi 0,.slice none 0 0] 292);have a2:=Aa a8;have a3:=Aa (m.out _ _ _ V (AB.of O));have a5:=Aa ((O.block g (Aj K.out)).trans K.out);rw[Q] at b2 |-;clear a8 O K U V Q;generalize W.alloc (.cells #[.string s,Qi 0,.slice none 0 0] 292)=c at*
 gi_loopw [22] (λ_ wr=>∃(a:List (Option Ai)) (i:Nat) (M:List Av) (I:Value),(∀S∈M,S.ts.length<=100000)/\Hid (KS s.data.toList i M)/\Hid (Fv wr j s (8*i) I)/\Hid (J a wr)/\Hid (a++DU i M=DU 0 L)/\Hid (Qg wr g #[.string s] 9)) (λ_ wr=>8*s.size+1-(intOf ((wr.cell? ⟨j,1,none⟩).getD undef)).toNat)
 case atStart=>exact⟨[],0,L,_,a4.out,k,a2,a3,rfl,a5⟩
 case round =>
  clear a2 a3 a5 a4 k;obtain⟨a,i,M,I,D,k,HE,N,l,o⟩:=hrel;have R:s.data.toList.length=s.size:=by simp
  obtain⟨d,t⟩:=Qe (8*i);have U:=A8 o.out;have k1:Qc wr j 1 (Qi (d:Nat)):=by rw[<-t];exact(Ae HE.out 1).trans rfl
  have x0:=Aj HE.out;have e4:IntKind.i64.wrap (8*(s.size:Int))=((8*s.size:Nat):Int):=by rw[AU _ Q0];omega
  cases M with
  | nil =>
    have hi:i=s.size:=by have:=k.out;rw[<-R];exact this
    have E:decide ((d:Int)<8*(s.size:Int))=false:=AV Q0
    have c6:decide ((d:Int)<((8*s.size:Nat):Int))=false:=AV Q0
    have b4:a=DU 0 L:=by
     have:=l.out;rw[DU,Eu] at this;exact this
    have c4:=Aa b4;clear t hi R b4
    gi_wp2_with fail
    gi_quiet (fail)
    gi_wp2_with fail
    exact Fu (Dw rfl _ _ _) rfl ⟨⟨_,rfl⟩,.inl ⟨a,c4.out,m.out _ _ _ N.out (AB.of (EW (Ag _ _) _))⟩⟩
  | cons S M =>
    obtain⟨T,a7⟩:=k.out;have d3:=Av.fits T;have b0:=Av.bytes_pos S;have E:decide ((d:Int)<8*(s.size:Int))=true:=Bl Q0
    have c6:decide ((d:Int)<((8*s.size:Nat):Int))=true:=Bl Q0
    have a6:=Aa T;have c1:=Aa a7;have c3:=Aa k1;have c2:=Aa t;have c9:=D S Q6
    have c5:∀w∈M,w.ts.length<=100000:=λw h=>D w (by simp[h])
    have b6:=zw3 i S M a _ l.out;have b5:=zq4 i S M a _ l.out;have d5:=Aa b6;have d2:=Aa b5;have d1:Hid (d<8*s.size/\14<=S.bytes):=⟨Q0,b0⟩
    clear T a7 t R d3 b0 b6 b5 D
    gi_wp2_with fail
    gi_quiet (fail)
    have u:=EW (Ag wr.heap.size wr) nq;have p:=Aa ((u.block j x0).trans HE.out);have q:=Aa (m.out _ _ _ N.out (AB.of u));have r:=Aa ((u.block g (Aj o.out)).trans o.out);clear u HE N o U k1 x0;generalize wr.drewN nq=c0 at*
    gi_wp2_with fail
    refine⟨trivial,(zuj (n-1) (n-1) Q0 y j H s Q0 S i a6.out (zwt a6.out hs) c9 b2 (λa W=>J a W/\Qg W g #[.string s] 9) v a c0 I p.out
     (λs A B h Y=>⟨m.out _ _ _ h.1 (Y.wider zzI),Y.box h.2 Q5⟩)
     (λb7 x c h hq=>zsz (b9.out _ x c h.1 (d5.out b7 x hq)) λe d8 z=>by
       rcases z with⟨f,h4,X,h6⟩|f
       ·exact .inl ⟨f,⟨h4,X _ _ _ _ Q5 h.2⟩,X,h6⟩
       ·exact .inr f)
     ⟨q.out,r.out⟩).mono ?_⟩
    rintro e e0 ⟨d7,rfl,d6⟩;rcases d6 with⟨rfl,F,⟨G,b1⟩,d0,b3⟩|⟨rfl,F,G,b1⟩|⟨rfl,d4,c8,c7⟩
    ·clear p q r
     gi_wp2_with fail
     refine⟨⟨_,i+S.bytes,M,d0,c5,c1.out,b3,G,?_,b1⟩,?_⟩
     ·show _=_
      rw[<-l.out,DU,F];simp
     ·rw[c3.out,(Ae b3 1).trans rfl]
      have h1:=d1.out;have z:=c2.out
      show 8*s.size+1-(((8*(i+S.bytes):Nat):Int)).toNat<8*s.size+1-((d:Nat):Int).toNat
      omega
    ·clear p q r
     gi_wp2_with fail
     refine BV (Dw rfl _ _ _) rfl ⟨⟨_,rfl⟩,.inl ⟨_,?_,G⟩⟩;rw[<-l.out,DU,F];simp
    ·clear p q r
     gi_wp2_with fail
     exact BV (Dw rfl _ _ _) rfl ⟨⟨_,rfl⟩,.inr ⟨d4,c8.trans d2.out,c7⟩⟩
theorem zty(n:Nat)(q:6<=n)(a b:Nat)(s:ByteArray)(r:s.size<=1000000)(L:List Av)(o:L≠[])(l:KS s.data.toList 0 L)(u:∀S∈L,S.ts.length<=100000)(c:World)(v:b<=c.heap.size)(f:Qg c a #[.string s] 9) :
 zyx b KY n 174 #[.pointer (some ⟨a,0,none⟩)] NZ (λ_ _=>True) (λt=>t=DU 0 L) (λd=>d <+: DU 0 L) (DU 0 L).length c :=
 λy J g W e m w p i=>zxP n q y a b s r L o l u J g W (BU v e.size) ((e.block a (Aj f)).trans f) m (λd x h j k=>p d x h j k trivial) i
end Go.Proofs.YtoejfkeofbdalaaGreatDoor
namespace Go.Proofs.YtoejfkeofbdalaaGreatDoor
open Go.RowKit Go.Shelf
attribute [local go_sem] Oper.semAt_some
variable {D k m n:Nat} {u v w:World} {x:Value}
theorem V9{F:Fence}{A:Array Oper}{rest:List Oper}{g:Oper}{o:Act}{Q:Exit->Act->World->Prop}{t e:TypeId}(E:Dh t e x m k)(P:g.guard=none)(s l:Operand)
 (I:g.op=.call { callee:=.builtin .append,args:=#[s,l],argTypes:=#[t,t] })
 (i:Nat) (v:Value) (b:Nat) (y:List Value) (J:o.eval s=v) (V:w.ownsRow i e m v b y)
 (p:Addr) (a c:Nat) (f:List Value) (K:o.eval l=.slice (some p) a c) (H:f.length=a*m) (D:∀j u,f[j]?=some u->w.cell? (p.add j)=some u) (B:∀c∈f,c.oneCell'=true)
 (U:b+a<=17592186044416) (r:k<=8\/b+a<=1099511627776/\k<=128) (W:i<=w.heap.size)
 (h:∀q c d,d.ownsRow i e m (.slice q (b+a) c) (b+a) (y++f)->w.grownBy d v.ownBlock->wpListIn F n Tryz.prog A Q rest (o.put g.dst (.slice q (b+a) c)) d) :
 wpListIn F n Tryz.prog A Q (g::rest) o w:=by
 obtain⟨L,G,R,S,T⟩:=Ie E.info
 have O:(b+a)*k<=140737488355328:=by
  rcases r with r|⟨M,N⟩
  ·exact BU (Ou U r) Q0
  ·exact BU (Ou M N) Q0
 refine wpListIn_append_own w P s l t I i e L x m k E.under G R S T E.cells E.pos v b y J V p a c f K H D B (by unfold maxLen;omega) O W ?_
 intro Y d z C X;obtain⟨q,c,rfl⟩:=EN z;exact h q c d z C
theorem PP(h:Qb w v):KeepsFrom n w v:=⟨h.size,λk o _ a _=>(h.block k (Aj a)).trans a⟩
theorem V7{i j:Nat}{s:List Value}(h:w.ownsRow m k i x j s)(b:w.grownBy v x.ownBlock):KeepsFrom n w v:=⟨b.size,λe o _ a g=>(b.block e (Aj a) (λf=>by
 obtain⟨c,d⟩:=Gr h f.symm;rw[a] at d;cases d
 cases g)).trans a⟩
def JF(p:Ai):List Value:=[.string ⟨p.t.toArray⟩,.int .u32 (BG p.t:Nat),Qi (p.at0:Nat),Qi (p.next:Nat),Qi (p.room:Nat)]
def GY(a:List Ai):List Value:=a.flatMap JF
theorem zjA(a:List Ai)(p:Ai):GY (a++[p])=GY a++JF p:=by simp[GY]
theorem Yf(a:List Ai):(GY a).length=a.length*5:=by
 induction a with
 |nil=>rfl
 | cons p a b =>
   have:GY (p::a)=JF p++GY a:=by simp[GY]
   rw[this,AJ,b];simp[JF];omega
theorem ztF:Dh 129 136 (.agg #[.string ⟨#[]⟩,.int .u32 0,Qi 0,Qi 0,Qi 0]) 5 48:=⟨Tryz.underlying129,Q2,rfl,Q5⟩
structure FL(g:Nat)(w:World)(pre:List (Option Ai))(W:World):Prop where
 bel:Below g w W
 st:∃(v:Value)(ps:List Ai),pre=ps.map some/\Qh W g (Obj.cells #[v] 129 (0,0))/\W.ownsRow (g+2) 136 5 v ps.length (GY ps)
 er:Qh W (g+1) (Obj.cells #[Qi 0] 25 (0,0))
structure Je(g:Nat)(w:World)(c:Go.Code)(pre:List (Option Ai))(W:World):Prop where
 bel:Below g w W
 out:c=.ret/\∃ps:List Ai,pre=ps.map some++[none]
 res:Qh W g (Obj.cells #[.slice none 0 0] 129 (0,0))
 er:Qh W (g+1) (Obj.cells #[Qi 7] 25 (0,0))
def Ig(L:List Av):Bool:=L.all Av.good
def Cl(L:List Av):List Ai:=if Ig L then Pb 0 L else[]
def GG(L:List Av):Int:=if Ig L then 0 else 7
theorem zye(L:List Av):∀(i:Nat)(c:List Ai),DU i L=c.map some->Ig L=true/\c=Pb i L:=by
 induction L with
 |nil=>intro i c h;rw[DU] at h;refine⟨rfl,?_⟩;rw[Pb];exact(List.map_eq_nil_iff.1 h.symm)
 | cons S L o =>
   intro i c h;rw[DU] at h;cases hg:S.good with
   | false =>
     rw[hg] at h
     exfalso
     have l:(none:Option Ai)∈c.map some:=by rw[<-h];simp
     simp at l
   | true =>
     rw[hg,if_pos rfl] at h
     have m:∃k,c=S.parts i++k/\DU (i+S.bytes) L=k.map some:=by
      obtain⟨a,b,g,d,j⟩:=List.map_eq_append_iff.1 h.symm;have n:a=S.parts i:=(List.map_inj_right (f:=some) (λ_ _ e=>JN e)).1 d;exact⟨b,by rw[g,n],j.symm⟩
     obtain⟨k,rfl,g⟩:=m;obtain⟨d,j⟩:=o _ _ g;refine⟨?_,by rw[Pb,j]⟩
     unfold Ig at d |-;rw[List.all_cons,hg,d];rfl
theorem zx9(L:List Av):∀(i:Nat)(d:List Ai) (rest:List (Option Ai)),(d.map some++[none])++rest=DU i L->Ig L=false:=by
 induction L with
 |nil=>intro i d rest h;rw[DU] at h;simp at h
 | cons S L m =>
   intro i d rest h;unfold Ig;rw[List.all_cons];cases hg:S.good with
   |false=>rfl
   | true =>
     rw[DU,hg,if_pos rfl] at h;rw[Nc]
     have k:∃g:List Ai,(g.map some++[none])++rest=DU (i+S.bytes) L:=by
      rw[BN] at h;rcases List.append_eq_append_iff.1 h with⟨a,b,c⟩|⟨a,b,c⟩
      ·cases a with
       |nil=>exact⟨[],by simpa using c⟩
       | cons x a =>
         exfalso
         have e:x=none:=by
          have:=Co List.head? c;simp at this;exact this.symm
         subst e;have f:(none:Option Ai)∈(S.parts i).map some:=by rw[b];simp
         simp at f
      ·obtain⟨n,j,e,f,l⟩:=List.map_eq_append_iff.1 b
       refine⟨j,?_⟩;rw[l,BN];exact c.symm
     obtain⟨g,b⟩:=k;exact m _ _ _ b
theorem FL.own(u:n=w.heap.size)(s:n+2<=D):OwnFrom D (λl W=>FL n w l W):=by
 intro l W m x h i g
 have j:∀k c t d,Qh W k (Obj.cells c t d)->Qh m k (Obj.cells c t d):=λk c t d a=>(i.block k (Aj a) (λe=>by
  obtain⟨-,o,b,f⟩:=g k e.symm;rw[a] at b;cases b
  cases f)).trans a
 obtain⟨v,q,b,f,p⟩:=h.st;exact⟨h.bel.grown i (by have:=h.bel.size;omega) (λk a=>by have:=(g k a).1;omega),⟨v,q,b,j _ _ _ _ f,Nt p i (λr e=>(g r e).2)⟩,j _ _ _ _ h.er⟩
theorem FL.iter{b:List (Option Ai)}(h:FL n w b v)(i:n=w.heap.size)(a:AB n KY v u):FL n w b u:=by
 obtain⟨c,g,d,e,f⟩:=h.st;exact⟨a.below h.bel (Af _) Q0,⟨c,g,d,a.box e Q5,a.row f Q5⟩,a.box h.er Q5⟩
theorem Je.own(r:n=w.heap.size)(q:n+2<=D)(c:Go.Code):OwnFrom D (λl W=>Je n w c l W):=by
 intro l W m s h i g
 have j:∀k b t d,Qh W k (Obj.cells b t d)->Qh m k (Obj.cells b t d):=λk b t d a=>(i.block k (Aj a) (λe=>by
  obtain⟨-,o,f,p⟩:=g k e.symm;rw[a] at f;cases f
  cases p)).trans a
 exact⟨h.bel.grown i (by have:=h.bel.size;omega) (λk a=>by have:=(g k a).1;omega),h.out,j _ _ _ _ h.res,j _ _ _ _ h.er⟩
theorem Je.iter{c:Go.Code}{b:List (Option Ai)}(h:Je n w c b v)(d:n=w.heap.size)(a:AB n KY v u):Je n w c b u :=
 ⟨a.below h.bel (Af _) Q0,h.out,a.box h.res Q5,a.box h.er Q5⟩
def PL:Option Ai->List Value
 |some p=>JF p
 |none=>[.string ⟨#[]⟩,.int .u32 0,Qi 0,Qi 0,Qi 0]
def Ps:Option Ai->Int
 |some _=>0
 |none=>7
theorem Y9(a:Addr)(w:World)(v:Value)(b:w.cell? a=some v):(loadVar 129 a).run Tryz.prog w=.ok v w:=by
 simp[loadVar,isAgg,b]
theorem Xf(s:ByteArray)(w:World)(hs:s.size<=1000000)(L:List Av)(d1:L≠[])(K:KS s.data.toList 0 L)(Q:∀c7∈L,c7.ts.length<=100000)(a9:(DU 0 L).length<=1000000) :
 Qk 69 #[.string s] w λe b3=>∃v,e=.returned (.tuple #[v,Qi (GG L)])/\b3.ownsRow (w.heap.size+2) 136 5 v (Cl L).length (GY (Cl L))/\Qb w b3:=by
 have d0:=Aa (λW=>zub s W);obtain⟨D,e9⟩:∃D:Nat,8<=D:=⟨8,Q0⟩
 have d6:1<=D:=Q0
 refine(Em (n:=D)).1 ?_;refine Lr Tryz.func69 rfl trivial ?_ rfl;simp only[Tryz.ntmps69,F6,Bt,D4,Nat.reduceAdd,Nat.reduceSub,GM,GL,GQ,GN,C6,Di]
 gi_wp2_with fail
 refine⟨trivial,(Em.2 (d0.out _)).mono ?_⟩;rintro e w1 ⟨rfl,rfl⟩
 gi_wp2_with fail
 obtain⟨g,l⟩:=Qe w.heap.size;have R:Qh (((w.alloc (.cells #[.slice none 0 0] 129)).alloc (.cells #[Qi 0] 25)).alloc (.cells #[.string s] 9)) g (Obj.cells #[.slice none 0 0] 129 (0,0)):=Bb _ (Bb _ (Am _ _ _ l.symm));have S:Qh (((w.alloc (.cells #[.slice none 0 0] 129)).alloc (.cells #[Qi 0] 25)).alloc (.cells #[.string s] 9)) (g+1) (Obj.cells #[Qi 0] 25 (0,0)):=Bb _ (Am _ _ _ (by simp[l]))
 have T:Qh (((w.alloc (.cells #[.slice none 0 0] 129)).alloc (.cells #[Qi 0] 25)).alloc (.cells #[.string s] 9)) (g+2) (Obj.cells #[.string s] 9 (0,0)):=Am _ _ _ (by simp[l])
 have b5:(((w.alloc (.cells #[.slice none 0 0] 129)).alloc (.cells #[Qi 0] 25)).alloc (.cells #[.string s] 9)).heap.size=g+3:=by simp[l]
 have P:Below g w (((w.alloc (.cells #[.slice none 0 0] 129)).alloc (.cells #[Qi 0] 25)).alloc (.cells #[.string s] 9)):=by
  rw[<-l];exact Ay (Ay (Ay (Ag _ _) _) _) _
 rw[l];have d:Hid (g=w.heap.size):=l.symm;clear l;generalize((w.alloc (.cells #[.slice none 0 0] 129)).alloc (.cells #[Qi 0] 25)).alloc (.cells #[.string s] 9)=b2 at*
 refine zv2 (n:=D) (n0:=g) d6 (gf:=174) (lb:=#[.pointer (some ⟨g+2,0,none⟩)]) rfl znd (encs:=NZ) (λx=>by cases x<;>rfl) (λ_ _=>True) KY
  (zty (D-1) Q0 (g+2) g s hs L d1 K Q b2 Q0 T) (Ag _ _)
  (λt W=>FL g w t W) (λc t W=>Je g w c t W) (FL.own d.out Q0) (Je.own d.out Q0) (λt c5 c6 h a4=>h.iter d.out a4) (λc t c5 c6 h a4=>h.iter d.out a4)
  ⟨P,⟨_,[],rfl,R,GU _ _ _ _⟩,S⟩
  (λx a2 W=>∃y:Nat,Qh W y (Obj.cells (PL x).toArray 136 (0,0))/\a2 = { tmps:=#[.string s,undef,.pointer (some ⟨g,0,none⟩),.pointer (some ⟨g+1,0,none⟩),.pointer (some ⟨y,0,none⟩),Qi (Ps x),.string s,.func (.func 174) #[] #[.pointer (some ⟨g+2,0,none⟩)],.agg (PL x).toArray,Qi (Ps x),undef,undef,undef,undef,undef,undef,undef,undef],defers:=[] })
  (λx a2 _ W e8 f7 ⟨y,h1,h2⟩ e0 hr=>⟨y,(e0.block y (Aj h1) (λe=>by
    obtain⟨-,o,h3,h4⟩:=hr y e.symm;rw[h1] at h3;cases h3
    cases h4)).trans h1,h2⟩)
  ?assign ?body ?done ?stop
 case assign =>
  intro c9 t x W e7 b f5 e1 M;cases x with
  | none =>
    simp only[NZ,zyB];simp only[PL,Ps] at M
    gi_wp2_with fail
    have f:=Ay (Ag W.heap.size W) (.cells #[.string ⟨#[]⟩,.int .u32 0,Qi 0,Qi 0,Qi 0] 136);exact M _ _ (PP f) (AZ.of f) (b.iter d.out (AB.of f)) ⟨W.heap.size,Am _ _ _ rfl,rfl⟩
  | some p =>
    simp only[NZ,UX];simp only[PL,Ps,JF] at M
    gi_wp2_with fail
    have f:=Ay (Ag W.heap.size W) (.cells #[.string ⟨p.t.toArray⟩,.int .u32 (BG p.t:Nat),Qi (p.at0:Nat),Qi (p.next:Nat),Qi (p.room:Nat)] 136);exact M _ _ (PP f) (AZ.of f) (b.iter d.out (AB.of f)) ⟨W.heap.size,Am _ _ _ rfl,rfl⟩
 case body =>
  rintro c9 t x a2 W b ⟨y,m,rfl⟩ e1 e6;obtain⟨v,a,F,k,z⟩:=b.st;obtain⟨j,i,rfl⟩:=EN z
  have f4:a.length<=1000000:=by
   have:=Co List.length F;rw[Da] at this;omega
  have k0:=(Ae k 0).trans rfl;have f0:=Ah k 0;have k3:=(Ae b.er 0).trans rfl;have f3:=Ah b.er 0;have u:=Aa b;have J:=Aa k;have C:=Aa z;have b7:=Aa F;have G:=Aa b.er;have f2:1<=D-1-1:=Q0
  clear b k z F e6 a9 R S T P K Q;cases x with
  | none =>
    simp only[Ps,PL];clear m
    gi_wp2_with fail
    have d8:Below g w ((W.setCell ⟨g,0,none⟩ (.slice none 0 0)).setCell ⟨g+1,0,none⟩ (Qi 7)):=(u.out.bel.setCell (p:=⟨g,0,none⟩) (Af _) _).setCell (p:=⟨g+1,0,none⟩) (by show g<=g+1;omega) _
    refine⟨((FO W _ _).trans (FO _ _ _)).from _,⟨d8,⟨rfl,a,by rw[b7.out]⟩,?_,?_⟩⟩
    ·exact(Bg _ _ _ _ (by show g≠g+1;omega)).trans (Ak J.out 0 _)
    ·exact Ak ((Bg _ _ _ _ (by show g+1≠g;omega)).trans G.out) 0 _
  | some p =>
    have c0:=Ae m 0;have c1:=Ae m 1;have c2:=Ae m 2;have c3:=Ae m 3;have c4:=Ae m 4;have f8:=Aj m;simp only[Ps,PL,JF] at c0 c1 c2 c3 c4 |-;clear m
    gi_wp2_with
     (gi_at_builtin
      refine V9 ztF rfl _ _ rfl (g+2) _ a.length (GY a) rfl (C.out.alloc _) ⟨W.heap.size,0,none⟩ 1 1 (JF p) rfl rfl (λa0 c8 O=>by rw[show(⟨W.heap.size,0,none⟩:Addr).add a0=⟨W.heap.size,a0,none⟩ by simp[Addr.add];intro h;exact h.symm];rw[Ae (Am _ _ _ rfl) a0];simpa [JF] using O) (by intro c8 O;simp[JF] at O;rcases O with rfl|rfl|rfl|rfl|rfl<;>rfl) Q0 Q0 (by have:=u.out.bel.size;simp;omega) ?_
      intro q2 c2 A b8 b6;have f:=Ay (Ag W.heap.size W) (.cells #[.string ⟨p.t.toArray⟩,.int .u32 (BG p.t:Nat),Qi (p.at0:Nat),Qi (p.next:Nat),Qi (p.room:Nat)] 136);have B:(W.alloc (.cells #[.string ⟨p.t.toArray⟩,.int .u32 (BG p.t:Nat),Qi (p.at0:Nat),Qi (p.next:Nat),Qi (p.room:Nat)] 136)).grownBy A (Value.slice j a.length i).ownBlock:=b6;have Y:∀r,(Value.slice j a.length i).ownBlock=some r->g+2<=r:=λr e=>Dm C.out e;have X:=(B.block g (by simp;have:=Aj J.out;omega) (λe=>by have:=Y g e.symm;omega)).trans (Bb (.cells #[.string ⟨p.t.toArray⟩,.int .u32 (BG p.t:Nat),Qi (p.at0:Nat),Qi (p.next:Nat),Qi (p.room:Nat)] 136) J.out)
      have U:=(B.block (g+1) (by simp;have:=Aj G.out;omega) (λe=>by have:=Y (g+1) e.symm;omega)).trans (Bb (.cells #[.string ⟨p.t.toArray⟩,.int .u32 (BG p.t:Nat),Qi (p.at0:Nat),Qi (p.next:Nat),Qi (p.room:Nat)] 136) G.out)
      have f6:=(Ae X 0).trans rfl;have f1:=Ah X 0;have b4:=Aa X;have d3:=Aa U;have d4:Hid (KeepsFrom b2.heap.size W A):=(PP f).trans (V7 (C.out.alloc _) B);have d5:Hid (AZ KY W A):=(AZ.of f).grown (C.out.alloc _) Q5 B
      have d2:Hid (Below g w A):=(u.out.bel.trans (f.mono (by have:=u.out.bel.size;have:=d.out;omega))).grown B (by have:=u.out.bel.size;have:=d.out;simp;omega) (λr e=>by have:=Y r e;omega)
      have e5:=Aa b8;clear b8 b6 B f Y X U)
    refine⟨d4.out.trans ((FO A _ _).from _),d5.out.set (q:=⟨g,0,none⟩) b4.out Q5 _,?_⟩
    refine⟨d2.out.setCell (p:=⟨g,0,none⟩) (Af _) _,⟨_,a++[p],by rw[b7.out];simp,Ak b4.out 0 _,?_⟩,(Bg _ _ _ _ (by show g+1≠g;omega)).trans d3.out⟩
    rw[AJ,zjA];exact Dq e5.out ((Ab.refl g A).set 0 _) Q0
 case done =>
  rintro E xs W a3 rfl b N;obtain⟨v,a,F,k,z⟩:=b.st;obtain⟨j,i,e4⟩:=EN z;subst e4;obtain⟨b1,I⟩:=zye L 0 a F;have H:Hid (Cl L=a/\GG L=0):=⟨by unfold Cl;rw[if_pos b1,I],by unfold GG;rw[if_pos b1]⟩
  have k0:=(Ae k 0).trans rfl;have f0:=Ah k 0;have k3:=(Ae b.er 0).trans rfl;have f3:=Ah b.er 0;have u:=Aa b;have J:=Aa k;have C:=Aa z;have G:=Aa b.er;have V:E≠g:=Q0
  have Z:E≠g+1:=Q0
  have a5:Hid (w.heap.size<=E):=by show _<=_;have:=d.out;omega
  clear b k z F b1 I R S T P K Q b5 a3 a9
  gi_wp2_with fail
  have a7:Qh ((W.setCell ⟨g,0,none⟩ (.slice j a.length i)).setCell ⟨g+1,0,none⟩ (Qi 0)) E (.deferred (some [])):=(Bg _ _ _ _ Z).trans ((Bg _ _ _ _ V).trans N);have d9:Qh ((W.setCell ⟨g,0,none⟩ (.slice j a.length i)).setCell ⟨g+1,0,none⟩ (Qi 0)) g (Obj.cells #[.slice j a.length i] 129 (0,0)):=(Bg _ _ _ _ (by show g≠g+1;omega)).trans (Ak J.out 0 _)
  have U:Qh ((W.setCell ⟨g,0,none⟩ (.slice j a.length i)).setCell ⟨g+1,0,none⟩ (Qi 0)) (g+1) (Obj.cells #[Qi 0] 25 (0,0)):=Ak ((Bg _ _ _ _ (by show g+1≠g;omega)).trans G.out) 0 _
  have e2:=Dq C.out (((Ab.refl g W).set 0 (.slice j a.length i))) (by omega:g<g+2)
  have e3:=Dq e2 (((Ab.refl (g+1) (W.setCell ⟨g,0,none⟩ (.slice j a.length i))).set 0 (Qi 0))) (by omega:g+1<g+2)
  have d7:=(u.out.bel.setCell (p:=⟨g,0,none⟩) (Af _) (.slice j a.length i)).setCell (p:=⟨g+1,0,none⟩) (by show g<=g+1;omega) (Qi 0)
  refine⟨Q6,.inl ⟨_,_,rfl,J9 a7,?_⟩⟩
  have a6:=(GK (o:=.deferred none) (λe=>V e.symm)).trans d9;have a8:=(GK (o:=.deferred none) (λe=>Z e.symm)).trans U;refine⟨_,Rs rfl _ _ _ ⟨g,0,none⟩ ⟨g+1,0,none⟩ _ _ rfl rfl (Y9 _ _ _ ((Ae a6 0).trans rfl)) (O8 _ _ _ ((Ae a8 0).trans rfl)),_,by rw[H.out.2];rfl,?_,?_⟩
  ·rw[H.out.1,<-d.out]
   exact Nt e3 (Mu _ E _) (λr e=>by cases e;exact⟨_,a7,rfl⟩)
  ·rw[<-d.out]
   exact d7.trans (Kn (w:=w) (by have:=d.out;omega) _ E _ _ a5.out a7 rfl rfl)
 case stop =>
  rintro E c t W a3 ⟨rest,b9⟩ hx N;obtain⟨hc,a,I⟩:=hx.out;subst hc;have b0:=zx9 L 0 a rest (by rw[<-I];exact b9)
  have H:Hid (Cl L=[]/\GG L=7):=⟨by unfold Cl;rw[b0];rfl,by unfold GG;rw[b0];rfl⟩
  have a1:=Aa hx;have V:E≠g:=Q0
  have Z:E≠g+1:=Q0
  have a5:Hid (w.heap.size<=E):=by show _<=_;have:=d.out;omega
  clear hx I b0 b9 R S T P K Q b5 a3 a9
  gi_wp2_with fail
  refine⟨Q6,.inl ⟨_,_,rfl,J9 N,?_⟩⟩
  have a6:=(GK (o:=.deferred none) (λe=>V e.symm)).trans a1.out.res;have a8:=(GK (o:=.deferred none) (λe=>Z e.symm)).trans a1.out.er;refine⟨_,Rs rfl _ _ _ ⟨g,0,none⟩ ⟨g+1,0,none⟩ _ _ rfl rfl (Y9 _ _ _ ((Ae a6 0).trans rfl)) (O8 _ _ _ ((Ae a8 0).trans rfl)),_,by rw[H.out.2];rfl,?_,?_⟩
  ·rw[H.out.1]
   exact GU _ _ _ _
  ·rw[<-d.out]
   exact a1.out.bel.trans (Kn (w:=w) (by have:=d.out;omega) _ E _ _ a5.out N rfl rfl)
