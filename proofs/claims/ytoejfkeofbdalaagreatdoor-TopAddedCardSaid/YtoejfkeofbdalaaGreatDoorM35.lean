import Derived.Test.YtoejfkeofbdalaaGreatDoorM33
set_option linter.all false
set_option maxRecDepth 100000
set_option maxHeartbeats 8000000
namespace Go.Proofs.YtoejfkeofbdalaaGreatDoor
open Go.RowKit
variable {L:List (List UInt8)} {e:List UInt8} {n:Nat} {w:World} {x:Value}
def JU(L:List (List UInt8)):List Value:=L.map λt=>.string ⟨t.toArray⟩
def BK(w:World)(v:Value)(L:List (List UInt8)):Prop:=Rd w w.heap.size 1 v L.length (JU L)
theorem BK.up{v:World}(h:BK w x L)(a:Qb w v):BK v x L:=Rd.up h a
theorem BK.shape(h:BK w x L):∃q c,x=.slice q L.length c:=by
 obtain⟨q,c,a,-⟩:=Rd.isSlice h;exact⟨q,c,a⟩
theorem BK.at{m:Nat}{A:Option Addr}(h:BK w (.slice A n m) L)(j:Nat)(t:List UInt8)(a:L[j]?=some t):∃g o,A=some ⟨g,o,none⟩/\g<w.heap.size/\Qc w g (o+j) (.string ⟨t.toArray⟩):=by
 have e:=(Cc.1 a).1;obtain⟨g,o,d,c,b⟩:=Rd.cellAt h Q0
 exact⟨g,o,d,c,b j _ (by simp[JU,a])⟩
theorem zpn(a:Nat):B.Right (LM a) 32:=⟨rfl,λi b c=>by
 have:(LM a).length=4:=rfl;omega⟩
theorem zuZ(a:Nat):Ba (B.slice (LM a) 0 32)=⟨(LM a).toArray⟩:=by
 unfold Ba;rw[B.pack_slice (zpn a)]
def GD(a:Nat)(b:List (List UInt8)):List (List Bool):=B.slice (LM a) 0 32::b.map Fm
theorem zrS(a:Nat)(b:List (List UInt8))(t:List UInt8):GD a (b++[t])=GD a b++[Fm t]:=by simp[GD]
theorem zx8(a:Nat)(b:List (List UInt8))(z:Nat):(GD a b++[Ja z]).flatten=Ij a b z:=by
 unfold GD Ij DX;simp
theorem zqG(h:ML n e):e.length<=51*n:=by
 have:=UI e;have:=h.2;omega
theorem zqy(h:ML n e)(b:n<=360):(Fm e).length<=30000:=by
 have a:=h.2;exact zpw e (D6 e) (by rw[TK];omega) (znH h.1)
theorem Wv{room:Nat}(b:room<=360):∀(a:List (List UInt8)),(∀t∈a,ML room t)->(DX a).length<=30000*a.length
 | [],_=>by simp[DX]
 | t::a,h=>by
   have e:=Wv b a (λx d=>h x (by simp[d]))
   have f:=zqy (h t Q6) b
   have c:DX (t::a)=Fm t++DX a:=by simp[DX]
   rw[c,AJ,Bt];omega
theorem zld(W:World)(c:UInt8):(convert 89 9 (Qs W.heap.size 0 1 1)).run Tryz.prog (W.alloc (.cells #[.int .u8 (c.toNat:Int)] 5))= .ok (.string ⟨#[c]⟩) (W.alloc (.cells #[.int .u8 (c.toNat:Int)] 5)):=by
 have h:Ap (W.alloc (.cells #[.int .u8 (c.toNat:Int)] 5)) W.heap.size (Qs W.heap.size 0 1 1) [c] :=
  ⟨by simp[byteCells],.inr ⟨W.heap.size,1,#[.int .u8 (c.toNat:Int)],rfl,Af _,Am _ _ _ rfl,Af _,by simp[maxLen],Q6,by simp[byteCells]⟩⟩
 exact M8 [c] h
theorem zvQ(w:World)(a:Nat)(d7:Value)(L:List (List UInt8))(V:BK w d7 L)(i:1<=a)(h9:a<=9)(a2:∀t∈L,ML (40*a) t)(h6:L.length<=1000) :
 Qk 16 #[Qi (a:Nat),d7] w λe d=>e=.returned (.tuple #[.string (Ba (Ij a L (Gj (L.map BG)))),Qi 0])/\Qb w d:=by
 have e1:Hid (∀t,t∈L->∀W,Qk 17 #[.string ⟨t.toArray⟩,Qi ((a*40:Nat):Int)] W λe d=>e=.returned (.tuple #[.agg #[.string (Ba (Fm t)),Qi ((Fm t).length:Nat)],Qi 0])/\Qb W d):=λt s W=>by
  have h:=a2 t s;have hl:=h.2;have n:=zqG h;have o:=zqy h Q0
  have h4:0<t.length:=Ga.2 h.1;exact ztp ⟨t.toArray⟩ ((a*40:Nat):Int) W h4 (by show t.length<=_;omega) Q0 Q0 (by show(Gs t:Int)<=_;omega) (by show(Fm t).length<=_;omega)
 have e4:Hid (∀t,t∈L->∀W,Qk 22 #[.string ⟨t.toArray⟩] W λe d=>e=.returned (.int .u32 (BG t:Nat))/\Qb W d):=λt s W=>UL ⟨t.toArray⟩ (by have:=zqG (a2 t s);show t.length<=_;omega) W
 have c8:=Wv (room:=40*a) Q0 L a2
 obtain⟨z,hz⟩:=Qe (Gj (L.map BG))
 have g4:∀d8∈L.map BG,d8<4294967296:=λd8 hx=>by
  obtain⟨t,-,rfl⟩:=C8.1 hx;exact Qu t
 have h8:Hid (∀W u,Rd W W.heap.size 1 u (L.map BG).length (Jy (L.map BG))->Qk 18 #[u] W λe d=>e=.returned (.int .u32 (z:Nat))/\z<4294967296/\W=d):=λW u h=>by
  have:=zuJ W u (L.map BG) h g4 (by rw[Da];omega)
  rw[hz] at this;exact this
 have a7:Hid (∀W,Qk 19 #[.agg #[.string ⟨#[]⟩,Qi 0],.int .u64 25779555029136,Qi 48] W λe d=>e=.returned (.tuple #[.agg #[.string (Ba (B.low 25779555029136 48)),Qi 48],Qi 0])/\Qb W d):=λW=>by
  have:=Sc W 25779555029136 48 (B.low 25779555029136 48) rfl Q0 Q0
  rw[B.length_low] at this;exact this
 have a8:Hid (z<4294967296->∀W,Qk 19 #[.agg #[.string (Ba (B.low 25779555029136 48)),Qi 48],.int .u64 (z:Nat),Qi 32] W λe d=>e=.returned (.tuple #[.agg #[.string (Ba (Ja z)),Qi 80],Qi 0])/\Qb W d):=λg9 W=>by
  have:=Sq W (B.low 25779555029136 48) z 32 (Ja z) rfl (by rw[B.length_low];omega) Q0 Q0
  rw[B.length_low,VS] at this;exact this
 obtain⟨D,h1⟩:=Qe (Ba (B.low 25779555029136 48));obtain⟨r,c4⟩:=Qe (Ba (Ja z));rw[h1] at a7 a8;rw[c4] at a8;have j0:=Aa c4;obtain⟨S,a0⟩:=Qe (Ij a L z);have f9:S.length=112+(DX L).length:=by rw[<-a0,OB]
 have f8:(GD a L++[Ja z]).flatten=S:=by rw[zx8,a0]
 rw[hz,a0];obtain⟨j9,c0⟩:=Qe (Ba S);rw[c0];have i8:=Aa c0;have i7:=Aa f9;have i6:=Aa f8;clear h1 c4 g4 hz a0 f9 f8 c0;obtain⟨d5,c,rfl⟩:=V.shape;obtain⟨N,c5⟩:=Qe L.length;rw[c5] at V h6 c8 |-;have q:=Aa V;have E:=Aa c5;have i1:=Aa c8;have k5:IntKind.u8.wrap (a:Int)=(a:Int):=by simp[IntKind.wrap,IntKind.signed,IntKind.bits];omega
 have k6:IntKind.u8.wrap (48+(a:Int))=((48+a:Nat):Int):=by simp[IntKind.wrap,IntKind.signed,IntKind.bits];omega
 have k7:IntKind.i64.wrap ((a:Int)*40)=((a*40:Nat):Int):=by rw[AU _ Q0];omega
 have d1:decide ((a:Int)<1)=false:=AV Q0
 have d2:decide (9<(a:Int))=false:=AV Q0
 have g5:(convert 89 9 (Qs w.heap.size 0 1 1)).run Tryz.prog (w.alloc (.cells #[.int .u8 (48+(a:Int))] 5))= .ok (.string ⟨#[UInt8.ofNat (48+a)]⟩) (w.alloc (.cells #[.int .u8 (48+(a:Int))] 5)):=by
  have h:=zld w (UInt8.ofNat (48+a));have e:((UInt8.ofNat (48+a)).toNat:Int)=48+(a:Int):=by rw[Ms];omega
  rw[e] at h;exact h
 have c7:(⟨#[80,77,107]⟩:ByteArray)++⟨#[UInt8.ofNat (48+a)]⟩=Ba (B.slice (LM a) 0 32):=by rw[zuZ];rfl
 obtain⟨k1,h2⟩:=Qe (UInt8.ofNat (48+a));rw[h2] at c7 g5;clear h2;obtain⟨T,c1⟩:=Qe (Ba (B.slice (LM a) 0 32));rw[c1] at c7;have i9:=Aa c1;clear V c5 c8 a2 c1
 go_enter Tryz.func16,Tryz.ntmps16
 go_wp2_with fail
 have b6:=Ay (Ay (Ag w.heap.size w) (.cells #[.int .u8 (48+(a:Int))] 5)) (.cells #[.string T,Qi 32] 50)
 have g1:((w.alloc (.cells #[.int .u8 (48+(a:Int))] 5)).alloc (.cells #[.string T,Qi 32] 50)).ownsRow w.heap.size 50 2 (Qs (w.heap.size+1) 0 1 1) 1 (DW ((GD a (L.take 0)).map Dp)):=by
  refine⟨by simp[DW,GD],.inr ⟨w.heap.size+1,1,#[.string T,Qi 32],rfl,M3 _,Am _ _ _ Q6,Af _,by simp[maxLen],Q6,?_⟩⟩
  simp[DW,GD,Dp,i9.out,B.length_slice]
 have p:=Aa g1;have x:=Aa b6;have f2:Hid (∀W,Qb w W->BK W (.slice d5 N c) L):=λW h=>q.out.up h;have f3:=Aa (q.out.up b6);clear b6 g1 q g5 c7;generalize(w.alloc (.cells #[.int .u8 (48+(a:Int))] 5)).alloc (.cells #[.string T,Qi 32] 50)=k0 at*
 go_loopw [32,6,7] (λkv h0 sv wr=>∃k:Nat,k<=N/\kv=Qi k/\(∃lq lc,h0=.slice lq (k+1) lc/\Hid (wr.ownsRow w.heap.size 50 2 h0 (k+1) (DW ((GD a (L.take k)).map Dp))))/\(∃sq sc,sv=.slice sq k sc/\Hid (wr.ownsRow w.heap.size 53 1 sv k (Jy ((L.take k).map BG))))/\Hid (BK wr (.slice d5 N c) L)/\Hid (Qb w wr)) (λkv _ _ _=>N+1-(intOf kv).toNat)
 case atStart=>exact⟨0,Q0,rfl,⟨_,_,rfl,p⟩,⟨_,_,rfl,Aa (GU _ _ _ _)⟩,f3,x⟩
 case round =>
  clear p x f3;obtain⟨k,hk,rfl,⟨lq,lc,rfl,p⟩,⟨sq,sc,rfl,F⟩,q,x⟩:=hrel
  by_cases j7:k<N
  ·have hd:decide ((k:Int)<(N:Int))=true:=Bl Q0
   have g6:k<L.length:=by rw[E.out];exact j7
   obtain⟨t,s⟩:∃t,L[k]?=some t:=⟨_,Az g6⟩
   have d3:t∈L:=by
    obtain⟨n,o⟩:=Cc.1 s;rw[<-o];exact Et n
   have M:L.take (k+1)=L.take k++[t]:=by
    obtain⟨n,o⟩:=Cc.1 s;rw[Ep n,o]
   obtain⟨h3,h5,hq,hg,j⟩:=q.out.at k t s;have Q:=Aa (e1.out t d3);have R:=Aa (e4.out t d3);subst hq;obtain⟨j8,d9⟩:=Qe ((⟨t.toArray⟩:ByteArray):ByteArray);obtain⟨a4,b9⟩:=Qe (Ba (Fm t));obtain⟨el,d0⟩:=Qe ((Fm t).length);obtain⟨cs,c9⟩:=Qe (BG t);rw[d9] at Q R j;rw[b9,d0] at Q;rw[c9] at R;have i5:=Aa b9;have i4:=Aa d0;have i2:=Aa c9;have f1:=Aa M;have k3:(k:Int)<(N:Int):=Q0
   have k2:(0:Int)<=(k:Int):=Q0
   clear g6 s d3 M d9 b9 d0 c9 e1 e4
   go_wp2_with fail
   refine(Q.out _).mono ?_;rintro e b ⟨rfl,l⟩;have C:=Aa (Cd p.out l);have H:=Aa (Cd F.out l);have j4:=Aa (q.out.up l);have A:=Aa (A9 l x.out);obtain⟨z5,d4⟩:=Qe b.heap.size;have j6:=A.out.size;have e5:=Aa (Ay (Ag b.heap.size b) (.cells #[.string a4,Qi (el:Nat)] 50));clear l p F q x Q j hg
   go_wp2_with
    (at_builtin
     refine JC Uh Q7 _ _ Q7 w.heap.size _ (k+1) (DW ((GD a (L.take k)).map Dp)) Q7 ((C.out.alloc _).alloc _) (z5+2) 1 _ [.string a4,Qi (el:Nat)] Q7 (Rd.mono (GX (Am _ _ _ (by simp[d4])) rfl Q7 (by simp[maxLen])) (by simp[d4])) (by intro c j;simp at j;rcases j with rfl|rfl<;>rfl) Q0 Q0 Q4 ?_
     intro q2 c2 y v m P;have f:=Ay e5.out (.cells #[.string a4,Qi (el:Nat)] 50);have K:=Cd C.out f;have I:=Aa (OM (Cd H.out f) K Q5 m)
     have a9:Hid (Qb w y):=(A.out.trans (f.mono A.out.size)).grown m Q4 (λd6 e=>Dm C.out e)
     have j5:Hid (BK y (Qs h3 h5 N c) L):=f2.out _ a9.out;have e9:=Aa v;clear v m P f K)
   refine(R.out _).mono ?_;rintro e X ⟨rfl,Z⟩;have j1:=Aa (Cd e9.out Z);have b4:=Aa (Cd I.out Z);have b2:=Aa (A9 Z a9.out);obtain⟨z7,g7⟩:=Qe X.heap.size;have k8:=b2.out.size;clear Z C H j4 A e5 e9 I a9 j5 R d4 j6
   go_wp2_with
    (at_builtin
     refine JC zmo Q7 _ _ Q7 w.heap.size _ k (Jy ((L.take k).map BG)) Q7 (b4.out.alloc _) (z7+1) 1 _ [.int .u32 (cs:Nat)] Q7 (Rd.mono (GX (Am _ _ _ g7.symm) rfl Q7 (by simp[maxLen])) (by simp[g7])) (by intro c j;simp at j;subst j;rfl) Q0 Q0 Q4 ?_
     intro q3 c3 w3 v m P;have f:=Ay (Ag X.heap.size X) (.cells #[.int .u32 (cs:Nat)] 53);have K:=Cd b4.out f;have j2:=Aa (OM (Cd j1.out f) K Q5 m)
     have G:Hid (Qb w w3):=(b2.out.trans (f.mono b2.out.size)).grown m Q4 (λd6 e=>Dm b4.out e)
     have j3:=Aa v;clear v m P f K)
   go_roundw
   case rel =>
    refine⟨k+1,Q0,by go_num,⟨q2,c2,rfl,?_⟩,⟨q3,c3,rfl,?_⟩,f2.out _ G.out,G⟩
    ·show World.ownsRow _ _ _ _ _ _ _
     have i:=j2.out;rw[f1.out,zrS,D3];simp only[DW,Iw,Dz,Jl,IQ,QT,Dp,i5.out,i4.out,Eu];simp only[DW] at i;exact i
    ·show World.ownsRow _ _ _ _ _ _ _
     have i:=j3.out;rw[f1.out,D3,Dz,Jl,zmT,i2.out];exact i
   case measure=>simp[intOf];omega
  ·obtain rfl:k=N:=Q0
   have M:L.take k=L:=BR (by rw[E.out];exact Af _)
   rw[M] at p F;clear M
   go_wp2_with fail
   refine(a7.out _).mono ?_;rintro e b ⟨rfl,l⟩;have C:=Aa (Cd p.out l);have H:=Aa (Cd F.out l);have A:=Aa (A9 l x.out);clear l p F q x a7
   go_upto_region 15 with(fail)
   obtain⟨g,a1⟩:=Qe b.heap.size;have g2:Qh (b.alloc (.cells #[.string D,Qi 48] 50)) g (Obj.cells #[.string D,Qi 48] 50 (0,0)):=Am _ _ _ a1.symm;have c6:=Ay (Ag b.heap.size b) (.cells #[.string D,Qi 48] 50);have e6:=Aa c6;have J:=Aa g2;have I:=Aa (Cd H.out c6)
   have f7:Hid (∀W,Below (b.alloc (.cells #[.string D,Qi 48] 50)).heap.size (b.alloc (.cells #[.string D,Qi 48] 50)) W->Qk 18 #[.slice sq k sc] W λe d=>e=.returned (.int .u32 (z:Nat))/\z<4294967296/\W=d):=λW h7=>h8.out W _ (by
    have i:=Rd.own (Cd I.out h7);have n:(L.map BG).length=k:=by rw[Da,E.out]
    rw[n];exact i)
   have i3:Hid (b.heap.size=g):=a1;rw[a1];clear g2 c6 a1;generalize b.alloc (.cells #[.string D,Qi 48] 50)=a5 at*
   have e0:=(Ae J.out 0).trans rfl;have U:=(Ae J.out 1).trans rfl;have b5:Hid (Qb a5 a5):=Ag _ _
   go_region_with
    (first
     |(go_at_call 18
       refine(f7.out _ (Cq b5.out)).mono ?_;rintro e X ⟨rfl,g9,rfl⟩;have e3:=Aa (a8.out g9);have k4:IntKind.u64.wrap (z:Int)=(z:Int):=P4 _ Q0)
     |(go_at_call 19
       refine(e3.out _).mono ?_;rintro e Y ⟨rfl,b7⟩;have O:=(b7.block g (Aj J.out)).trans J.out;have b0:=Ae O 0;have b1:=Ae O 1;have g0:=Ah O;have f4:=Aa O;have G:Hid (Qb a5 Y):=A9 b7 (Cq b5.out);clear O b7)
     |fail)
   all_goals
    have g3:Qh ((Y.setCell ⟨g,0,none⟩ (.string r)).setCell ⟨g,1,none⟩ (Qi 80)) g (Obj.cells #[.string r,Qi 80] 50 (0,0)):=by
     have:=Ak (Ak f4.out 0 (.string r)) 1 (Qi 80);simpa using this
    have b8:Qb b ((Y.setCell ⟨g,0,none⟩ (.string r)).setCell ⟨g,1,none⟩ (Qi 80)):=by
     have i:=G.out;have n:=A9 i e6.out;have o:b.heap.size<=g:=EV i3.out;exact Ce (Ce n o _ _) o _ _
    have f5:=Aa g3;have f0:=Aa (Cd C.out b8);have b3:=Aa (A9 b8 A.out);clear g3 b8 C H A e6 J I f7 e0 U b5 b0 b1 g0 f4 G e3;generalize(Y.setCell ⟨g,0,none⟩ (.string r)).setCell ⟨g,1,none⟩ (Qi 80)=a6 at*
    have e0:=(Ae f5.out 0).trans rfl;have U:=(Ae f5.out 1).trans rfl;obtain⟨z9,g8⟩:=Qe a6.heap.size;have k9:=b3.out.size
    go_wp2_with
     (at_builtin
      refine JC Uh Q7 _ _ Q7 w.heap.size _ (k+1) (DW ((GD a L).map Dp)) Q7 (f0.out.alloc _) (z9+1) 1 _ [.string r,Qi 80] Q7 (Rd.mono (GX (Am _ _ _ g8.symm) rfl Q7 (by simp[maxLen])) (by simp[g8])) (by intro c j;simp at j;rcases j with rfl|rfl<;>rfl) Q0 Q0 Q4 ?_
      intro q2 c2 y v m P;have f:=Ay (Ag a6.heap.size a6) (.cells #[.string r,Qi 80] 50);have e7:Hid (Qb w y):=(b3.out.trans (f.mono b3.out.size)).grown m Q4 (λd6 e=>Dm f0.out e)
      have e8:Hid (MI y y.heap.size (.slice q2 (k+1+1) c2) ((GD a L++[Ja z]).map Dp)):=by
       have U:((GD a L++[Ja z]).map Dp).length=k+1+1:=by simp[GD,E.out]
       have e2:DW ((GD a L++[Ja z]).map Dp)=DW ((GD a L).map Dp)++[.string r,Qi 80]:=by
        rw[D3,<-j0.out];simp[DW,Dp,VS]
       show Rd _ _ _ _ _ _
       rw[U,e2];exact Rd.own v
      clear v m P f)
    have a3:=Aa (UT y _ (GD a L++[Ja z]) S i6.out e8.out (by
     have i:=i7.out;have n:=i1.out;have o:(GD a L++[Ja z]).length=k+2:=by simp[GD,E.out]
     rw[o,i];omega))
    rw[i8.out] at a3;refine a3.out.mono ?_;rintro e w3 ⟨rfl,f6⟩;have i0:=Aa (A9 f6 e7.out);clear f6 e7 e8 a3
    go_wp2_with fail
    go_ret2
    exact⟨rfl,Ay i0.out _⟩
def Vf:List UInt8:=[48,49,50,51,52,53,54,55,56,57,97,98,99,100,101,102]
def Gi(k:Nat):UInt8:=Vf.getD k 0
def Dy(l:List UInt8):List UInt8:=l.flatMap λb=>[Gi (b.toNat / 16),Gi (b.toNat%16)]
theorem zte(l:List UInt8)(b:UInt8):Dy (l++[b])=(Dy l++[Gi (b.toNat / 16)])++[Gi (b.toNat%16)]:=by simp[Dy]
theorem M9(l:List UInt8):(Dy l).length=2*l.length:=by
 induction l with
 |nil=>rfl
 | cons b l a =>
   have:Dy (b::l)=[Gi (b.toNat / 16),Gi (b.toNat%16)]++Dy l:=by simp[Dy]
   rw[this,AJ,a];simp;omega
theorem zyz(k:Nat)(h:k<(⟨#[48,49,50,51,52,53,54,55,56,57,97,98,99,100,101,102]⟩:ByteArray).size):(((⟨#[48,49,50,51,52,53,54,55,56,57,97,98,99,100,101,102]⟩:ByteArray)[k]'h).toNat:Nat)=(Gi k).toNat:=by
 have a:k<16:=h;have:k=0\/k=1\/k=2\/k=3\/k=4\/k=5\/k=6\/k=7\/k=8\/k=9\/k=10\/k=11\/k=12\/k=13\/k=14\/k=15:=Q0
 rcases this with rfl|rfl|rfl|rfl|rfl|rfl|rfl|rfl|rfl|rfl|rfl|rfl|rfl|rfl|rfl|rfl<;>rfl
theorem XD(s:ByteArray)(w:World)(S:s.size<=1000000) :
 Qk 23 #[.string s] w λe I=>e=.returned (.string ⟨(Dy s.data.toList).toArray⟩)/\Qb w I:=by
 go_enter Tryz.func23,Tryz.ntmps23
 go_upto_region 2 with(fail)
 obtain⟨b,l⟩:=Qe w.heap.size;have m:Qh (w.alloc (.cells #[.pointer none,.slice none 0 0] 134)) b (Obj.cells #[.pointer none,.slice none 0 0] 134 (0,0)):=Am _ _ _ l.symm;have g:Hid (Lib.IsBuilderF 134 5 b b (Lib.byteCells (Dy (s.data.toList.take 0))) (w.alloc (.cells #[.pointer none,.slice none 0 0] 134))):=.inl ⟨Af _,_,m,⟨rfl,.inl ⟨rfl,rfl⟩⟩,by simp[Value.ownBlock]⟩
 have f:=Aa (Ay (Ag w.heap.size w) (.cells #[.pointer none,.slice none 0 0] 134));have q:Hid (w.heap.size<=b):=EV l;rw[l];clear m l;generalize w.alloc (.cells #[.pointer none,.slice none 0 0] 134)=P at*
 go_wp2_with fail
 go_loopw [7] (λp wr=>∃k:Nat,k<=s.size/\p=Qi k/\Hid (Lib.IsBuilderF 134 5 b b (Lib.byteCells (Dy (s.data.toList.take k))) wr)/\Hid (Qb w wr)) (λp _=>s.size+1-(intOf p).toNat)
 case atStart=>exact⟨0,Q0,rfl,g,f⟩
 case round =>
  clear g f;obtain⟨k,R,rfl,g,f⟩:=hrel
  by_cases D:k<s.size
  ·have Q:decide ((k:Int)<(s.size:Int))=true:=Bl Q0
   obtain⟨x,m⟩:=Qe (s[k]'D);have F:s.data.toList.take (k+1)=s.data.toList.take k++[x]:=by rw[<-m];rw[Ep (by simpa using D)];rfl
   have G:=Aa F;have T:=x.toNat_lt;have L:(0:Int)<=(x.toNat:Int)/ 16:=Q0
   have M:(x.toNat:Int)/ 16<16:=Q0
   clear F
   go_wp2_with fail
   rw[zyz (x.toNat / 16) (by show x.toNat / 16<16;omega)]
   have a:=g.out;obtain⟨A,c⟩:=OU a
   have N:(Dy (s.data.toList.take k)).length<=2000000:=by
    rw[M9,BO];omega
   have d:=Aa (Tryz.Builder_WriteByte_k b b _ ((Gi (x.toNat / 16)).toNat:Nat) wr a (by rw[Mr];omega) (by have:=Aj c;omega))
   obtain⟨o,u⟩:=Qe (Gi (x.toNat / 16));rw[u] at d |-;refine d.out.mono ?_;rintro e h ⟨rfl,r,i,-⟩;have j:Lib.byteCells (Dy (s.data.toList.take k))++[.int .u8 (o.toNat:Nat)]=Lib.byteCells (Dy (s.data.toList.take k)++[o]):=by simp[Lib.byteCells]
   rw[j] at r;have y:=Aa r;have n:Hid (Qb w h):=f.out.trans (i.mono q.out);have K:=Aa u;clear a c j r i d g f u L M
   go_wp2_with fail
   rw[zyz (x.toNat%16) (by show x.toNat%16<16;omega)]
   obtain⟨A,c⟩:=OU (.inr y.out:Lib.IsBuilderF 134 5 b b _ h);have d:=Aa (Tryz.Builder_WriteByte_k b b _ ((Gi (x.toNat%16)).toNat:Nat) h (.inr y.out) (by rw[Mr,AJ];simp;omega) (by have:=Aj c;omega))
   obtain⟨H,v⟩:=Qe (Gi (x.toNat%16));rw[v] at d |-;refine d.out.mono ?_;rintro e B ⟨rfl,t,C,-⟩
   have j:Lib.byteCells (Dy (s.data.toList.take k)++[o])++[.int .u8 (H.toNat:Nat)]=Lib.byteCells (Dy (s.data.toList.take (k+1))):=by
    rw[G.out,zte,K.out,v];simp[Lib.byteCells]
   rw[j] at t;have O:Hid (Lib.IsBuilderF 134 5 b b (Lib.byteCells (Dy (s.data.toList.take (k+1)))) B):=.inr t;have J:Hid (Qb w B):=n.out.trans (C.mono q.out);clear c j t C d y n v N
   go_wp2_with fail
   go_roundw
   case rel=>exact⟨k+1,Q0,by go_num,O,J⟩
   case measure=>simp[intOf];omega
  ·obtain rfl:k=s.size:=Q0
   have E:s.data.toList.take s.size=s.data.toList:=BR Q6
   have a:=g.out;rw[E] at a;obtain⟨A,c⟩:=OU a;have z:=Aa (Tryz.Builder_String_any_k b b (Dy s.data.toList) wr a (by have:=Aj c;omega))
   clear a c E
   go_wp2_with fail
   refine z.out.mono ?_;rintro e h ⟨rfl,-,i,-⟩;have n:Hid (Qb w h):=f.out.trans (i.mono q.out);clear i z g f
   go_wp2_with fail
   go_ret
   exact⟨rfl,n.out⟩
theorem zvJ(k:Nat)(h:k<16):Lib.indexByte [48,49,50,51,52,53,54,55,56,57,97,98,99,100,101,102] (Gi k)=(k:Int):=by
 have:k=0\/k=1\/k=2\/k=3\/k=4\/k=5\/k=6\/k=7\/k=8\/k=9\/k=10\/k=11\/k=12\/k=13\/k=14\/k=15:=Q0
 rcases this with rfl|rfl|rfl|rfl|rfl|rfl|rfl|rfl|rfl|rfl|rfl|rfl|rfl|rfl|rfl|rfl<;>decide
theorem zxn(l:List UInt8):∀(i:Nat)(b:UInt8),l[i]?=some b->(Dy l)[2*i]?=some (Gi (b.toNat / 16))/\(Dy l)[2*i+1]?=some (Gi (b.toNat%16)):=by
 induction l with
 |nil=>intro i b h;simp at h
 | cons a l e =>
   intro i b h;have d:Dy (a::l)=Gi (a.toNat / 16)::Gi (a.toNat%16)::Dy l:=by simp[Dy]
   rw[d];cases i with
   | zero =>
     simp at h;subst h;exact⟨rfl,rfl⟩
   | succ i =>
     have c:=e i b (by simpa using h)
     rw[show 2*(i+1)=2*i+1+1 by omega]
     simpa using c
theorem zjz(h:Ap w n x e)(m:0<e.length) :
 ∃g b,x=Qs g 0 e.length b/\n<=g/\g<w.heap.size/\(∀j,j<e.length->Qc w g j (.int .u8 ((e.getD j 0).toNat:Nat)))/\(∀j,w.frozen? ⟨g,j,none⟩=false)/\
  (∀(j:Nat)(a:UInt8),Ap (w.setCell ⟨g,j,none⟩ (.int .u8 (a.toNat:Nat))) n (Qs g 0 e.length b) (e.set j a)):=by
 rcases h.2 with⟨rfl,d⟩|⟨g,b,o,rfl,i,k,_⟩
 ·have:=h.1
  rw[d] at this;simp[byteCells] at this;subst this;simp at m
 ·refine⟨g,b,rfl,i,Aj k,λj l=>?_,λj=>Vu h j,λj a=>?_⟩
  ·have c:=SQ h j Q0
   rw[c];simp[byteCells,EA,Az l]
  ·have c:=SN h j (.int .u8 (a.toNat:Nat))
   have f:byteCells (e.set j a)=(byteCells e).set j (.int .u8 (a.toNat:Nat)):=by simp[byteCells,PI]
   show World.ownsRow _ _ _ _ _ _ _
   rw[f,Jm];exact c.1
def LP(x:List UInt8)(k j:Nat):UInt8:=if 2*j+1<k then x.getD j 0 else if 2*j<k then UInt8.ofNat ((x.getD j 0).toNat / 16) else 0
def He(x:List UInt8)(k:Nat):List UInt8:=(List.range x.length).map (LP x k)
theorem Yq(x:List UInt8)(k:Nat):(He x k).length=x.length:=by simp[He]
theorem zrZ(x:List UInt8)(k j:Nat)(h:j<x.length):(He x k).getD j 0=LP x k j:=by simp[He,Cx,h]
theorem zo2(x:List UInt8):He x 0=List.replicate x.length 0:=by
 apply Mo
 ·simp[He]
 ·intro j a b
  simp[He,LP]
theorem zrp(x:List UInt8):He x (2*x.length)=x:=by
 apply Mo
 ·simp[He]
 ·intro j b a
  simp[He,LP,a];omega
theorem zo9(x:List UInt8)(k j:Nat)(b:UInt8)(g:k / 2=j)(d:LP x (k+1) j=b):(He x k).set j b=He x (k+1):=by
 apply Mo
 ·simp[He]
 ·intro i e f
  rw[List.getElem_set];simp only[He,Vp,List.getElem_range]
  by_cases h:j=i
  ·rw[if_pos h,<-h,d]
  ·rw[if_neg h]
   unfold LP;have a:(2*i+1<k+1)=(2*i+1<k):=propext Q0
   have c:(2*i<k+1)=(2*i<k):=propext Q0
   simp only[a,c]
theorem zBp(a d:Nat)(b:a<16)(c:d<16):bits BinOp.or IntKind.u8 ((a:Int)*16%256) (d:Int)=((a*16+d:Nat):Int):=by
 have h:∀(a d:Fin 16),bits BinOp.or IntKind.u8 ((a.val:Int)*16%256) (d.val:Int)=((a.val*16+d.val:Nat):Int):=by decide+kernel
 exact h ⟨a,b⟩ ⟨d,c⟩
theorem zwK(x:List UInt8)(w:World)(M:x≠[])(hx:x.length<=100000) :
 Qk 198 #[.string ⟨(Dy x).toArray⟩] w λe G=>e=.returned (.tuple #[.string ⟨x.toArray⟩,Qi 0])/\Qb w G:=by
 obtain⟨n,B⟩:=Qe x.length;have c8:n<=100000:=Q0
 have c7:0<n:=by rw[<-B];exact Ga.2 M
 obtain⟨s,u⟩:=Qe ((⟨(Dy x).toArray⟩:ByteArray):ByteArray);have X:s.size=2*n:=by rw[<-u,<-B,<-M9];rfl
 have a0:∀k,(h:k<s.size)->(s[k]'h)=if k%2=0 then Gi ((x.getD (k / 2) 0).toNat / 16) else Gi ((x.getD (k / 2) 0).toNat%16):=by
  intro k O;have a:=OT s k O;have c:s.data.toList=Dy x:=by rw[<-u]
  have f:k / 2<x.length:=Q0
  obtain⟨v,z⟩:=zxn x (k / 2) (x[k / 2]) (Az f);have h6:x.getD (k / 2) 0=x[k / 2]:=by rw[Cx,Az f];rfl
  rw[c] at a;rw[h6]
  by_cases l:k%2=0
  ·rw[if_pos l]
   rw[show 2*(k / 2)=k by omega,a] at v
   exact JN v
  ·rw[if_neg l]
   rw[show 2*(k / 2)+1=k by omega,a] at z
   exact JN z
 rw[u];obtain⟨a3,a7⟩:=Qe s.size;have b1:a3=2*n:=Q0
 obtain⟨t,T,b4⟩:=Yz n Q0
 have d3:((s.size:Nat):Int)%2=0:=Q0
 have d4:((s.size:Nat):Int).tmod 2=0:=by rw[KE Q0];omega
 have c9:((s.size:Nat):Int)/ 2=(n:Int):=Q0
 have d0:((s.size:Nat):Int).tdiv 2=(n:Int):=by rw[QR Q0];omega
 have d7:IntKind.i64.wrap (n:Int)=(n:Int):=AU _ Q0
 have b6:=Aa u;have q:=Aa B;have a5:=Aa a0;have H:=Aa X;have R:=Aa T;clear u B a0 T M a7 b1 X
 go_enter Tryz.func198,Tryz.ntmps198
 go_wp2_with fail
 obtain⟨g,A⟩:=Qe w.heap.size
 have i:Ap (w.alloc (.cells t 5)) g (Qs g 0 n n) (He x 0):=by
  have a:t.size=n:=by rw[<-MX,R.out];simp[byteCells]
  have c:(He x 0).length=n:=by rw[Yq,q.out]
  show World.ownsRow _ _ _ _ _ _ _
  rw[c];refine⟨?_,.inr ⟨g,n,t,rfl,Af _,Am _ _ _ A.symm,Af _,by unfold maxLen;omega,by rw[a];omega,?_⟩⟩
  ·simp[byteCells,c]
  ·rw[zo2,q.out,R.out]
   first|simp[byteCells]|(rw[BR (by simp[byteCells])])
 have r:=Aa i;have o:=Aa (Ay (Ag w.heap.size w) (.cells t 5));have a9:Hid (w.heap.size=g):=A;rw[A];clear i A b4;generalize w.alloc (.cells t 5)=b7 at*
 go_loopw [17] (λF wr=>∃k:Nat,k<=s.size/\F=Qi k/\Hid (Ap wr g (Qs g 0 n n) (He x k))/\Hid (Qb w wr)) (λF _=>s.size+1-(intOf F).toNat)
 case atStart=>exact⟨0,Q0,rfl,r,o⟩
 case round =>
  clear r o;obtain⟨k,O,rfl,r,o⟩:=hrel
  by_cases I:k<s.size
  ·have hd:decide ((k:Int)<(s.size:Int))=true:=Bl Q0
   have m:=a5.out k I;obtain⟨j,D⟩:=Qe (k / 2);have b3:j<n:=by have:=H.out;omega
   obtain⟨b,C⟩:=Qe (x.getD j 0);rw[D,C] at m;have d8:=b.toNat_lt
   obtain⟨d,b2⟩:∃d,d<16/\(s[k]'I)=Gi d/\(k%2=0/\d=b.toNat / 16\/k%2=1/\d=b.toNat%16):=by
    by_cases l:k%2=0
    ·rw[if_pos l] at m
     exact⟨_,Q0,m,.inl ⟨l,rfl⟩⟩
    ·rw[if_neg l] at m
     exact⟨_,Q0,m,.inr ⟨Q0,rfl⟩⟩
   obtain⟨Y,J,b5⟩:=b2;obtain⟨y,Q⟩:=Qe (s[k]'I)
   have a4:Hid (∀W,Qk 244 #[.string ⟨#[48,49,50,51,52,53,54,55,56,57,97,98,99,100,101,102]⟩,.int .u8 (y.toNat:Nat)] W λe G=>e=.returned (Qi (d:Nat))/\G=W):=λW=>by
    have a:=Tryz.strings_IndexByte ⟨#[48,49,50,51,52,53,54,55,56,57,97,98,99,100,101,102]⟩ (y.toNat:Nat) W;have c:((y.toNat:Nat):Int).toNat.toUInt8=y:=by simp
    rw[c,<-Q,J] at a;rw[show Lib.indexByte (⟨#[48,49,50,51,52,53,54,55,56,57,97,98,99,100,101,102]⟩:ByteArray).data.toList (Gi d)=(d:Int) from zvJ d Y] at a
    rw[<-Q,J];exact a
   have V:(He x k).length=n:=by rw[Yq,q.out]
   obtain⟨g2,b8,P,b9,c3,a2,U,K⟩:=zjz r.out Q0
   rw[V] at P K;cases P
   have S:=a2 j Q0
   rw[zrZ x k j (by rw[q.out];exact b3)] at S
   have c2:=U j;have d1:(k:Int)/ 2=(j:Int):=Q0
   have d2:(k:Int).tdiv 2=(j:Int):=by rw[QR Q0];omega
   have c5:(j:Int)<(n:Int):=Q0
   have c4:(0:Int)<=(j:Int):=Q0
   have c1:decide ((d:Int)<0)=false:=AV Q0
   have d6:IntKind.i64.wrap (j:Int)=(j:Int):=AU _ Q0
   have d5:IntKind.u8.wrap (d:Int)=(d:Int):=by simp[IntKind.wrap,IntKind.signed,IntKind.bits];omega
   obtain⟨p,E⟩:=Qe (LP x k j);rw[E] at S;have a6:=Aa E;have c6:k<300000:=by have:=H.out;omega
   have b0:=Aa K;have L:=Aa D;have a8:=Aa C;clear m D C J a2 U K E V
   go_wp2_with fail
   refine(a4.out _).mono ?_;rintro e w5 ⟨rfl,rfl⟩
   go_wp2_with fail
   have a1:p.toNat<16/\p.toNat*16+d=(LP x (k+1) j).toNat:=by
    have a:=a6.out;have c:=L.out;have f:=a8.out;unfold LP at a |-;rcases b5 with⟨v,z⟩|⟨v,z⟩
    ·rw[if_neg Q0,if_neg Q0] at a
     rw[if_neg Q0,if_pos Q0,f,<-a,Ms]
     have:(0:UInt8).toNat=0:=rfl;rw[this];omega
    ·rw[if_neg Q0,if_pos Q0,f] at a
     rw[if_pos Q0,f,<-a,Ms]
     omega
   rw[zBp p.toNat d a1.1 Y,a1.2];have N:=b0.out j (LP x (k+1) j);rw[zo9 x k j _ L.out rfl] at N;refine⟨⟨k+1,Q0,by go_num,N,Ce o.out (EV a9.out) _ _⟩,?_⟩
   simp[intOf];omega
  ·obtain rfl:k=s.size:=Q0
   have Z:He x s.size=x:=by
    rw[H.out,<-q.out];exact zrp x
   have i:=r.out;rw[Z] at i;have c0:(convert 89 9 (Qs g 0 n n)).run Tryz.prog wr=.ok (.string ⟨x.toArray⟩) wr:=M8 x i;clear i Z
   go_wp2_with fail
   go_ret2
   exact⟨rfl,o.out⟩
