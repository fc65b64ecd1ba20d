import Derived.Test.YtoejfkeofbdalaaGreatDoorM41
import Derived.Test.YtoejfkeofbdalaaGreatDoorM46
set_option linter.all false
set_option maxRecDepth 100000
set_option maxHeartbeats 8000000
namespace Go.Proofs.YtoejfkeofbdalaaGreatDoor
open Go.RowKit
open Go.Maps (Keyed)
theorem zvg{n:Nat}{w v:World}{x:Value}(h:Xc n w v x){p:List UInt8 × Value}(f:p∈Gd n) :
 ∃a,x=.map (some a)/\w.heap.size<=a/\a<v.heap.size/\∀W,W.heap[a]?=v.heap[a]?->(Instr.lookup 237 (.map (some a)) (.string ⟨p.1.toArray⟩) true).run Tryz.prog W=.ok (.tuple #[p.2,.bool true]) W:=by
 obtain⟨a,j,D,rfl,o,d,q⟩:=h;obtain⟨s,u⟩:=q p f;refine⟨a,rfl,o,d.lt,λW y=>?_⟩
 have E:W.ownsMap Tryz.prog 9 EO a j D:=by
  obtain⟨m,F,A,r⟩:=d;exact⟨m,F,y.trans A,r⟩
 have g:Tryz.prog.underlying 9=some .string:=Q2
 have C:Tryz.prog.underlying 237=some (.map 9 235):=Q2
 obtain⟨r,B⟩:=SC f;obtain⟨k,G,i,b⟩:=E.look_ok (t:=237) (e:=235) (Maps.string_keyed g) C (z:=.agg #[.string ⟨#[]⟩,.nilFunc,.bool false]) Q2 (rfl:EO _=some (.held _,[])) (key:=.string ⟨p.1.toArray⟩) (WideMaps.keyOf_string_mk g (zuc n r p B))
 have c:(⟨p.1.toArray⟩:ByteArray).data.toList=p.1:=rfl;rw[c,s] at i;rw[c,u] at b
 have l:k=p.2:=by
  unfold EO at b;simp at b;exact b.1
 rw[i,l]
theorem Sr(j:Bool)(w:World)(a6:Int)(hm:Qc w 0 0 (Qi a6))(f:Nat)(cs:Array Value)(hd:Qg w f cs 145)
 (s:ByteArray) (hp:0<s.size) (h8:(((s[0]'hp).toNat:Int)==35)=false) (i9:s.size<=100000)
 (y:List ByteArray) (D:List UInt8) (d3:Lib.splitB ⟨#[32]⟩ 0 y.length s=⟨D.toArray⟩::y) (e0:Lib.countB s ⟨#[32]⟩=y.length) (F:List UInt8) (m:Nat) (a5:(D,.agg #[.string ⟨F.toArray⟩,.func (.func m) #[.pointer (some ⟨f,0,none⟩)] #[],.bool j])∈Gd f) (d2:j=true->cs[9]?=some (.bool true))
 (M:y.length=F.length) (g6:F.length<=3)
 (A:Nat->Array Value) (c5:A 0=#[Qi 0,Qi 0,Qi 0,.string ⟨#[]⟩]) (a9:∀i,i<=F.length->∃a b c d,A i=#[a,b,c,d])
 (b5:∀i,i<F.length->∀(b:UInt8)(x:ByteArray),F[i]?=some b->y[i]?=some x->∀W p,Qb w W->w.heap.size<=p->Qh W p (Obj.cells (A i) 241 (0,0))->Qk 135 #[Qp p 0,Qi i,.int .u8 b.toNat,.string x] W λe g=>e=.returned (.bool true)/\Ab p W g/\Qh g p (Obj.cells (A (i+1)) 241 (0,0)))
 (V:Enters Tryz.prog m) (a4:Ending->World->Prop) (b3:∀W,Qb w W->Qk m #[Qp f 0,.agg (A F.length)] W λe g=>(∃v,e=.returned v)/\a4 e g) :
 Qk 75 #[Qp f 0,.string s] w a4:=by
 have e8:=Aa b5;have e5:=Aa b3;have e4:=Aa a9;have f3:=Aa c5;have e7:=Aa M;have f6:=Aa V;have e6:=Aa hd;have g1:=Aa d2;clear V d2;clear b5 b3 a9 c5;have t:=Aa (Tryz.strings_Split s ⟨#[32]⟩ a6 w Q0 hm Q5)
 rw[e0,d3] at t;have a7:=Aa (λW=>zwH f W)
 have i8:s.toList.isEmpty=false:=by
  cases h:s.toList with
  | nil =>
    rw[Lib.toList_data] at h;have L:s.data.toList.length=s.size:=by simp
    rw[h] at L;simp at L;omega
  |cons a h5=>rfl
 obtain⟨N,O⟩:=Qe F.length;rw[M] at t;rw[O] at t M g6;obtain⟨K,b4⟩:=Qe (N+1);rw[b4] at t;have i0:(0:Int)<(K:Int):=Q0
 have i1:0<K:=Q0
 obtain⟨k,U⟩:=Qe ((⟨F.toArray⟩:ByteArray):ByteArray);have h9:k.size=N:=by rw[<-U,<-O];rfl
 rw[U] at a5;obtain⟨z,hz⟩:=Qe w.heap.size;obtain⟨R,Q⟩:=Qe (((⟨D.toArray⟩::y).map Value.string).toArray);have c9:R[0]?=some (.string ⟨D.toArray⟩):=by rw[<-Q];rfl
 rw[Q] at t;clear e0 d3
 go_enter Tryz.func75,Tryz.ntmps75
 go_wp2_with fail
 refine t.out.mono ?_;rintro e l ⟨rfl,rfl⟩;have a3:=Am w (.cells R 9) z hz.symm;have c6:=Ay (Ag w.heap.size w) (.cells R 9);have b6:=Aa c6;have c2:=Aa a3;have c0:=(Ae a3 0).trans c9;obtain⟨o,r⟩:=Qe ((w.alloc (.cells R 9)).heap.size);rw[hz];generalize w.alloc (.cells R 9)=l at*
 clear a3 c6 t
 go_wp2_with fail
 have h6:Hid (Qb l l):=Ag _ _;have d4:z<l.heap.size:=Aj c2.out;have b9:Hid (∀W,Qb l W->Qc W z 0 (.string ⟨D.toArray⟩)):=λW h=>(h.cell (p:=⟨z,0,none⟩) d4).trans c0;have h3:=Aa a5;have g4:=Aa Q;have Z:=Aa O;have f7:=Aa U;clear a5 Q c9 hm hd M O U;have c4:Hid (∀g:World,Qb l g->Qb l g/\Qc g z 0 (.string ⟨D.toArray⟩)):=λg h=>⟨h,b9.out g h⟩;have g7:Qb l l:=Ag _ _
 go_region_held3 (λg=>Qb l g/\Qc g z 0 (.string ⟨D.toArray⟩))
  ((refine c4.out _ ?_;first|assumption|exact Cq Q3|exact Bh Q3|exact Ay (Bh Q3) _|exact A9 Q3 (Bh Q3)|exact Ay Q3 _|exact Ce (Ce (Ce (by first|assumption|exact Ay Q3 _) (by first|exact EV r|exact Below.size B) _ _) (by first|exact EV r|exact Below.size B) _ _) (by first|exact EV r|exact Below.size B) _ _|fail))
  ((first
   |(go_at_call 134
     refine(a7.out _).mono ?_;rintro e n ⟨v,rfl,d0,a2⟩;obtain⟨mb,rfl,h0,e1,a0⟩:=zvg d0 h3.out;have f8:=a0 n rfl;have f9:=a0 (n.alloc (.cells #[.string ⟨#[]⟩,.nilFunc,.bool false] 235)) (((Ag n.heap.size n).alloc (Af _) _).block mb e1);clear a0
     first
     |(have H:Qh n o (Obj.cells #[.string ⟨#[]⟩,.nilFunc,.bool false] 235 (0,0)):=(a2.block o Q4).trans (Am _ _ _ r.symm)
       have b0:=(Ae H 0).trans rfl;have b1:=(Ae H 1).trans rfl;have b2:=(Ae H 2).trans rfl;have g0:=Ah H
       skip)
     |skip
     have B:Qb l n:=A9 a2 (Bh Q3)
     clear a2 d0 h0 e1
     skip)
   |fail))
 all_goals
  first
  |(have C:Qh (((n.setCell ⟨o,0,none⟩ (.string k)).setCell ⟨o,1,none⟩ (.func (.func m) #[.pointer (some ⟨f,0,none⟩)] #[])).setCell ⟨o,2,none⟩ (.bool j)) o (Obj.cells #[.string k,.func (.func m) #[.pointer (some ⟨f,0,none⟩)] #[],.bool j] 235 (0,0)):=by
     have:=Ak (Ak (Ak H 0 (.string k)) 1 (.func (.func m) #[.pointer (some ⟨f,0,none⟩)] #[])) 2 (.bool j);simpa using this
    have T:=Ce (Ce (Ce B (EV r) 0 (.string k)) (EV r) 1 (.func (.func m) #[.pointer (some ⟨f,0,none⟩)] #[])) (EV r) 2 (.bool j);have b8:Hid (l.heap.size<=o):=EV r;clear H b0 b1 b2 g0;generalize(((n.setCell ⟨o,0,none⟩ (.string k)).setCell ⟨o,1,none⟩ (.func (.func m) #[.pointer (some ⟨f,0,none⟩)] #[])).setCell ⟨o,2,none⟩ (.bool j))=q at*
    generalize d1:o=bx at*
    skip)
  |(have C:=Am n (.cells #[.string k,.func (.func m) #[.pointer (some ⟨f,0,none⟩)] #[],.bool j] 235) _ rfl
    have T:=Ay B (.cells #[.string k,.func (.func m) #[.pointer (some ⟨f,0,none⟩)] #[],.bool j] 235);have b8:Hid (l.heap.size<=n.heap.size):=Below.size B;obtain⟨bx,d1⟩:=Qe n.heap.size;rw[d1] at C b8 |-;generalize n.alloc (.cells #[.string k,.func (.func m) #[.pointer (some ⟨f,0,none⟩)] #[],.bool j] 235)=q at*
    skip)
  clear f8 f9
 all_goals
  have b7:Hid (Qb w q):=b6.out.trans (T.mono b6.out.size);have c1:Hid (Qh q z (Obj.cells R 9 (0,0))):=(T.block z d4).trans c2.out;have j2:IntKind.i64.wrap (1+(N:Int))=(K:Int):=by rw[<-b4];exact(AU _ Q0).trans Q0
  have f0:=(Ae C 0).trans rfl;have f1:=(Ae C 1).trans rfl;have f2:=(Ae C 2).trans rfl;have c3:=Aa C;clear T C B a7 c0 r b9 c4 g7
 all_goals
  have h7:True:=trivial;simp only[JM,Lh,Me] at f0 f1 f2;obtain⟨G,Y⟩:=Qe q.heap.size
 all_goals
  have d5:Hid (Qh (q.alloc (.cells #[Qi 0,Qi 0,Qi 0,.string ⟨#[]⟩] 241)) G (Obj.cells (A 0) 241 (0,0))):=by
   rw[f3.out];exact Am _ _ _ Y.symm
  have d6:Hid (Qb w (q.alloc (.cells #[Qi 0,Qi 0,Qi 0,.string ⟨#[]⟩] 241))):=Ay b7.out _;have d8:=Aa (Al ((Ag q.heap.size q).alloc (Af _) (.cells #[Qi 0,Qi 0,Qi 0,.string ⟨#[]⟩] 241)) c3.out);have d7:=Aa (Al ((Ag q.heap.size q).alloc (Af _) (.cells #[Qi 0,Qi 0,Qi 0,.string ⟨#[]⟩] 241)) c1.out);have S:Hid (bx<G/\z<G/\w.heap.size<=G):=⟨by rw[<-Y];exact Aj c3.out,by rw[<-Y];exact Aj c1.out,by rw[<-Y];exact b7.out.size⟩
  go_wp2_with fail
  go_loopw [7,9] (λh2 iv wr=>∃i:Nat,i<=N/\iv=Qi i/\h2=.bool true/\Hid (Qb w wr)/\Hid (Qh wr G (Obj.cells (A i) 241 (0,0)))/\Hid (Qh wr bx (Obj.cells #[.string k,.func (.func m) #[.pointer (some ⟨f,0,none⟩)] #[],.bool j] 235 (0,0)))/\Hid (Qh wr z (Obj.cells R 9 (0,0)))) (λ_ iv _=>N+1-(intOf iv).toNat)
  case atStart=>exact⟨0,Q0,rfl,rfl,d6,d5,d8,d7⟩
  case round =>
   clear d5 d6 d8 d7;obtain⟨i,hi,rfl,rfl,I,E,J,a8⟩:=hrel;have x0:=(Ae J.out 0).trans rfl;have x1:=(Ae J.out 1).trans rfl;have x2:=(Ae J.out 2).trans rfl
   by_cases g9:i<N
   ·have hd:decide ((i:Int)<(N:Int))=true:=Bl Q0
    have X:i<F.length:=by rw[Z.out];exact g9
    obtain⟨b,hb⟩:∃b,F[i]?=some b:=⟨_,Az X⟩;obtain⟨x,hx⟩:∃x,y[i]?=some x:=⟨_,Az (by rw[e7.out];exact X)⟩
    have g8:i<k.size:=Q0
    have i2:k[i]'g8=b:=by
     have h1:=(Cc.1 hb).2;rw[<-h1];have L:k=⟨F.toArray⟩:=f7.out.symm;simp[L];rfl
    have cx:Qc wr z (1+i) (.string x):=(Ae a8.out _).trans (by rw[<-g4.out,Mv];simp[hx])
    have cy:Qc wr z (i+1) (.string x):=by rw[Mv];exact cx
    have e3:=Aa (e8.out i X b x hb hx);have j0:IntKind.i64.wrap (1+(i:Int))=((i+1:Nat):Int):=(AU _ Q0).trans Q0
    have j1:IntKind.i64.wrap ((i:Int)+1)=((i+1:Nat):Int):=(AU _ Q0).trans Q0
    have i3:(0:Int)<=(i:Int):=Q0
    have i4:(0:Int)<=((i+1:Nat):Int):=Q0
    have i5:((i+1:Nat):Int)<(K:Int):=Q0
    have i6:(i:Int)<(N:Int):=Q0
    have i7:i+1<K:=Q0
    clear hb hx X
    go_wp2_with fail
    go_region_with
     (first
      |(go_at_call 135
        refine(e3.out wr.drew G (Cq I.out) S.out.2.2 E.out).mono ?_;rintro e e9 ⟨rfl,P,c8⟩;have f4:Hid (Qb w e9):=P.bel (w0:=w) (Cq I.out) S.out.2.2 (Af _);have g2:=Aa c8;have g5:=Aa (P.other (w:=wr.drew) J.out (Nat.ne_of_lt S.out.1));have g3:=Aa (P.other (w:=wr.drew) a8.out (Nat.ne_of_lt S.out.2.1));clear P c8)
      |fail)
    all_goals
     go_wp2_with fail
     go_roundw
     case rel=>exact⟨i+1,Q0,by go_num,rfl,f4,g2,g5,g3⟩
     case measure=>simp[intOf];omega
   ·obtain rfl:i=N:=Q0
    obtain⟨a,b,c,d,a1⟩:=e4.out i (by rw[Z.out];exact Af _)
    have c7:∀W,Qb w W->Qk m #[Qp f 0,.agg #[a,b,c,d]] W λe g=>(∃v,e=.returned v)/\a4 e g:=by
     have:=e5.out;rw[Z.out,a1] at this;exact this
    have f5:=Aa c7;rw[a1] at E;have p0:=(Ae E.out 0).trans rfl;have p1:=(Ae E.out 1).trans rfl;have p2:=(Ae E.out 2).trans rfl;have p3:=(Ae E.out 3).trans rfl;simp only[JM,Lh,Me] at p0 p1 p2 p3;clear c7 a1;have V:=f6.out;unfold Enters at V;obtain⟨u,d9,hu⟩:∃u:Bool,(j=true->Qc wr f 9 (.bool true))/\u=j:=⟨j,λh=>(Ae (Al I.out e6.out) 9).trans (g1.out h),rfl⟩;subst hu;cases u
    all_goals
     first|replace d9:=d9 rfl|clear d9
     go_wp2_with fail
     refine(f5.out _ I.out).mono ?_;rintro e w6 ⟨⟨v,rfl⟩,e2⟩;have h4:=Aa e2;clear e2
     go_wp2_with fail
     exact h4.out
end Go.Proofs.YtoejfkeofbdalaaGreatDoor
namespace Go.Proofs.YtoejfkeofbdalaaGreatDoor
open Go.RowKit
def Jt(a:Nat)(X:List UInt8)(b:List (Int × Int)):List UInt8:=(IV a X b).flatMap λl=>l++[10]
theorem zxg(b:Nat)(X:List UInt8)(a:List (Int × Int))(k:Nat)(p:Int × Int)(h:a[k]?=some p)(A:ByteArray)(c:A=⟨(Jt b X (a.take k)).toArray⟩) :
 A++⟨#[114,101,97,100,32,48,32]⟩++⟨(Lib.decDigits (Fb p)).toArray⟩++⟨#[32]⟩++⟨(Lib.decDigits (FI p)).toArray⟩++⟨#[10]⟩=⟨(Jt b X (a.take (k+1))).toArray⟩:=by
 obtain⟨e,d⟩:=Cc.1 h;subst c;apply Ov
 rw[Ep e,d];simp[Jt,IV,Js]
theorem zuM(X:List UInt8)(a:List (Int × Int))(k:Nat)(p:Int × Int)(h:a[k]?=some p)(A:ByteArray)(b:A=⟨(MP X (a.take k)).toArray⟩)(c:UInt8)(d:c=if X.length<Fb p+FI p then 56 else 48) :
 A++⟨#[114,101,112,108,121,32,c,32]⟩++⟨(LK X p).toArray⟩++⟨#[10]⟩=⟨(MP X (a.take (k+1))).toArray⟩:=by
 obtain⟨f,e⟩:=Cc.1 h;subst b d;apply Ov
 rw[Ep f,e];simp[MP,KU]
theorem zu9(a:Nat)(X:List UInt8)(b:List (Int × Int)):(⟨#[112,97,99,107,32]⟩:ByteArray)++⟨(Lib.decDigits a).toArray⟩++⟨#[32]⟩++⟨(Gy X).toArray⟩++⟨#[10,111,112,101,110,32,50,32,49,10]⟩=⟨(Jt a X (b.take 0)).toArray⟩:=by
 apply Ov
 simp[Jt,IV,IA,Iu]
theorem zry(w:World)(d8:Qk 6 #[] w λe t=>e=.returned (.bool true)/\Qb w t)(c1:ByteArray)(v1 v2:Value)(l1 b:List (Int × Int))(b7:Bn w v1 l1)(b8:Bn w v2 b)(D:Int)(I:-9223372036854775808<=D)(J:D<=9223372036854775807)
 (f9:∀(a:Nat)(X:List UInt8) (rs:List (Int × Int)) (W:World),1<=a->a<=9->X.length<=200->rs.length<=30->Qb w W->Qk 25 #[.string ⟨(Jt a X rs).toArray⟩] W λe t=>e=.returned (.tuple #[.string ⟨(MP X rs).toArray⟩,Qi 0])/\Qb W t) :
 Qk 5 #[.string c1,v1,Qi D,v2] w λe t=>e=.returned (.bool true)/\Qb w t:=by
 have l:=Aa d8;have c4:=Aa (λW (h:Qb w W)=>ztZ W c1 v1 l1 (b7.up h) 200 Q5 Q5)
 have c3:=Aa (λc n I J h3 h4 W=>zqD c n I J h3 h4 W);have Z:=Aa (λn h W=>zoi n h W);have g6:=Aa f9;have a3:=Aa b8;obtain⟨q1,d,rfl,-,-⟩:=Rd.isSlice b7.rd;obtain⟨q2,f,rfl,h0,h1⟩:=Rd.isSlice b8.rd;obtain⟨a,b3⟩:=Qe (I9 D%9:Nat);have j6:a<9:=by rw[<-b3];exact F8 _ Q5
 have a0:=Aa (λW=>zqD D 9 I J Q5 Q5 W)
 rw[b3] at a0;obtain⟨N,a4⟩:=Qe b.length;rw[a4] at h0 a3 |-;have i4:N<=9223372036854775807:=by unfold maxLen at h1;omega
 have g5:=Aa a4;have w0:IntKind.i64.wrap (1+(a:Int))=((a+1:Nat):Int):=(AU _ Q0).trans Q0
 clear b7 b8 f9 b3 a4 d8 I J
 go_enter Tryz.func5,Tryz.ntmps5
 go_wp2_with fail
 refine l.out.mono ?_;rintro e w1 ⟨rfl,d9⟩;have a9:=Aa d9;clear d9 l
 go_wp2_with fail
 refine(c4.out w1 a9.out).mono ?_;rintro e w2 ⟨T,rfl,i5,y⟩;have p:=Aa (A9 y a9.out);clear y c4 a9;obtain⟨X,a5⟩:=Qe T.data.toList;obtain⟨G,e8⟩:=Qe ((⟨(Gy X).toArray⟩:ByteArray):ByteArray);have C:X.length=T.size:=by rw[<-a5];simp
 have M:=Aa a5;have L:=Aa e8;clear a5 e8
 go_upto_if 25 with fail
 go_cut [11] (λhv u=>hv=.string G/\Hid (Qb w u))
 case first =>
  cases hTe:T.toList.isEmpty with
  | true =>
    go_wp2_with fail
    go_meet
    refine⟨?_,p⟩
    have U:X=[]:=by
     rw[Lib.toList_data,M.out] at hTe;simpa using hTe
    rw[<-L.out,U];rfl
  | false =>
    have U:X≠[]:=λe=>by
     rw[Lib.toList_data,M.out,e] at hTe;cases hTe
    have j:=Aa (XD T w2 Q0)
    rw[M.out,show(⟨(Dy X).toArray⟩:ByteArray)=G by rw[<-L.out,Gy,if_neg U]] at j
    clear U
    go_wp2_with fail
    refine j.out.mono ?_;rintro e w3 ⟨rfl,e0⟩;have g7:=Aa (A9 e0 p.out);clear e0 j
    go_wp2_with fail
    go_meet
    exact⟨rfl,g7⟩
 obtain⟨rfl,x⟩:=hcut;clear p
 have i3:G.size<=400:=by
  rw[<-L.out]
  show(Gy X).length<=400
  unfold Gy;split
  ·decide
  ·rw[M9];omega
 have a6:=Aa (Z.out (a+1) Q0)
 obtain⟨c5,P⟩:=Qe ((⟨(Lib.decDigits (a+1)).toArray⟩:ByteArray):ByteArray);have j1:c5.size<=9:=by rw[<-P];exact OE (show a+1<1000 by omega)
 rw[P] at a6;have b2:=zu9 (a+1) X b;rw[P,L.out] at b2;have b1:=Aa b2;clear P b2
 go_wp2_with fail
 refine(a0.out wc).mono ?_;rintro e w4 ⟨rfl,rfl⟩;clear a0
 go_wp2_with fail
 refine(a6.out _).mono ?_;rintro e w5 ⟨rfl,e5⟩;have d1:=Aa (A9 e5 x.out);clear e5 a6 x
 go_upto_region 8 with(fail)
 rw[b1.out];obtain⟨c2,O⟩:=Qe ((⟨(Jt (a+1) X (b.take 0)).toArray⟩:ByteArray):ByteArray)
 have j0:c2.size<=500:=by
  rw[<-O,<-b1.out];simp only[QY]
  show 5+c5.size+1+G.size+10<=500
  omega
 rw[O];have c9:=Aa O.symm;clear O b1
 go_wp2_with fail
 go_loopw [12,13,14] (λav bv iv wr=>∃(k:Nat)(A B:ByteArray),k<=N/\k<=30/\iv=Qi k/\av=.string A/\bv=.string B/\A.size<=500+40*k/\B.size<=10+220*k/\Hid (A=⟨(Jt (a+1) X (b.take k)).toArray⟩)/\Hid (B=⟨(MP X (b.take k)).toArray⟩)/\Hid (Qb w wr)) (λ_ _ iv _=>31-(intOf iv).toNat)
 case atStart=>exact⟨0,c2,_,Q0,Q0,rfl,rfl,rfl,Q0,Q5,c9,rfl,d1⟩
 case round =>
  clear d1 c9;obtain⟨k,A,B,hk,j5,rfl,rfl,rfl,i1,i2,c6,d2,F⟩:=hrel;have g9:X.length<=200:=Q0
  by_cases f8:k<N/\k<30
  ·have hd:decide ((k:Int)<(N:Int))=true:=Bl Q0
   have h2:decide ((k:Int)<30)=true:=Bl Q0
   obtain⟨⟨g,i⟩,m⟩:∃g4,b[k]?=some g4:=⟨_,Az (by rw[g5.out];exact f8.1)⟩
   obtain⟨⟨f1,f2⟩,f3,f4⟩:=a3.out.fit _ (Cn m);have l:=Aa (c3.out g 250 f1 f2 Q5 Q5)
   have V:=Aa (c3.out i 100 f3 f4 Q5 Q5)
   obtain⟨h8,i0,rfl,i6,x0,x1⟩:=(a3.out.up F.out).at_ k _ m;have b6:=zxg (a+1) X b k _ m A c6.out;have b9:=zuM X b k _ m B d2.out;obtain⟨o,s⟩:=Qe (Fb (g,i));obtain⟨n,r⟩:=Qe (FI (g,i));have b5:I9 g%250=o:=s;have b4:I9 i%100=n:=r;rw[b5] at l;rw[b4] at V;have i9:o<250:=by rw[<-b5];exact F8 _ Q5
   have i8:n<100:=by rw[<-b4];exact F8 _ Q5
   obtain⟨a2,R⟩:=Qe ((⟨(Lib.decDigits o).toArray⟩:ByteArray):ByteArray);obtain⟨a1,Q⟩:=Qe ((⟨(Lib.decDigits n).toArray⟩:ByteArray):ByteArray);obtain⟨q,S⟩:=Qe ((⟨(LK X (g,i)).toArray⟩:ByteArray):ByteArray);have j3:a2.size<=9:=by rw[<-R];exact OE (show o<1000 by omega)
   have j2:a1.size<=9:=by rw[<-Q];exact OE (show n<1000 by omega)
   have j4:q.size<=211:=by
    rw[<-S]
    show(LK X (g,i)).length<=211
    have:=Zy X (g,i);simp[KU] at this;omega
   have a8:=Aa (Z.out o Q0)
   have a7:=Aa (Z.out n Q0)
   have f0:LK X (g,i)=if o<X.length/\0<n then Dy ((X.take (min (o+n) X.length)).drop o) else[45]:=by
    unfold LK;rw[s,r]
   rw[R] at a8;rw[Q] at a7;rw[s,r,R,Q] at b6;rw[s,r,S] at b9;have d5:=Aa b6;have d6:=Aa b9;have d4:=Aa f0;have d3:=Aa S;have i7:(k:Int)<(N:Int):=Q0
   have h9:=Aa m;clear b6 b9 f0 S m s r b5 b4 R Q f1 f2 f3 f4
   go_wp2_with fail
   refine(l.out _).mono ?_;rintro e w6 ⟨rfl,rfl⟩;clear l
   go_wp2_with fail
   refine(V.out _).mono ?_;rintro e w6 ⟨rfl,rfl⟩;clear V x0 x1
   go_wp2_with fail
   refine(a8.out _).mono ?_;rintro e w6 ⟨rfl,z⟩;have K:=Aa (A9 z F.out);clear a8 z
   go_wp2_with fail
   refine(a7.out _).mono ?_;rintro e w7 ⟨rfl,e6⟩;have b0:=Aa (A9 e6 K.out);clear a7 e6 K
   go_upto_region 15 with fail
   obtain⟨H,f7⟩:∃H:Bool,decide (o<T.size/\0<n)=H:=⟨_,rfl⟩;have v:=Aa f7;clear f7
   go_cut [76] (λtv u=>tv=.bool H/\u=w7)
   case first =>
    by_cases d:o<T.size
    ·have e1:decide ((o:Int)<(T.size:Int))=true:=Bl Q0
     have e2:decide (o<T.size)=true:=Bl d
     by_cases f:0<n
     ·have e3:decide ((n:Int)> 0)=true:=Bl Q0
      have e4:decide (0<n)=true:=Bl f
      go_wp2_with fail
      go_meet
      exact⟨by rw[<-v.out];simp[d,f],rfl⟩
     ·have e3:decide ((n:Int)> 0)=false:=AV Q0
      have e4:decide (0<n)=false:=AV f
      go_wp2_with fail
      go_meet
      exact⟨by rw[<-v.out];simp[d,f],rfl⟩
    ·have e1:decide ((o:Int)<(T.size:Int))=false:=AV Q0
     have e2:decide (o<T.size)=false:=AV d
     go_wp2_with fail
     go_meet
     exact⟨by rw[<-v.out];simp[d],rfl⟩
   obtain⟨rfl,rfl⟩:=hcut
   go_upto_if 76 with fail
   go_cut [17] (λpv u=>pv=.string q/\Hid (Qb w u))
   case first =>
    cases H with
    | false =>
      go_wp2_with fail
      go_meet
      refine⟨?_,b0⟩;have hc:=of_decide_eq_false v.out;rw[<-d3.out,d4.out,if_neg (by rw[C];exact hc)]
    | true =>
      obtain⟨d,f⟩:=Kk v.out;obtain⟨E,c7⟩:=Qe (min (o+n) T.size:Nat);have m1:min ((o:Int)+(n:Int)) (T.size:Int)=(E:Int):=Q0
      have m2:IntKind.i64.wrap ((o:Int)+(n:Int))=(o:Int)+(n:Int):=AU _ Q0
      obtain⟨Y,c8⟩:=Qe (T.extract o E:ByteArray);have f6:Y.size<=1000000:=by rw[<-c8,Vs];omega
      have j:=Aa (λW=>XD Y W f6)
      have f5:(⟨(Dy Y.data.toList).toArray⟩:ByteArray)=q:=by
       have e9:Y.data.toList=(X.take E).drop o:=by
        rw[<-c8,Lib.extract_data,M.out,List.drop_take]
       rw[<-d3.out,d4.out,if_pos (by rw[C];exact⟨d,f⟩),e9,C,c7]
      rw[f5] at j;have g1:(o:Int)<=(E:Int):=Q0
      have g2:(E:Int)<=(T.size:Int):=Q0
      have g3:(0:Int)<=(o:Int):=Q0
      clear f5 f6 d f c7
      go_wp2_with fail
      refine(j.out _).mono ?_;rintro e w8 ⟨rfl,e7⟩;have g8:=Aa (A9 e7 b0.out);clear e7 j
      go_wp2_with fail
      go_meet
      exact⟨rfl,g8⟩
   obtain⟨rfl,x⟩:=hcut;clear b0;have m2:IntKind.i64.wrap ((o:Int)+(n:Int))=(o:Int)+(n:Int):=AU _ Q0
   have d7:(A++⟨#[114,101,97,100,32,48,32]⟩++a2++⟨#[32]⟩++a1++⟨#[10]⟩:ByteArray).size<=500+40*(k+1):=by
    simp only[QY]
    show A.size+7+a2.size+1+a1.size+1<=_
    omega
   have y:∀c:UInt8,(B++⟨#[114,101,112,108,121,32,c,32]⟩++q++⟨#[10]⟩:ByteArray).size<=10+220*(k+1):=λc=>by
    simp only[QY]
    show B.size+8+q.size+1<=_
    omega
   have d0:=Aa d7;have p:=Aa y;clear d7 y
   by_cases g0:T.size<o+n
   ·have e1:decide ((o:Int)+(n:Int)> (T.size:Int))=true:=Bl Q0
    have e2:decide ((T.size:Int)<(o:Int)+(n:Int))=true:=Bl Q0
    have hw:=Aa (d6.out 56 (by rw[C,if_pos g0]))
    go_wp2_with fail
    go_roundw
    case rel =>
     exact⟨k+1,_,_,Q0,Q0,by go_num,rfl,rfl,d0.out,p.out _,d5,hw,x⟩
    case measure=>simp[intOf];omega
   ·have e1:decide ((o:Int)+(n:Int)> (T.size:Int))=false:=AV Q0
    have e2:decide ((T.size:Int)<(o:Int)+(n:Int))=false:=AV Q0
    have hw:=Aa (d6.out 48 (by rw[C,if_neg g0]))
    go_wp2_with fail
    go_roundw
    case rel =>
     exact⟨k+1,_,_,Q0,Q0,by go_num,rfl,rfl,d0.out,p.out _,d5,hw,x⟩
    case measure=>simp[intOf];omega
  ·have h6:(decide ((k:Int)<(N:Int))=false/\decide (k<N)=false)\/(decide ((k:Int)<(N:Int))=true/\decide (k<N)=true/\decide ((k:Int)<30)=false):=by
    by_cases h:k<N
    ·exact .inr ⟨Bl Q0,Bl h,AV Q0⟩
    ·exact .inl ⟨AV Q0,AV h⟩
   have h7:(b.take k).length<=30:=by rw[BO];omega
   have c0:=Aa (g6.out (a+1) X (b.take k) wr Q0 Q0 g9 h7 F.out)
   rw[<-c6.out,<-d2.out] at c0;clear f8;rcases h6 with⟨hd,h5⟩|⟨hd,h5,h2⟩
   all_goals
    go_wp2_with fail
    refine c0.out.mono ?_;rintro e w6 ⟨rfl,z⟩;have K:=Aa (A9 z F.out);clear c0 z
    go_wp2_with fail
    go_ret
    exact⟨Q6,K.out⟩
