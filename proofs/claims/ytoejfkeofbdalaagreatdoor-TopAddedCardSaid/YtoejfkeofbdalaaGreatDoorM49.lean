import Derived.Test.YtoejfkeofbdalaaGreatDoorM41
import Derived.Test.YtoejfkeofbdalaaGreatDoorM48
set_option linter.all false
set_option maxRecDepth 100000
set_option maxHeartbeats 8000000
namespace Go.Proofs.YtoejfkeofbdalaaGreatDoor
open Go.RowKit
open Go.Maps (Keyed)
theorem zvg{n:Nat}{w v:World}{x:Value}(h:Xc n w v x){p:List UInt8 × Value}(f:p∈Gd n) :
 ∃a,x=.map (some a)/\w.heap.size<=a/\a<v.heap.size/\∀W,W.heap[a]?=v.heap[a]?->(Instr.lookup 237 (.map (some a)) (.string ⟨p.1.toArray⟩) true).run Tryz.prog W=.ok (.tuple #[p.2,.bool true]) W:=by
 obtain⟨a,j,D,rfl,o,d,q⟩:=h;obtain⟨s,u⟩:=q p f;refine⟨a,rfl,o,d.lt,λW y=>?_⟩
 have E:W.ownsMap Tryz.prog 9 EO a j D:=by
  obtain⟨m,F,A,r⟩:=d;exact⟨m,F,y.trans A,r⟩
 have g:Tryz.prog.underlying 9=some .string:=Q2
 have C:Tryz.prog.underlying 237=some (.map 9 235):=Q2
 obtain⟨r,B⟩:=SC f;obtain⟨k,G,i,b⟩:=E.look_ok (t:=237) (e:=235) (Maps.string_keyed g) C (z:=.agg #[.string ⟨#[]⟩,.nilFunc,.bool false]) Q2 (rfl:EO _=some (.held _,[])) (key:=.string ⟨p.1.toArray⟩) (WideMaps.keyOf_string_mk g (zuc n r p B))
 have c:(⟨p.1.toArray⟩:ByteArray).data.toList=p.1:=rfl;rw[c,s] at i;rw[c,u] at b
 have l:k=p.2:=by
  unfold EO at b;simp at b;exact b.1
 rw[i,l]
theorem Sr(j:Bool)(w:World)(a6:Int)(hm:Qc w 0 0 (Qi a6))(f:Nat)(cs:Array Value)(hd:Qg w f cs 145)
 (s:ByteArray) (hp:0<s.size) (h8:(((s[0]'hp).toNat:Int)==35)=false) (i9:s.size<=100000)
 (y:List ByteArray) (D:List UInt8) (d3:Lib.splitB ⟨#[32]⟩ 0 y.length s=⟨D.toArray⟩::y) (e0:Lib.countB s ⟨#[32]⟩=y.length) (F:List UInt8) (m:Nat) (a5:(D,.agg #[.string ⟨F.toArray⟩,.func (.func m) #[.pointer (some ⟨f,0,none⟩)] #[],.bool j])∈Gd f) (d2:j=true->cs[9]?=some (.bool true))
 (M:y.length=F.length) (g6:F.length<=3)
 (A:Nat->Array Value) (c5:A 0=#[Qi 0,Qi 0,Qi 0,.string ⟨#[]⟩]) (a9:∀i,i<=F.length->∃a b c d,A i=#[a,b,c,d])
 (b5:∀i,i<F.length->∀(b:UInt8)(x:ByteArray),F[i]?=some b->y[i]?=some x->∀W p,Qb w W->w.heap.size<=p->Qh W p (Obj.cells (A i) 241 (0,0))->Qk 135 #[Qp p 0,Qi i,.int .u8 b.toNat,.string x] W λe g=>e=.returned (.bool true)/\Ab p W g/\Qh g p (Obj.cells (A (i+1)) 241 (0,0)))
 (V:Enters Tryz.prog m) (a4:Ending->World->Prop) (b3:∀W,Qb w W->Qk m #[Qp f 0,.agg (A F.length)] W λe g=>(∃v,e=.returned v)/\a4 e g) :
 Qk 75 #[Qp f 0,.string s] w a4:=by
 have e8:=Aa b5;have e5:=Aa b3;have e4:=Aa a9;have f3:=Aa c5;have e7:=Aa M;have f6:=Aa V;have e6:=Aa hd;have g1:=Aa d2;clear V d2;clear b5 b3 a9 c5;have t:=Aa (Tryz.strings_Split s ⟨#[32]⟩ a6 w Q0 hm Q5)
 rw[e0,d3] at t;have a7:=Aa (λW=>zwH f W)
 have i8:s.toList.isEmpty=false:=by
  cases h:s.toList with
  | nil =>
    rw[Lib.toList_data] at h;have L:s.data.toList.length=s.size:=by simp
    rw[h] at L;simp at L;omega
  |cons a h5=>rfl
 obtain⟨N,O⟩:=Qe F.length;rw[M] at t;rw[O] at t M g6;obtain⟨K,b4⟩:=Qe (N+1);rw[b4] at t;have i0:(0:Int)<(K:Int):=Q0
 have i1:0<K:=Q0
 obtain⟨k,U⟩:=Qe ((⟨F.toArray⟩:ByteArray):ByteArray);have h9:k.size=N:=by rw[<-U,<-O];rfl
 rw[U] at a5;obtain⟨z,hz⟩:=Qe w.heap.size;obtain⟨R,Q⟩:=Qe (((⟨D.toArray⟩::y).map Value.string).toArray);have c9:R[0]?=some (.string ⟨D.toArray⟩):=by rw[<-Q];rfl
 rw[Q] at t;clear e0 d3
 go_enter Tryz.func75,Tryz.ntmps75
 go_wp2_with fail
 refine t.mono ?_;rintro e l ⟨rfl,rfl⟩;have a3:=Am w (.cells R 9) z hz.symm;have c6:=Ay (Ag w.heap.size w) (.cells R 9);have b6:=Aa c6;have c2:=Aa a3;have c0:=(Ae a3 0).trans c9;obtain⟨o,r⟩:=Qe ((w.alloc (.cells R 9)).heap.size);rw[hz];generalize w.alloc (.cells R 9)=l at*
 clear a3 c6 t
 go_wp2_with fail
 have h6:Hid (Qb l l):=Ag _ _;have d4:z<l.heap.size:=Aj c2;have b9:Hid (∀W,Qb l W->Qc W z 0 (.string ⟨D.toArray⟩)):=λW h=>(h.cell (p:=⟨z,0,none⟩) d4).trans c0;have h3:=Aa a5;have g4:=Aa Q;have Z:=Aa O;have f7:=Aa U;clear a5 Q c9 hm hd M O U;have c4:Hid (∀g:World,Qb l g->Qb l g/\Qc g z 0 (.string ⟨D.toArray⟩)):=λg h=>⟨h,b9 g h⟩;have g7:Qb l l:=Ag _ _
 go_region_held3 (λg=>Qb l g/\Qc g z 0 (.string ⟨D.toArray⟩))
  ((refine c4 _ ?_;first|assumption|exact Cq Q3|exact Bh Q3|exact Ay (Bh Q3) _|exact A9 Q3 (Bh Q3)|exact Ay Q3 _|exact Ce (Ce (Ce (by first|assumption|exact Ay Q3 _) (by first|exact EV r|exact Below.size B) _ _) (by first|exact EV r|exact Below.size B) _ _) (by first|exact EV r|exact Below.size B) _ _|fail))
  ((first
   |(go_at_call 134
     refine(a7 _).mono ?_;rintro e n ⟨v,rfl,d0,a2⟩;obtain⟨mb,rfl,h0,e1,a0⟩:=zvg d0 h3;have f8:=a0 n rfl;have f9:=a0 (n.alloc (.cells #[.string ⟨#[]⟩,.nilFunc,.bool false] 235)) (((Ag n.heap.size n).alloc (Af _) _).block mb e1);clear a0
     first
     |(have H:Qh n o (Obj.cells #[.string ⟨#[]⟩,.nilFunc,.bool false] 235 (0,0)):=(a2.block o Q4).trans (Am _ _ _ r.symm)
       have b0:=(Ae H 0).trans rfl;have b1:=(Ae H 1).trans rfl;have b2:=(Ae H 2).trans rfl;have g0:=Ah H
       skip)
     |skip
     have B:Qb l n:=A9 a2 (Bh Q3)
     clear a2 d0 h0 e1
     skip)
   |fail))
 all_goals
  first
  |(have C:Qh (((n.setCell ⟨o,0,none⟩ (.string k)).setCell ⟨o,1,none⟩ (.func (.func m) #[.pointer (some ⟨f,0,none⟩)] #[])).setCell ⟨o,2,none⟩ (.bool j)) o (Obj.cells #[.string k,.func (.func m) #[.pointer (some ⟨f,0,none⟩)] #[],.bool j] 235 (0,0)):=by
     have:=Ak (Ak (Ak H 0 (.string k)) 1 (.func (.func m) #[.pointer (some ⟨f,0,none⟩)] #[])) 2 (.bool j);simpa using this
    have T:=Ce (Ce (Ce B (EV r) 0 (.string k)) (EV r) 1 (.func (.func m) #[.pointer (some ⟨f,0,none⟩)] #[])) (EV r) 2 (.bool j);have b8:Hid (l.heap.size<=o):=EV r;clear H b0 b1 b2 g0;generalize(((n.setCell ⟨o,0,none⟩ (.string k)).setCell ⟨o,1,none⟩ (.func (.func m) #[.pointer (some ⟨f,0,none⟩)] #[])).setCell ⟨o,2,none⟩ (.bool j))=q at*
    generalize d1:o=bx at*
    skip)
  |(have C:=Am n (.cells #[.string k,.func (.func m) #[.pointer (some ⟨f,0,none⟩)] #[],.bool j] 235) _ rfl
    have T:=Ay B (.cells #[.string k,.func (.func m) #[.pointer (some ⟨f,0,none⟩)] #[],.bool j] 235);have b8:Hid (l.heap.size<=n.heap.size):=Below.size B;obtain⟨bx,d1⟩:=Qe n.heap.size;rw[d1] at C b8 |-;generalize n.alloc (.cells #[.string k,.func (.func m) #[.pointer (some ⟨f,0,none⟩)] #[],.bool j] 235)=q at*
    skip)
  clear f8 f9
 all_goals
  have b7:Hid (Qb w q):=b6.trans (T.mono b6.size);have c1:Hid (Qh q z (Obj.cells R 9 (0,0))):=(T.block z d4).trans c2;have j2:IntKind.i64.wrap (1+(N:Int))=(K:Int):=by rw[<-b4];exact(AU _ Q0).trans Q0
  have f0:=(Ae C 0).trans rfl;have f1:=(Ae C 1).trans rfl;have f2:=(Ae C 2).trans rfl;have c3:=Aa C;clear T C B a7 c0 r b9 c4 g7
 all_goals
  have h7:True:=trivial;simp only[JM,Lh,Me] at f0 f1 f2;obtain⟨G,Y⟩:=Qe q.heap.size
 all_goals
  have d5:Hid (Qh (q.alloc (.cells #[Qi 0,Qi 0,Qi 0,.string ⟨#[]⟩] 241)) G (Obj.cells (A 0) 241 (0,0))):=by
   rw[f3.out];exact Am _ _ _ Y.symm
  have d6:Hid (Qb w (q.alloc (.cells #[Qi 0,Qi 0,Qi 0,.string ⟨#[]⟩] 241))):=Ay b7 _;have d8:=Aa (Al ((Ag q.heap.size q).alloc (Af _) (.cells #[Qi 0,Qi 0,Qi 0,.string ⟨#[]⟩] 241)) c3);have d7:=Aa (Al ((Ag q.heap.size q).alloc (Af _) (.cells #[Qi 0,Qi 0,Qi 0,.string ⟨#[]⟩] 241)) c1);have S:Hid (bx<G/\z<G/\w.heap.size<=G):=⟨by rw[<-Y];exact Aj c3,by rw[<-Y];exact Aj c1,by rw[<-Y];exact b7.size⟩
  go_wp2_with fail
  go_loopw [7,9] (λh2 iv wr=>∃i:Nat,i<=N/\iv=Qi i/\h2=.bool true/\Hid (Qb w wr)/\Hid (Qh wr G (Obj.cells (A i) 241 (0,0)))/\Hid (Qh wr bx (Obj.cells #[.string k,.func (.func m) #[.pointer (some ⟨f,0,none⟩)] #[],.bool j] 235 (0,0)))/\Hid (Qh wr z (Obj.cells R 9 (0,0)))) (λ_ iv _=>N+1-(intOf iv).toNat)
  case atStart=>exact⟨0,Q0,rfl,rfl,d6,d5,d8,d7⟩
  case round =>
   clear d5 d6 d8 d7;obtain⟨i,hi,rfl,rfl,I,E,J,a8⟩:=hrel;have x0:=(Ae J 0).trans rfl;have x1:=(Ae J 1).trans rfl;have x2:=(Ae J 2).trans rfl
   by_cases g9:i<N
   ·have hd:decide ((i:Int)<(N:Int))=true:=Bl Q0
    have X:i<F.length:=by rw[Z.out];exact g9
    obtain⟨b,hb⟩:∃b,F[i]?=some b:=⟨_,Az X⟩;obtain⟨x,hx⟩:∃x,y[i]?=some x:=⟨_,Az (by rw[e7.out];exact X)⟩
    have g8:i<k.size:=Q0
    have i2:k[i]'g8=b:=by
     have h1:=(Cc.1 hb).2;rw[<-h1];have L:k=⟨F.toArray⟩:=f7.symm;simp[L];rfl
    have cx:Qc wr z (1+i) (.string x):=(Ae a8 _).trans (by rw[<-g4.out,Mv];simp[hx])
    have cy:Qc wr z (i+1) (.string x):=by rw[Mv];exact cx
    have e3:=Aa (e8 i X b x hb hx);have j0:IntKind.i64.wrap (1+(i:Int))=((i+1:Nat):Int):=(AU _ Q0).trans Q0
    have j1:IntKind.i64.wrap ((i:Int)+1)=((i+1:Nat):Int):=(AU _ Q0).trans Q0
    have i3:(0:Int)<=(i:Int):=Q0
    have i4:(0:Int)<=((i+1:Nat):Int):=Q0
    have i5:((i+1:Nat):Int)<(K:Int):=Q0
    have i6:(i:Int)<(N:Int):=Q0
    have i7:i+1<K:=Q0
    clear hb hx X
    go_wp2_with fail
    go_region_with
     (first
      |(go_at_call 135
        refine(e3 wr.drew G (Cq I) S.2.2 E).mono ?_;rintro e e9 ⟨rfl,P,c8⟩;have f4:Hid (Qb w e9):=P.bel (w0:=w) (Cq I) S.2.2 (Af _);have g2:=Aa c8;have g5:=Aa (P.other (w:=wr.drew) J (Nat.ne_of_lt S.1));have g3:=Aa (P.other (w:=wr.drew) a8 (Nat.ne_of_lt S.2.1));clear P c8)
      |fail)
    all_goals
     go_wp2_with fail
     go_roundw
     case rel=>exact⟨i+1,Q0,by go_num,rfl,f4,g2,g5,g3⟩
     case measure=>simp[intOf];omega
   ·obtain rfl:i=N:=Q0
    obtain⟨a,b,c,d,a1⟩:=e4 i (by rw[Z.out];exact Af _)
    have c7:∀W,Qb w W->Qk m #[Qp f 0,.agg #[a,b,c,d]] W λe g=>(∃v,e=.returned v)/\a4 e g:=by
     have:=e5.out;rw[Z.out,a1] at this;exact this
    have f5:=Aa c7;rw[a1] at E;have p0:=(Ae E 0).trans rfl;have p1:=(Ae E 1).trans rfl;have p2:=(Ae E 2).trans rfl;have p3:=(Ae E 3).trans rfl;simp only[JM,Lh,Me] at p0 p1 p2 p3;clear c7 a1;have V:=f6.out;unfold Enters at V;obtain⟨u,d9,hu⟩:∃u:Bool,(j=true->Qc wr f 9 (.bool true))/\u=j:=⟨j,λh=>(Ae (Al I e6) 9).trans (g1 h),rfl⟩;subst hu;cases u
    all_goals
     first|replace d9:=d9 rfl|clear d9
     go_wp2_with fail
     refine(f5 _ I).mono ?_;rintro e w6 ⟨⟨v,rfl⟩,e2⟩;have h4:=Aa e2;clear e2
     go_wp2_with fail
     exact h4
