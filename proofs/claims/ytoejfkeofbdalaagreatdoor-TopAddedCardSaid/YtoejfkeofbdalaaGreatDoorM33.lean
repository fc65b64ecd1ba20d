import Derived.Test.YtoejfkeofbdalaaGreatDoorM32
import Derived.Sort.MapsRangeIn
import Derived.Lib.SlKeysI
import Derived.Maps.OwnSet
set_option linter.all false
set_option maxRecDepth 100000
set_option maxHeartbeats 8000000
namespace Go.Proofs.YtoejfkeofbdalaaGreatDoor
open Go.RowKit
variable {A:Option Addr} {T:TypeId} {i j k m n:Nat} {s:List Value} {v w:World} {x:Value}
theorem OU{e:TypeId}(h:Lib.IsBuilderF T e n m s w):∃a,Qh w m (Obj.cells a T (0,0)):=by
 rcases h with⟨_,v,h,_⟩|⟨_,v,h,_⟩<;>exact⟨_,h⟩
theorem zr9{h:Array Value}(b:w.ownsRow n m k x i s)(r:Lib.OthersKept 5 (some j) w v)(p:Qh w j (Obj.cells h T (0,0)))(o:T≠m)(q:m≠5):v.ownsRow n m k x i s:=by
 refine⟨b.1,?_⟩;rcases b.2 with l|⟨g,t,u,d,e,a,f⟩
 ·exact .inl l
 ·exact .inr ⟨g,t,u,d,e,r _ _ a (by intro b;cases b;rw[p] at a;injection a with a;injection a with _ a;exact o a) (by intro c y b;cases b;exact q rfl),f⟩
theorem X9{a:List Ai}(h:w.ownsRow n 136 5 (.slice A m k) m (GY a))(t:a.length=m)(j:Nat)(s:j<m) :
 ∃g o p,A=some ⟨g,o,none⟩/\g<w.heap.size/\a[j]?=some p/\Qc w g (o+j*5) (.string ⟨p.t.toArray⟩)/\Qc w g (o+j*5+1) (.int .u32 (BG p.t:Nat))/\Qc w g (o+j*5+2) (Qi (p.at0:Nat))/\Qc w g (o+j*5+3) (Qi (p.next:Nat))/\Qc w g (o+j*5+4) (Qi (p.room:Nat)):=by
 obtain⟨g,o,q,f,b⟩:=(Rd.own h).cellAt Q0
 have l:a[j]?=some (a[j]'(by omega)):=Az Q0
 have c:∀i x,(JF (a[j]'(by omega)))[i]?=some x->(GY a)[j*5+i]?=some x:=by
  intro i x d
  have u:i<5:=by
   have:=(Cc.1 d).1;simpa [JF] using this
  have r:GY a=GY (a.take j)++(JF (a[j]'(by omega))++GY (a.drop (j+1))):=by
   have e:a=a.take j++(a[j]'(by omega)::a.drop (j+1)):=by simp
   unfold GY
   conv=>lhs;rw[e,Iw,IQ]
  rw[r,F7 (by rw[Yf,BO];omega),Yf,BO,FP (by simp[JF];omega)]
  rw[show j*5+i-min j a.length*5=i by rw[Fs Q0];omega]
  exact d
 refine⟨g,o,_,q,f,l,?_,?_,?_,?_,?_⟩
 ·exact b (j*5+0) _ (c 0 _ rfl)
 ·exact b (j*5+1) _ (c 1 _ rfl)
 ·exact b (j*5+2) _ (c 2 _ rfl)
 ·exact b (j*5+3) _ (c 3 _ rfl)
 ·exact b (j*5+4) _ (c 4 _ rfl)
def Bi(a:List Ai):List UInt8:=a.flatMap (·.t)
theorem zvN(s:ByteArray)(w:World)(hs:s.size<=1000000)(L:List Av)(I:L≠[])(H:KS s.data.toList 0 L)(Q:∀S∈L,S.ts.length<=100000)(W:(DU 0 L).length<=1000000)(J:(Cl L).length<=1000000)(A:∀k,(Bi ((Cl L).take k)).length<=100000000) :
 Qk 21 #[.string s] w λe a4=>e=.returned (.tuple #[.string ⟨(Bi (Cl L)).toArray⟩,Qi (GG L)])/\Qb w a4:=by
 have l:=Aa (λa0=>Xf s a0 hs L I H Q W);obtain⟨a,z⟩:=Qe (Cl L);obtain⟨er,y⟩:=Qe (GG L);obtain⟨N,x⟩:=Qe a.length;rw[z,y] at l;rw[z] at J A |-;rw[y];rw[x] at J l;have F:=Aa x;have a6:=Aa A;clear H Q W I z y x A
 go_enter Tryz.func21,Tryz.ntmps21
 go_wp2_with fail
 refine(l.out _).mono ?_;rintro e h ⟨b2,rfl,C,o⟩;obtain⟨vq,vc,rfl⟩:=EN C
 go_upto_region 3 with(fail)
 obtain⟨b,m⟩:=Qe h.heap.size;have O:Qh (h.alloc (.cells #[.pointer none,.slice none 0 0] 134)) b (Obj.cells #[.pointer none,.slice none 0 0] 134 (0,0)):=Am _ _ _ m.symm;have g:Hid (Lib.IsBuilderF 134 5 b b (Lib.byteCells (Bi (a.take 0))) (h.alloc (.cells #[.pointer none,.slice none 0 0] 134))):=.inl ⟨Af _,_,O,⟨rfl,.inl ⟨rfl,rfl⟩⟩,by simp[Value.ownBlock]⟩
 have v:=Ay (Ag h.heap.size h) (.cells #[.pointer none,.slice none 0 0] 134);have d:=Aa (o.trans (v.mono o.size));have f:=Aa (Cd C v);have P:Hid (w.heap.size<=b):=by show _<=_;rw[<-m];exact o.size
 rw[m];clear O v C o m l;generalize h.alloc (.cells #[.pointer none,.slice none 0 0] 134)=b3 at*
 go_wp2_with fail
 go_loopw [16] (λt wr=>∃k:Nat,k<=N/\t=Qi k/\Hid (Lib.IsBuilderF 134 5 b b (Lib.byteCells (Bi (a.take k))) wr)/\Hid (wr.ownsRow (w.heap.size+2) 136 5 (.slice vq N vc) N (GY a))/\Hid (Qb w wr)) (λt _=>N+1-(intOf t).toNat)
 case atStart=>exact⟨0,Q0,rfl,g,f,d⟩
 case round =>
  clear g f d;obtain⟨k,hk,rfl,g,f,d⟩:=hrel
  by_cases a7:k<N
  ·have hd:decide ((k:Int)<(N:Int))=true:=Bl Q0
   obtain⟨b0,b1,p,hq,hg,M,c0,c1,c2,c3,c4⟩:=X9 f.out F.out k a7;subst hq;obtain⟨T,r⟩:=Qe ((⟨p.t.toArray⟩:ByteArray):ByteArray);obtain⟨a1,K⟩:=Qe (BG p.t);rw[r] at c0;rw[K] at c1;have b5:(k:Int)<(N:Int):=Q0
   have b4:(0:Int)<=(k:Int):=Q0
   have a2:=Aa M;have a3:=Aa r;clear M K r
   go_wp2_with fail
   have q:=Ay (Ag wr.heap.size wr) (.cells #[.string T,.int .u32 (a1:Nat),Qi (p.at0:Nat),Qi (p.next:Nat),Qi (p.room:Nat)] 136);have c:=zru g.out q;obtain⟨cs,i⟩:=OU c;have X:=Cd f.out q;have V:=A9 q d.out
   have B:Lib.byteCells (Bi (a.take k))++Lib.strCells T=Lib.byteCells (Bi (a.take (k+1))):=by
    have G:a.take (k+1)=a.take k++[p]:=by
     obtain⟨a9,he⟩:=Cc.1 a2.out;rw[Ep a9,he]
    rw[G];unfold Bi;rw[Iw,<-a3.out];simp[Lib.byteCells,Lib.strCells]
   have Z:(Lib.byteCells (Bi (a.take k))).length+T.size<=140737488355328:=by
    have G:=a6.out (k+1);have h2:=Co List.length B;rw[AJ,Lib.strCells_length,Mr,Mr] at h2;rw[Mr];omega
   have E:=Aa (Tryz.Builder_WriteString_k b b _ T _ c Z (by have:=Aj i;omega))
   refine E.out.mono ?_;rintro e n ⟨rfl,U,j,R⟩;have a8:Hid (Lib.IsBuilderF 134 5 b b (Lib.byteCells (Bi (a.take (k+1)))) n):=.inr (by rw[<-B];exact U)
   have a5:=Aa (zr9 X R i Q5 Q5)
   have u:Hid (Qb w n):=V.trans (j.mono P.out);clear q c i X V B Z U j R E g f d
   go_wp2_with fail
   go_roundw
   case rel=>exact⟨k+1,Q0,by go_num,a8,a5,u⟩
   case measure=>simp[intOf];omega
  ·obtain rfl:k=N:=Q0
   have Y:a.take k=a:=BR (by rw[F.out];exact Af _)
   have c:=g.out;rw[Y] at c;obtain⟨cs,i⟩:=OU c;have D:=Aa (Tryz.Builder_String_any_k b b (Bi a) wr c (by have:=Aj i;omega))
   clear c i Y
   go_wp2_with fail
   refine D.out.mono ?_;rintro e n ⟨rfl,-,j,-⟩;have u:Hid (Qb w n):=d.out.trans (j.mono P.out);clear j D g f d
   go_wp2_with fail
   go_ret2
   exact⟨rfl,u.out⟩
def MM(p:Ai):List Value:=[.string ⟨p.t.toArray⟩,.int .u32 (BG p.t:Nat),Qi (p.at0:Nat),Qi (p.next:Nat)]
def I4(a:List Ai):List Value:=a.flatMap MM
theorem zlf(a:List Ai)(p:Ai):I4 (a++[p])=I4 a++MM p:=by simp[I4]
theorem Ym(a:List Ai):(I4 a).length=a.length*4:=by
 induction a with
 |nil=>rfl
 | cons p a b =>
   have:I4 (p::a)=MM p++I4 a:=by simp[I4]
   rw[this,AJ,b];simp[MM];omega
theorem zyf:Dh 82 87 (.agg #[.string ⟨#[]⟩,.int .u32 0,Qi 0,Qi 0]) 4 40:=⟨Tryz.underlying82,Q2,rfl,Q5⟩
theorem RG{a:List Ai}{p:Ai}(h:a[n]?=some p):a.take (n+1)=a.take n++[p]:=by
 obtain⟨c,b⟩:=Cc.1 h;rw[Ep c,b]
def MG(a:List Ai):List Value:=a.map λp=>Qi (p.room:Nat)
theorem zjG(a:List Ai)(p:Ai):MG (a++[p])=MG a++[Qi (p.room:Nat)]:=by simp[MG]
theorem OM{a b c:Nat}{y:Value}{S:List Value}(h:w.ownsRow n k j x b s)(o:w.ownsRow m i a y c S)(p:k≠i)(l:w.grownBy v y.ownBlock):v.ownsRow n k j x b s:=by
 refine Oa h l ?_;cases hv:x.ownBlock with
 |none=>exact .inl rfl
 | some g =>
   refine .inr λe=>?_;obtain⟨q,f⟩:=Gr h hv;obtain⟨r,d⟩:=Gr o e.symm;rw[f] at d;injection d with d
   injection d with _ d
   exact p d
theorem zn4(s:ByteArray)(w:World)(hs:s.size<=1000000)(L:List Av)(A:L≠[])(y:KS s.data.toList 0 L)(J:∀S∈L,S.ts.length<=100000)(P:(DU 0 L).length<=1000000)(B:(Cl L).length<=1000000) :
 Qk 39 #[.string s] w λe H=>∃v,e=.returned (.tuple #[v,Qi (GG L)])/\H.ownsRow w.heap.size 87 4 v (Cl L).length (I4 (Cl L))/\Qb w H:=by
 have i:=Aa (λW=>Xf s W hs L A y J P);obtain⟨d,r⟩:=Qe (Cl L);obtain⟨er,o⟩:=Qe (GG L);obtain⟨N,n⟩:=Qe d.length;rw[r,o] at i;rw[r] at B |-;rw[o];rw[n] at B i |-;have u:=Aa n;clear y J P A r o n
 go_enter Tryz.func39,Tryz.ntmps39
 go_wp2_with fail
 refine(i.out _).mono ?_;rintro e w1 ⟨v,rfl,t,I⟩;obtain⟨vq,vc,rfl⟩:=EN t;have a:=Aa I;have h:=Aa t;clear t I i
 go_wp2_with fail
 go_loopw [14,2] (λl G wr=>∃k:Nat,k<=N/\l=Qi k/\∃F E,G=.slice F k E/\Hid (wr.ownsRow w.heap.size 87 4 G k (I4 (d.take k)))/\Hid (wr.ownsRow (w.heap.size+2) 136 5 (.slice vq N vc) N (GY d))/\Hid (Qb w wr)) (λl _ _=>N+1-(intOf l).toNat)
 case atStart=>exact⟨0,Q0,rfl,_,_,rfl,Aa (GU _ _ _ _),h,a⟩
 case round =>
  clear h a;obtain⟨k,hk,rfl,F,E,rfl,f,h,a⟩:=hrel
  by_cases a3:k<N
  ·have hd:decide ((k:Int)<(N:Int))=true:=Bl Q0
   obtain⟨g,a5,p,hq,hg,C,Y,Z,x,c3,c4⟩:=X9 h.out u.out k a3;subst hq;obtain⟨T,j⟩:=Qe ((⟨p.t.toArray⟩:ByteArray):ByteArray);obtain⟨c,b⟩:=Qe (BG p.t);rw[j] at Y;rw[b] at Z;have b0:(k:Int)<(N:Int):=Q0
   have a9:(0:Int)<=(k:Int):=Q0
   have V:=Aa C;have X:=Aa j;have U:=Aa b;have a7:=a.out.size;obtain⟨z,D⟩:=Qe wr.heap.size;have a8:g<z:=Q0
   have O:=Ay (Ag wr.heap.size wr) (.cells #[.string T,.int .u32 (c:Nat),Qi (p.at0:Nat),Qi (p.next:Nat),Qi (p.room:Nat)] 136);have m:=Aa O;clear C b j O
   go_wp2_with
    (at_builtin
     refine JC zyf Q7 _ _ Q7 w.heap.size _ k (I4 (d.take k)) Q7 ((f.out.alloc _).alloc _) (z+2) 1 _ [.string T,.int .u32 (c:Nat),Qi (p.at0:Nat),Qi (p.next:Nat)] Q7 (Rd.mono (GX (Am _ _ _ (by simp[D])) rfl Q7 (by simp[maxLen])) (by simp[D])) (by intro c b;simp at b;rcases b with rfl|rfl|rfl|rfl<;>rfl) Q0 Q0 Q4 ?_
     intro q2 x w2 R q a4;have M:=Cd h.out (Ay m.out (.cells #[.string T,.int .u32 (c:Nat),Qi (p.at0:Nat),Qi (p.next:Nat)] 87));have K:=Cd f.out (Ay m.out (.cells #[.string T,.int .u32 (c:Nat),Qi (p.at0:Nat),Qi (p.next:Nat)] 87));have a2:=Aa (OM M K Q5 q)
     have a0:Hid (Qb w w2):=(a.out.trans ((Ay m.out (.cells #[.string T,.int .u32 (c:Nat),Qi (p.at0:Nat),Qi (p.next:Nat)] 87)).mono a.out.size)).grown q Q4 (λa6 e=>Dm f.out e)
     have a1:=Aa R;clear R q a4 M K)
   go_roundw
   case rel =>
    refine⟨k+1,Q0,by go_num,q2,x,rfl,?_,a2,a0⟩
    show World.ownsRow _ _ _ _ _ _ _
    rw[RG V.out,zlf];simpa [MM,X.out,U.out] using a1.out
   case measure=>simp[intOf];omega
  ·obtain rfl:k=N:=Q0
   have Q:d.take k=d:=BR (by rw[u.out];exact Af _)
   rw[Q] at f;clear Q
   go_wp2_with fail
   go_ret2
   exact⟨_,rfl,f.out,a.out⟩
theorem zsh(s:ByteArray)(w:World)(Z:s.size<=1000000)(L:List Av)(A:L≠[])(y:KS s.data.toList 0 L)(J:∀S∈L,S.ts.length<=100000)(P:(DU 0 L).length<=1000000)(B:(Cl L).length<=1000000) :
 Qk 40 #[.string s] w λe H=>∃v,e=.returned (.tuple #[v,Qi (GG L)])/\H.ownsRow w.heap.size 3 1 v (Cl L).length (MG (Cl L))/\Qb w H:=by
 have i:=Aa (λW=>Xf s W Z L A y J P);obtain⟨d,r⟩:=Qe (Cl L);obtain⟨er,o⟩:=Qe (GG L);obtain⟨N,n⟩:=Qe d.length;rw[r,o] at i;rw[r] at B |-;rw[o];rw[n] at B i |-;have u:=Aa n;clear y J P A r o n
 go_enter Tryz.func40,Tryz.ntmps40
 go_wp2_with fail
 refine(i.out _).mono ?_;rintro e w1 ⟨v,rfl,t,I⟩;obtain⟨vq,vc,rfl⟩:=EN t;have a:=Aa I;have h:=Aa t;clear t I i
 go_wp2_with fail
 go_loopw [14,2] (λl G wr=>∃k:Nat,k<=N/\l=Qi k/\∃F E,G=.slice F k E/\Hid (wr.ownsRow w.heap.size 3 1 G k (MG (d.take k)))/\Hid (wr.ownsRow (w.heap.size+2) 136 5 (.slice vq N vc) N (GY d))/\Hid (Qb w wr)) (λl _ _=>N+1-(intOf l).toNat)
 case atStart=>exact⟨0,Q0,rfl,_,_,rfl,Aa (GU _ _ _ _),h,a⟩
 case round =>
  clear h a;obtain⟨k,hk,rfl,F,E,rfl,f,h,a⟩:=hrel
  by_cases a3:k<N
  ·have hd:decide ((k:Int)<(N:Int))=true:=Bl Q0
   obtain⟨g,a5,p,Y,hg,C,V,X,x,c3,c4⟩:=X9 h.out u.out k a3;subst Y;obtain⟨T,j⟩:=Qe ((⟨p.t.toArray⟩:ByteArray):ByteArray);obtain⟨c,b⟩:=Qe (BG p.t);rw[j] at V;rw[b] at X;have b2:(k:Int)<(N:Int):=Q0
   have b1:(0:Int)<=(k:Int):=Q0
   have U:=Aa C;have a8:=Aa j;have a7:=Aa b;have a9:=a.out.size;obtain⟨z,D⟩:=Qe wr.heap.size;have b0:g<z:=Q0
   have O:=Ay (Ag wr.heap.size wr) (.cells #[.string T,.int .u32 (c:Nat),Qi (p.at0:Nat),Qi (p.next:Nat),Qi (p.room:Nat)] 136);have m:=Aa O;clear C b j O
   go_wp2_with
    (at_builtin
     refine JC (⟨Oj,OH,rfl,Q5⟩:Dh 67 3 (Qi 0) 1 8) Q7 _ _ Q7 w.heap.size _ k (MG (d.take k)) Q7 ((f.out.alloc _).alloc _) (z+2) 1 _ [Qi (p.room:Nat)] Q7 (Rd.mono (GX (Am _ _ _ (by simp[D])) rfl Q7 (by simp[maxLen])) (by simp[D])) (by intro c b;simp at b;subst b;rfl) Q0 Q0 Q4 ?_
     intro q2 x w2 R q a4;have M:=Cd h.out (Ay m.out (.cells #[Qi (p.room:Nat)] 3));have K:=Cd f.out (Ay m.out (.cells #[Qi (p.room:Nat)] 3));have a2:=Aa (OM M K Q5 q)
     have a0:Hid (Qb w w2):=(a.out.trans ((Ay m.out (.cells #[Qi (p.room:Nat)] 3)).mono a.out.size)).grown q Q4 (λa6 e=>Dm f.out e)
     have a1:=Aa R;clear R q a4 M K)
   go_roundw
   case rel =>
    refine⟨k+1,Q0,by go_num,q2,x,rfl,?_,a2,a0⟩
    show World.ownsRow _ _ _ _ _ _ _
    rw[RG U.out,zjG];exact a1.out
   case measure=>simp[intOf];omega
  ·obtain rfl:k=N:=Q0
   have Q:d.take k=d:=BR (by rw[u.out];exact Af _)
   rw[Q] at f;clear Q
   go_wp2_with fail
   go_ret2
   exact⟨_,rfl,f.out,a.out⟩
def MN(f:Nat)(p:Ai):List Value:=[Qi (p.at0:Nat),Qi (p.room:Nat),Qi (f:Nat),Qi (p.t.length:Nat),.int .u32 (BG p.t:Nat)]
def DR:Nat->List Ai->List Value
 |_,[]=>[]
 |f,p::ps=>MN f p++DR (f+p.t.length) ps
theorem YF:∀(a:List Ai)(f:Nat)(p:Ai),DR f (a++[p])=DR f a++MN (f+(Bi a).length) p
 | [],f,p=>by simp[DR,Bi]
 | q::a,f,p=>by
   rw[Di,DR,YF a,DR,BN];congr 3
   simp[Bi];omega
theorem V6:∀(a:List Ai)(f:Nat),(DR f a).length=a.length*5
 | [],f=>rfl
 |p::a,f=>by rw[DR,AJ,V6 a,Bt];simp[MN];omega
theorem EG:Dh 29 56 (.agg #[Qi 0,Qi 0,Qi 0,Qi 0,.int .u32 0]) 5 40:=⟨Tryz.underlying29,Q2,rfl,Q5⟩
theorem zAf{a:List Ai}(h:w.ownsRow n 87 4 (.slice A m k) m (I4 a))(t:a.length=m)(j:Nat)(s:j<m) :
 ∃g o p,A=some ⟨g,o,none⟩/\g<w.heap.size/\a[j]?=some p/\Qc w g (o+j*4) (.string ⟨p.t.toArray⟩)/\Qc w g (o+j*4+1) (.int .u32 (BG p.t:Nat))/\Qc w g (o+j*4+2) (Qi (p.at0:Nat))/\Qc w g (o+j*4+3) (Qi (p.next:Nat)):=by
 obtain⟨g,o,q,f,b⟩:=(Rd.own h).cellAt Q0
 have l:a[j]?=some (a[j]'(by omega)):=Az Q0
 have c:∀i x,(MM (a[j]'(by omega)))[i]?=some x->(I4 a)[j*4+i]?=some x:=by
  intro i x d
  have u:i<4:=by
   have:=(Cc.1 d).1;simpa [MM] using this
  have r:I4 a=I4 (a.take j)++(MM (a[j]'(by omega))++I4 (a.drop (j+1))):=by
   have e:a=a.take j++(a[j]'(by omega)::a.drop (j+1)):=by simp
   unfold I4
   conv=>lhs;rw[e,Iw,IQ]
  rw[r,F7 (by rw[Ym,BO];omega),Ym,BO,FP (by simp[MM];omega)]
  rw[show j*4+i-min j a.length*4=i by rw[Fs Q0];omega]
  exact d
 refine⟨g,o,_,q,f,l,?_,?_,?_,?_⟩
 ·exact b (j*4+0) _ (c 0 _ rfl)
 ·exact b (j*4+1) _ (c 1 _ rfl)
 ·exact b (j*4+2) _ (c 2 _ rfl)
 ·exact b (j*4+3) _ (c 3 _ rfl)
theorem zuq{a:List Ai}(h:w.ownsRow n 3 1 (.slice A m k) m (MG a))(i:a.length=m)(j:Nat)(p:Ai)(b:a[j]?=some p) :
 ∃g o,A=some ⟨g,o,none⟩/\g<w.heap.size/\Qc w g (o+j) (Qi (p.room:Nat)):=by
 have f:=(Cc.1 b).1;obtain⟨g,o,e,d,c⟩:=(Rd.own h).cellAt Q0
 exact⟨g,o,e,d,c j _ (by simp[MG,b])⟩
theorem zxK(s:ByteArray)(w:World)(hs:s.size<=1000000)(L:List Av)(O:L≠[])(M:KS s.data.toList 0 L)(S:∀c7∈L,c7.ts.length<=100000)(X:(DU 0 L).length<=1000000)(D:(Cl L).length<=1000000)(Y:∀k,(Bi ((Cl L).take k)).length<=100000000) :
 Qk 10 #[.string s] w λe b=>∃v,e=.returned (.tuple #[v,Qi (GG L)])/\b.ownsRow w.heap.size 56 5 v (Cl L).length (DR 0 (Cl L))/\Qb w b:=by
 have o:=Aa (λa1=>zn4 s a1 hs L O M S X D);have H:=Aa (λa1=>zsh s a1 hs L O M S X D);cases hgd:Ig L with
 | false =>
   have n:Cl L=[]:=by unfold Cl;rw[hgd];rfl
   have m:GG L=7:=by unfold GG;rw[hgd];rfl
   rw[n,m] at o;rw[n,m];clear H M S X D Y O n m hgd
   go_enter Tryz.func10,Tryz.ntmps10
   go_wp2_with fail
   refine(o.out _).mono ?_;rintro e w1 ⟨v,rfl,g,F⟩;obtain⟨vq,vc,rfl⟩:=EN g;have h:=Aa F;clear g F o
   go_wp2_with fail
   go_ret2
   exact⟨.slice none 0 0,rfl,GU _ _ _ _,h.out⟩
 | true =>
   have m:GG L=0:=by unfold GG;rw[hgd];rfl
   obtain⟨d,n⟩:=Qe (Cl L);obtain⟨N,U⟩:=Qe d.length;rw[n,m,U] at o H;rw[n] at D Y |-;rw[m];rw[U] at D |-;have I:=Aa U;have d6:=Aa Y;clear M S X O n m U Y hgd
   go_enter Tryz.func10,Tryz.ntmps10
   go_wp2_with fail
   refine(o.out _).mono ?_;rintro e w1 ⟨v,rfl,g,F⟩;obtain⟨vq,vc,rfl⟩:=EN g;have Q:=Aa F;have b3:=Aa g;clear g F o
   go_wp2_with fail
   refine(H.out _).mono ?_;rintro e j ⟨v,rfl,g,a8⟩;obtain⟨d1,d0,rfl⟩:=EN g;have h:=Aa (Q.out.trans (a8.mono Q.out.size));have q:=Aa (Cd b3.out a8);have r:=Aa (EY g Q.out.size);clear g a8 H Q b3
   go_wp2_with fail
   go_loopw [25,7,2] (λkv fv ov wr=>∃k:Nat,k<=N/\kv=Qi k/\(∃f:Nat,fv=Qi f/\f<=100000000/\Hid (f=(Bi (d.take k)).length)/\∃oq oc,ov=.slice oq k oc/\Hid (wr.ownsRow w.heap.size 56 5 ov k (DR 0 (d.take k))))/\Hid (wr.ownsRow w.heap.size 87 4 (.slice vq N vc) N (I4 d))/\Hid (wr.ownsRow w.heap.size 3 1 (.slice d1 N d0) N (MG d))/\Hid (Qb w wr)) (λkv _ _ _=>N+1-(intOf kv).toNat)
   case atStart=>exact⟨0,Q0,rfl,⟨0,rfl,Q0,rfl,_,_,rfl,Aa (GU _ _ _ _)⟩,q,r,h⟩
   case round =>
    clear q r h;obtain⟨k,hk,rfl,⟨f,rfl,hf,a2,oq,oc,rfl,J⟩,q,r,h⟩:=hrel
    by_cases e0:k<N
    ·have hd:decide ((k:Int)<(N:Int))=true:=Bl Q0
     obtain⟨e5,e6,p,hq,hg,P,c0,c1,c2,c3⟩:=zAf q.out I.out k e0;obtain⟨t,o4,e2,b0,r0⟩:=zuq r.out I.out k p P;subst hq e2;obtain⟨T,a4⟩:=Qe ((⟨p.t.toArray⟩:ByteArray):ByteArray);obtain⟨c,u⟩:=Qe (BG p.t);have a9:T.size=p.t.length:=by rw[<-a4];rfl
     have b9:f+T.size<=100000000:=by
      have B:=d6.out (k+1);rw[RG P] at B;have C:(Bi (d.take k++[p])).length=(Bi (d.take k)).length+p.t.length:=by simp[Bi]
      rw[C,<-a2.out,<-a9] at B;exact B
     have f2:IntKind.i64.wrap ((f:Int)+(T.size:Int))=((f+T.size:Nat):Int):=by rw[AU _ Q0];omega
     rw[a4] at c0;rw[u] at c1;have f1:(k:Int)<(N:Int):=Q0
     have f0:(0:Int)<=(k:Int):=Q0
     have a3:=Aa P;have c8:=Aa u;have b5:=Aa a9;have d3:=Aa b9;clear P u a4 a9 b9
     go_upto_region 9 with(fail)
     obtain⟨a,W⟩:=Qe wr.heap.size;have b2:Qh (wr.alloc (.cells #[.string T,.int .u32 (c:Nat),Qi (p.at0:Nat),Qi (p.next:Nat)] 87)) a (Obj.cells #[.string T,.int .u32 (c:Nat),Qi (p.at0:Nat),Qi (p.next:Nat)] 87 (0,0)):=Am _ _ _ W.symm;have y:=Ay (Ag wr.heap.size wr) (.cells #[.string T,.int .u32 (c:Nat),Qi (p.at0:Nat),Qi (p.next:Nat)] 87);have R:=Aa (Cd J.out y);have b4:=Aa (Cd q.out y);have b6:=Aa (Cd r.out y);have a5:=Aa (A9 y h.out);have i:=Aa b2;have c4:=(KG (w:=wr) (y.block t b0)).trans r0;have d9:=h.out.size;rw[W] at d9 b0 |-;obtain⟨E,a0⟩:=Qe ((wr.alloc (.cells #[.string T,.int .u32 (c:Nat),Qi (p.at0:Nat),Qi (p.next:Nat)] 87)).heap.size);have e3:E=a+1:=by rw[<-a0];simp[W]
     have d7:a<E:=Q0
     have b8:t<E:=Q0
     have d8:w.heap.size<=E:=Q0
     clear e3 b2 y W J q r h c0 c1 c2 c3 r0 hg b0;generalize wr.alloc (.cells #[.string T,.int .u32 (c:Nat),Qi (p.at0:Nat),Qi (p.next:Nat)] 87)=K at*
     have m0:=(Ae i.out 0).trans rfl;have m1:=(Ae i.out 1).trans rfl;have m2:=(Ae i.out 2).trans rfl
     have x:Hid (∀b:World,Qb K b->Qc b a 0 (.string T)/\Qc b a 1 (.int .u32 (c:Nat))/\Qc b a 2 (Qi (p.at0:Nat))/\Qc b t (o4+k) (Qi (p.room:Nat))):=λb b1=>by
      have C:=(b1.block a (Aj i.out)).trans i.out;exact⟨(Ae C 0).trans rfl,(Ae C 1).trans rfl,(Ae C 2).trans rfl,(KG (w:=K) (b1.block t (by rw[a0];exact b8))).trans c4⟩
     have l:Qb K K:=Ag _ _
     go_region_held3 (λb=>Qc b a 0 (.string T)/\Qc b a 1 (.int .u32 (c:Nat))/\Qc b a 2 (Qi (p.at0:Nat))/\Qc b t (o4+k) (Qi (p.room:Nat)))
      ((first|exact x.out _ l|exact x.out _ (Cq l)|exact x.out _ (Ay l _)|exact x.out _ (Cq (Ay l _))|exact x.out _ (Ay (Cq l) _)|exact a6.out|fail))
      ((first
        |(refine Tw EG Q7 _ _ Q7 w.heap.size _ k (DR 0 (d.take k)) Q7 (R.out.alloc _) (E+1) 1 _ [Qi (p.at0:Nat),Qi (p.room:Nat),Qi (f:Nat),Qi (T.size:Nat),.int .u32 (c:Nat)] Q7 (Rd.mono (GX (Am _ _ _ a0.symm) rfl Q7 (by simp[maxLen])) Q4) (by intro c u;simp at u;rcases u with rfl|rfl|rfl|rfl|rfl<;>rfl) Q0 Q0 Q4 ?_
          intro q2 c2 j c6 G e4;have z:=Ay (Cq l) (.cells #[Qi (p.at0:Nat),Qi (p.room:Nat),Qi (f:Nat),Qi (T.size:Nat),.int .u32 (c:Nat)] 56);have V:=Cd R.out z;have b7:=Aa (OM (Cd b6.out z) V Q5 G)
          have d5:=Aa (OM (Cd b4.out z) V Q5 G)
          have Z:=(z.block a (Aj i.out)).trans i.out
          have a7:Hid (Qh j a (Obj.cells #[.string T,.int .u32 (c:Nat),Qi (p.at0:Nat),Qi (p.next:Nat)] 87 (0,0))):=(G.block a (Aj Z) (λe=>by
           obtain⟨cu,A⟩:=Gr V e.symm;rw[Z] at A;injection A with A
           injection A with _ A
           exact absurd A Q5)).trans Z
          have d2:Hid (Qb w j):=(a5.out.trans (z.mono a5.out.size)).grown G Q4 (λe7 e=>Dm R.out e)
          have d4:=Aa c6
          have a6:Hid (Qc j a 0 (.string T)/\Qc j a 1 (.int .u32 (c:Nat))/\Qc j a 2 (Qi (p.at0:Nat))/\Qc j t (o4+k) (Qi (p.room:Nat))):=by
           refine⟨(Ae a7.out 0).trans rfl,(Ae a7.out 1).trans rfl,(Ae a7.out 2).trans rfl,?_⟩;obtain⟨e8,e9,e1,-,c9⟩:=zuq b7.out I.out k p a3.out;cases e1
           exact c9
          clear c6 G e4 z V Z)
        |fail))
     have n0:=a6.out.1;clear a6 m0 m1 m2 c4 l x R b4 b6 a5 i a0 d7 b8 d8
     try clear hHeld
     go_wp2_with fail
     go_roundw
     case rel =>
      refine⟨k+1,Q0,by go_num,⟨f+T.size,by first|rfl|go_num,d3.out,?_,q2,c2,rfl,?_⟩,d5,b7,d2⟩
      ·show _=_
       rw[RG a3.out,a2.out,b5.out];simp[Bi]
      ·show World.ownsRow _ _ _ _ _ _ _
       have B:=d4.out;rw[RG a3.out,YF,<-a2.out,DC];simp only[MN,c8.out,<-b5.out];exact B
     case measure=>simp[intOf];omega
    ·obtain rfl:k=N:=Q0
     have c5:d.take k=d:=BR (by rw[I.out];exact Af _)
     rw[c5] at J;clear c5
     go_wp2_with fail
     go_ret2
     exact⟨_,rfl,J.out,h.out⟩
end Go.Proofs.YtoejfkeofbdalaaGreatDoor
namespace Go.Proofs.YtoejfkeofbdalaaGreatDoor
open Go.RowKit Go.Shelf
attribute [local go_sem] Oper.semAt_some
theorem DV:Dh 34 271 (.agg #[Qi 0,Qi 0,.string ⟨#[]⟩]) 3 32:=⟨Tryz.underlying34,Q2,rfl,Q5⟩
def Ma(h:HE):Array Value:=#[G5 h]
structure K9(c:Nat)(w:World)(pre:List HE)(W:World):Prop where
 bel:Qb w W
 st:∃v,Qh W c (Obj.cells #[v] 34 (0,0))/\W.ownsRow (c+1) 271 3 v pre.length (BB pre)
theorem K9.own{n D:Nat}{w:World}(q:w.heap.size<=D):OwnFrom D (λj W=>K9 n w j W):=by
 intro j W l s h g f
 have p:∀k b t c,Qh W k (Obj.cells b t c)->Qh l k (Obj.cells b t c):=λk b t c a=>(g.block k (Aj a) (λe=>by
  obtain⟨-,o,i,d⟩:=f k e.symm;rw[a] at i;cases i
  cases d)).trans a
 obtain⟨v,d,m⟩:=h.st;exact⟨h.bel.grown g h.bel.size (λk a=>by have:=(f k a).1;omega),⟨v,p _ _ _ _ d,Nt m g (λr e=>(f r e).2)⟩⟩
def zAV(c:Nat)(d:Nat->Array Value)(x:HE)(a:Act)(W:World):Prop:=∃b,c<b/\Qh W b (Obj.cells #[Qi (x.b:Nat),Qi (x.st:Nat),.string ⟨x.t.toArray⟩] 271 (0,0))/\a = { tmps:=d b,defers:=[] }
theorem zsG(w:World)(gf:Nat)(lb:Array Value)(eg:Enters Tryz.prog gf)(S:List HE->Prop)(N:Nat)(d6:N<=1000)(V:∀f,S f->f.length<=1000)(a2:∀n,4<=n->PK n gf lb Ma (λk=>w.heap.size<=k) S N w) :
 Qk 309 #[.slice none 0 0,.func (.func gf) #[] lb] w λe Y=>∃v f,e=.returned v/\S f/\Y.ownsRow w.heap.size 271 3 v f.length (BB f)/\Qb w Y:=by
 obtain⟨D,d5⟩:∃D:Nat,8<=D:=⟨8,Q0⟩
 have c0:1<=D:=Q0
 have c8:=Aa (a2 (D-1) Q0)
 have d3:=Aa V;clear a2 V;refine(Em (n:=D)).1 ?_;refine Lr Tryz.func309 rfl trivial ?_ rfl;simp only[Tryz.ntmps309,F6,Bt,D4,Nat.reduceAdd,Nat.reduceSub,GM,GL,GQ,GN,C6,Di]
 gi_wp2_with fail
 obtain⟨c,A⟩:=Qe w.heap.size;have P:Qh (w.alloc (.cells #[.slice none 0 0] 34)) c (Obj.cells #[.slice none 0 0] 34 (0,0)):=Am _ _ _ A.symm;have F:=Ay (Ag w.heap.size w) (.cells #[.slice none 0 0] 34);have c1:(w.alloc (.cells #[.slice none 0 0] 34)).heap.size=c+1:=by simp[A]
 have i:Hid (c=w.heap.size):=A.symm;rw[A];clear A;generalize w.alloc (.cells #[.slice none 0 0] 34)=a9 at*
 refine zz1 (n:=D) c0 (gf:=gf) (lb:=lb) rfl eg (encs:=Ma) (λ_=>rfl) (λk=>w.heap.size<=k) c8.out F
  (λB W=>K9 c w B W) (K9.own (by have:=i.out;omega)) ⟨F,_,P,GU _ _ _ _⟩
  (λx I W=>zAV c (λb=>#[.slice none 0 0,.func (.func gf) #[] lb,.pointer (some ⟨c,0,none⟩),undef,.slice none 0 0,.pointer (some ⟨b,0,none⟩),.func (.func gf) #[] lb,G5 x,undef,undef,undef,undef,undef]) x I W)
  (λx I d1 W d4 e4 h c4 hr=>by
    obtain⟨b,h0,l,h2⟩:=h
    exact⟨b,h0,(c4.block b (Aj l) (λe=>by
     obtain⟨-,a4,R,h4⟩:=hr b e.symm;rw[l] at R;cases R
     cases h4)).trans l,h2⟩)
  ?assign ?body ?done
 case assign =>
  intro a6 B x W d0 a c5 U;have z:=Aa a;have a7:=Aa U;clear a U;unfold Ma G5
  gi_wp2_with fail
  have o:=Ay (Ag W.heap.size W) (.cells #[Qi (x.b:Nat),Qi (x.st:Nat),.string ⟨x.t.toArray⟩] 271);exact a7.out _ _ (PP o) ⟨(Ao.refl _ _).below o,KeepsWalks.alloc _ _⟩ ((K9.own (D:=w.heap.size) (Af _)).alloc _ z.out) ⟨W.heap.size,Q0,Am _ _ _ rfl,rfl⟩
 case body =>
  rintro a6 B x I W a ⟨b,e0,s,rfl⟩ c5 c9;obtain⟨v,d,g⟩:=a.st;obtain⟨O,M,rfl⟩:=EN g;obtain⟨m,L⟩:=Qe B.length;have e2:m<=1000:=Q0
  rw[L] at d g;obtain⟨T,J⟩:=Qe ((⟨x.t.toArray⟩:ByteArray):ByteArray);rw[J] at s;have k0:=(Ae d 0).trans rfl;have f0:=Ah d 0;have b0:=A8 s;have b1:=AA s;have b2:=Bk s;have z:=Aa a;have c6:=Aa d;have y:=Aa g;have a8:=Aa L;have Q:=Aa J;have Z:Hid (w.heap.size<=W.heap.size):=a.bel.size;have d9:=Aj d;have e1:1<=D-1-1:=Q0
  clear a d g L c9 P F s J;unfold G5;rw[Q.out]
  gi_wp2_with
   (gi_at_builtin
    refine V9 DV rfl _ _ rfl (c+1) _ m (BB B) rfl (y.out.alloc _) ⟨W.heap.size,0,none⟩ 1 1 [Qi (x.b:Nat),Qi (x.st:Nat),.string T] rfl rfl (λj a5 C=>by rw[show(⟨W.heap.size,0,none⟩:Addr).add j=⟨W.heap.size,j,none⟩ by simp[Addr.add];intro h;exact h.symm];rw[Ae (Am _ _ _ rfl) j];simpa using C) (by intro a5 C;simp at C;rcases C with rfl|rfl|rfl<;>rfl) Q0 Q0 Q4 ?_
    intro q2 c2 t a3 a1;have o:=Ay (Ag W.heap.size W) (.cells #[Qi (x.b:Nat),Qi (x.st:Nat),.string T] 271);have u:(W.alloc (.cells #[Qi (x.b:Nat),Qi (x.st:Nat),.string T] 271)).grownBy t (Value.slice O m M).ownBlock:=a1;have H:∀r,(Value.slice O m M).ownBlock=some r->c+1<=r:=λr e=>Dm y.out e;have G:=(u.block c Q4 (λe=>by have:=H c e.symm;omega)).trans (Bb (.cells #[Qi (x.b:Nat),Qi (x.st:Nat),.string T] 271) c6.out)
    have e3:=(Ae G 0).trans rfl;have d7:=Ah G 0;have b9:=Aa G;have b7:Hid (KeepsFrom a9.heap.size W t):=(PP o).trans (V7 (y.out.alloc _) u)
    have b6:Hid (C5 (λk=>w.heap.size<=k) W t):=⟨λb cs d2 fz s l=>by
     have d8:b<c:=by have:=i.out;omega
     exact(u.block b Q4 (λe=>by have:=H b e.symm;omega)).trans (Bb (.cells #[Qi (x.b:Nat),Qi (x.st:Nat),.string T] 271) l),(KeepsWalks.alloc _ _).trans (KeepsWalks.of_grownBy u (λj a4 e X=>by
     obtain⟨cu,c3⟩:=Gr (y.out.alloc (.cells #[Qi (x.b:Nat),Qi (x.st:Nat),.string T] 271)) e;rw[c3] at X;cases X
     rfl))⟩
    have b4:Hid (Qb w t):=(z.out.bel.trans (o.mono Z.out)).grown u (by have:=Z.out;simp;omega) (λr e=>by have:=H r e;have:=i.out;omega)
    have c7:=Aa a3;clear a3 a1 u o H G)
  refine⟨b7.out.trans ((FO t _ _).from _),b6.out.trans ⟨(Ao.refl _ _).set (q:=⟨c,0,none⟩) (by show w.heap.size<=c;exact EV i.out.symm) _,KeepsWalks.setCell _ _ _⟩,?_⟩
  refine⟨b4.out.setCell (p:=⟨c,0,none⟩) (by show w.heap.size<=c;exact EV i.out.symm) _,⟨_,Ak b9.out 0 _,?_⟩⟩
  have l:=Dq c7.out ((Ab.refl c t).set 0 (.slice q2 (m+1) c2)) (Kj c);rw[AJ,zm3,a8.out];simp only[Lb,Q.out];exact l
 case done =>
  rintro E f W b3 a0 a K;obtain⟨v,d,g⟩:=a.st;obtain⟨O,M,rfl⟩:=EN g;have k0:=(Ae d 0).trans rfl;have z:=Aa a;have y:=Aa g;have b8:=Aa a0;have b5:Hid (w.heap.size<=E):=by show _<=_;have:=i.out;omega
  clear a d g P F c1 b3 a0
  gi_wp2_with fail
  refine⟨Q6,.inl ⟨_,_,rfl,J9 K,?_⟩⟩
  refine⟨_,Nk rfl _ _ _,_,f,rfl,b8.out,?_,?_⟩
  ·exact EY (Nt y.out (Mu W E (.deferred none)) (λr e=>by cases e;exact⟨_,K,rfl⟩)) (by have:=i.out;omega)
  ·exact z.out.bel.trans (Kn (w:=w) (Af _) _ E _ _ b5.out K rfl rfl)
end Go.Proofs.YtoejfkeofbdalaaGreatDoor
namespace Go.Proofs.YtoejfkeofbdalaaGreatDoor
open Go.RowKit Go.Shelf
attribute [local go_sem] Oper.semAt_some
theorem zma:Enters Tryz.prog 326:=enters_of Tryz.func326 Q2 rfl
theorem zvB(q:Option Addr)(n c:Nat)(w:World) :
 Qk 297 #[.slice q n c] w λe a=>e=.returned (.func (.func 326) #[] #[.pointer (some ⟨w.heap.size,0,none⟩)])/\w.alloc (.cells #[.slice q n c] 34)=a:=by
 have Cw:=Cw
 go_enter Tryz.func297,Tryz.ntmps297
 go_wp2
 go_ret
 exact⟨Q6,rfl⟩
theorem Sw{w:World}{n m k:Nat}{A:Option Addr}{H:List HE}(h:Rd w n 3 (.slice A m k) m (BB H))(r:H.length=m)(j:Nat)(q:j<m) :
 ∃g o x,A=some ⟨g,o,none⟩/\g<n/\H[j]?=some x/\Qc w g (o+j*3) (Qi (x.b:Nat))/\Qc w g (o+j*3+1) (Qi (x.st:Nat))/\Qc w g (o+j*3+2) (.string ⟨x.t.toArray⟩):=by
 obtain⟨g,o,l,e,a⟩:=h.cellAt Q0
 have f:H[j]?=some (H[j]'(by omega)):=Az Q0
 have b:∀i x,(Lb (H[j]'(by omega)))[i]?=some x->(BB H)[j*3+i]?=some x:=by
  intro i x c
  have s:i<3:=by
   have:=(Cc.1 c).1;simpa [Lb] using this
  have p:BB H=BB (H.take j)++(Lb (H[j]'(by omega))++BB (H.drop (j+1))):=by
   have d:H=H.take j++(H[j]'(by omega)::H.drop (j+1)):=by simp
   unfold BB
   conv=>lhs;rw[d,Iw,IQ]
  rw[p,F7 (by rw[PU,BO];omega),PU,BO,FP (by simp[Lb];omega)]
  rw[show j*3+i-min j H.length*3=i by rw[Fs Q0];omega]
  exact c
 refine⟨g,o,_,l,e,f,?_,?_,?_⟩
 ·exact a (j*3+0) _ (b 0 _ rfl)
 ·exact a (j*3+1) _ (b 1 _ rfl)
 ·exact a (j*3+2) _ (b 2 _ rfl)
theorem ztt(n:Nat)(hn:4<=n)(f:Nat)(v:Value)(H:List HE)(a:World)(i:Qg a f #[v] 34)(r:Rd a a.heap.size 3 v H.length (BB H))(X:H.length<=1000) :
 PK n 326 #[.pointer (some ⟨f,0,none⟩)] Ma (λk=>a.heap.size<=k) (λZ=>Z=H) H.length a:=by
 intro a7 J W o E p D;obtain⟨q,c,rfl,a3,b0⟩:=r.isSlice;obtain⟨N,h⟩:=Qe H.length;have y:Hid (Rd W a.heap.size 3 (.slice q H.length c) H.length (BB H)):=Rd.below r o (Af _);have u:Hid (Qg W f #[.slice q H.length c] 34):=(o.block f (Aj i)).trans i;have a8:Hid (f<a.heap.size):=Aj i;rw[h] at y u a3 X;rw[h] at p;have Q:=Aa p;have O:=Aa E;have w:=Aa h;clear r i p E h o;refine Mw Tryz.func326 rfl trivial ?_ rfl;simp only[Tryz.ntmps326,F6,Bt,D4,Nat.reduceAdd,Nat.reduceSub,GM,GL,GQ,GN,C6,Di];have a9:1<=n:=Q0
 have Y:=(Ae u.out 0).trans rfl
 gi_wp2_with fail
 clear Y
 gi_loopw [7] (λs wr=>∃k:Nat,k<=N/\s=Qi k/\Hid (J (H.take k) wr)/\Hid (Ao (λk=>a.heap.size<=k) W wr)/\Hid (W.heap.size<=wr.heap.size)) (λs _=>N+1-(intOf s).toNat)
 case atStart=>exact⟨0,Q0,rfl,D,Ao.refl _ _,Af _⟩
 case round =>
  clear D;obtain⟨k,hk,rfl,l,d,R⟩:=hrel
  by_cases a4:k<N
  ·have hd:decide ((k:Int)<(N:Int))=true:=Bl Q0
   obtain⟨g,a5,x,rfl,hg,j,A,B,C⟩:=Sw y.out w.out k a4;have S:=d.out.cell (b:=g) Q0 A
   have T:=d.out.cell (b:=g) Q0 B
   have U:=d.out.cell (b:=g) Q0 C
   have b2:(k:Int)<(N:Int):=Q0
   have b1:(0:Int)<=(k:Int):=Q0
   have P:=Aa j;have m:=Ay (Ag wr.heap.size wr) (.cells #[Qi (x.b:Nat),Qi (x.st:Nat),.string ⟨x.t.toArray⟩] 271);have L:=Aa (d.out.below m);have K:Hid (J (H.take k) (wr.alloc (.cells #[Qi (x.b:Nat),Qi (x.st:Nat),.string ⟨x.t.toArray⟩] 271))):=O.out _ _ _ none l.out (World.grownBy_alloc wr _ none) (λa6 e=>by cases e)
   obtain⟨fn,b4,b5,b3,I,F⟩:=Q.out (H.take k) x _ K.out (by rw[BO];omega)
   simp only[Ma,G5] at I;have G:wr.heap.size<=(wr.alloc (.cells #[Qi (x.b:Nat),Qi (x.st:Nat),.string ⟨x.t.toArray⟩] 271)).heap.size:=m.size;clear A B C j m
   gi_wp2_with fail
   refine F.mono ?_;rintro e z ⟨rfl,M,t⟩;have a1:=Aa (L.out.trans t.1);have a2:Hid (W.heap.size<=z.heap.size):=BU R.out (BU G t.2.size)
   have a0:Hid (J (H.take (k+1)) z):=by
    have V:H.take (k+1)=H.take k++[x]:=by rw[G7,P.out];rfl
    show J _ _
    rw[V];exact M
   clear F I t M K L l d S T U G
   gi_wp2_with fail
   go_roundw
   case rel=>exact⟨k+1,Q0,by go_num,a0,a1,a2⟩
   case measure=>simp[intOf];omega
  ·obtain rfl:k=N:=Q0
   have j:H.take k=H:=BR (by rw[w.out];exact Af _)
   rw[j] at l
   gi_wp2_with fail
   exact Fu (Dw rfl _ _ _) rfl ⟨⟨_,rfl⟩,_,rfl,l.out⟩
theorem ZJ(w:World)(d:Nat)(g:Array Value)(p:Enters Tryz.prog d)(S:List HE->Prop)(N:Nat)(r:N<=1000)(b:∀a,S a->a.length<=1000)(j:∀n,4<=n->PK n d g Ma (λk=>w.heap.size<=k) S N w) :
 Qk 281 #[.func (.func d) #[] g] w λe i=>∃v a,e=.returned v/\S a/\i.ownsRow w.heap.size 271 3 v a.length (BB a)/\Qb w i:=by
 have C:=Aa (zsG w d g p S N r b j);clear j b
 go_enter Tryz.func281,Tryz.ntmps281
 go_wp2_with fail
 refine C.out.mono ?_;rintro e s ⟨v,a,rfl,b,f,h⟩;obtain⟨q,c,rfl⟩:=EN f;have o:=Aa f;have l:=Aa h;have m:=Aa b;clear f h b C
 go_wp2_with fail
 go_ret
 exact⟨_,_,rfl,m.out,o.out,l.out⟩
end Go.Proofs.YtoejfkeofbdalaaGreatDoor
namespace Go.Proofs.YtoejfkeofbdalaaGreatDoor
open Go.RowKit Go.Shelf
open Go.Maps (Keyed)
attribute [local go_sem] Oper.semAt_some
variable {m n:Nat} {w:World}
def Gh(b:Int):Lit:=.int .i64 b
structure Fp(H:List HE)(D:DataW Value):Prop where
 size:Maps.size D=H.length
 at0:∀h∈H,Maps.has D (Gh h.b)=true/\∀z,D.atKey (Gh h.b) z=.held (G5 h)
 only:∀b:Int,Maps.has D (Gh b)=true->∃h∈H,(h.b:Int)=b
def DN(w:World)(a n:Nat)(H:List HE):Prop:=∃D,w.ownsMap Tryz.prog 3 EO a n D/\Fp H D
theorem KQ:Keyed Tryz.prog 3:=Maps.int_keyed J4
theorem DN.lt{H:List HE}(h:DN w n m H):n<w.heap.size:=by
 obtain⟨D,a,-⟩:=h;exact a.lt
theorem DN.same{w':World}{H:List HE}(h:DN w n m H)(f:w'.heap[n]?=w.heap[n]?):DN w' n m H:=by
 obtain⟨D,⟨b,a,c,d⟩,e⟩:=h;exact⟨D,⟨b,a,f.trans c,d⟩,e⟩
theorem zl6:Enters Tryz.prog 310:=enters_of Tryz.func310 Q2 rfl
theorem zt1(a:Nat)(w:World) :
 Qk 282 #[.map (some a)] w λe b=>e=.returned (.func (.func 310) #[] #[.pointer (some ⟨w.heap.size,0,none⟩)])/\w.alloc (.cells #[.map (some a)] 371)=b:=by
 have Cw:=Cw
 go_enter Tryz.func282,Tryz.ntmps282
 go_wp2
 go_ret
 exact⟨Q6,rfl⟩
theorem zyJ:∀{H:List HE},(H.map (·.b)).Nodup->∀{a b:HE},a∈H->b∈H->a.b=b.b->a=b
 | [],_,_,_,h,_,_=>by simp at h
 | x::H,hn,a,b,ha,hb,e=>by
   rw[Dz,List.nodup_cons] at hn;rcases CZ.1 ha with f|g
   ·rcases CZ.1 hb with c|d
    ·rw[f,c]
    ·exact absurd (C8.2 ⟨b,d,by rw[<-e,f]⟩) hn.1
   ·rcases CZ.1 hb with c|d
    ·exact absurd (C8.2 ⟨a,g,by rw[e,c]⟩) hn.1
    ·exact zyJ hn.2 g d e
def XW(H:List HE)(b:Lit->Bool)(a:List HE):Prop:=(a.map (·.b)).Nodup/\∀h,h∈a↔(h∈H/\b (Gh h.b)=false)
theorem zuv(n:Nat)(hn:4<=n)(b1 mb nn:Nat)(H:List HE)(hnd:(H.map (·.b)).Nodup)(hnn:nn<=1000)(w0:World)(hb:Qg w0 b1 #[.map (some mb)] 371)(hm:DN w0 mb nn H) :
 PK n 310 #[.pointer (some ⟨b1,0,none⟩)] Ma (λk=>w0.heap.size<=k) (λxs=>(xs.map (·.b)).Nodup/\∀h,h∈xs↔h∈H) H.length w0:=by
 intro y J W hW hJ hY h0;have hmW:=hm.same (hW.block mb hm.lt);obtain⟨D,hown,hD⟩:=hmW;have HB:Hid (Qg W b1 #[.map (some mb)] 371):=(hW.block b1 (Aj hb)).trans hb;have HY:=Aa hY;have HJ:=Aa hJ;have HD:=Aa hD;have HND:=Aa hnd;have HOWN:=Aa hown;clear hm hb hY hJ hW hD hnd hown;have k1:=(Ae HB.out 0).trans rfl;obtain⟨r,hr⟩:=Qe W.heap.size;refine Mw Tryz.func310 rfl trivial ?_ rfl;simp only[Tryz.ntmps310,F6,Bt,D4,Nat.reduceAdd,Nat.reduceSub,GM,GL,GQ,GN,C6,Di];have h1n:1<=n:=Q0
 gi_wp2_with (first
  |(gi_at_range;refine wpListIn_range_own _ rfl _ 371 rfl 3 271 KQ PD _ mb nn _ rfl HOWN.out ?_;intro w1 hrg0 hg0 hs0)
  |gi_in)
 go_frame
 rw[hr] at hrg0 |-
 gi_loopw [7] (λ_ wr=>∃(left:Lit->Bool)(cnt:Nat)(pre:List HE),Hid (wr.ranges Tryz.prog 3 EO mb r nn D left cnt)/\Hid (pre.length+cnt<=H.length)/\Hid (XW H left pre)/\Hid (J pre wr)) (λ_ wr=>wr.rangeLeft mb r)
 case atStart =>
  refine⟨_,_,[],hrg0,by show _<=_;rw[HD.out.size];simp,⟨List.nodup_nil,λh=>⟨λh=>by simp at h,λ⟨h1,h2⟩=>by rw[(HD.out.at0 h h1).1] at h2;cases h2⟩⟩,HJ.out _ _ _ none h0 hg0 (λr e=>by cases e)⟩
 case round =>
  obtain⟨left,cnt,pre,HRG,HCS,HC,HJ0⟩:=hrel;clear h0 hrg0 hg0 hs0
  gi_wp2_with (first
   |(gi_at_next;refine wpListIn_next_ranges _ rfl _ rfl 3 KQ EO (Value.int .i64) id (λkey kl hk=>by obtain⟨x,hx,_⟩:=Maps.keyOf_i64 J4 hk;exact⟨x,hx⟩) (λv _ _=>⟨v,rfl⟩) mb r nn _ _ _ rfl HRG.out ?_ ?_)
   |gi_in)
  ·intro hc0 hl0
   gi_wp2_with fail
   exact Fu (Dw rfl _ _ _) rfl ⟨⟨_,rfl⟩,pre,⟨HC.out.1,λh=>by rw[HC.out.2 h,hl0];simp⟩,HJ0.out⟩
  ·intro x c kl yd yp w2 cnt2 hkey hlk hv hat hrg2 hlt hg2 hs2 hen
   obtain⟨x',ex,rfl,-⟩:=Maps.keyOf_i64 J4 hkey;obtain rfl:x=x':=by simpa [encZ] using ex
   obtain rfl:yd=.held c:=by
    have:some ((DataW.held c,[]):DataW Value × List MemPlace)=some (yd,yp):=hv;injection this with this
    injection this with this _
    exact this.symm
   obtain⟨h,hh,hb⟩:=HD.out.only x (Maps.has_true_of_atKey hat);clear ex;subst hb
   obtain rfl:c=G5 h:=by
    have h1:=(HD.out.at0 h hh).2 (.map []);have h2:=hat (.map []);rw[show Gh (h.b:Int)= .int .i64 (h.b:Int) from rfl,h2] at h1
    injection h1
   have hJ2:J pre w2:=HJ.out pre wr w2 (some r) HJ0.out hg2 (λr' e=>by cases e;exact⟨EV hr,HRG.out.iter_walk⟩)
   have hJ3:J pre (w2.alloc (.cells #[.int .i64 (h.b:Nat),.int .i64 (h.st:Nat),.string ⟨h.t.toArray⟩] 271)):=HJ.out _ _ _ none hJ2 (World.grownBy_alloc w2 _ none) (λr e=>by cases e)
   obtain⟨fn,tmps,assign,body,hy,hR⟩:=HY.out pre h _ hJ3 (by have:=HCS.out;omega)
   have HRG2:=Aa (hrg2.alloc (.cells #[.int .i64 (h.b:Nat),.int .i64 (h.st:Nat),.string ⟨h.t.toArray⟩] 271))
   have HC2:Hid (XW H (λz=>left z && !z.sameKey (.int .i64 (h.b:Int))) (pre++[h])):=by
    have hsk:∀z:Int,(Gh z).sameKey (.int .i64 (h.b:Int))=decide (z=(h.b:Int)):=λz=>by
     by_cases e:z=(h.b:Int)
     ·rw[e]
      simp[Gh,Lit.sameKey]
     ·rw[Maps.sameKey_ne (by intro e2;injection e2 with _ e2;exact e e2)]
      simp[e]
    refine⟨?_,λz=>?_⟩
    ·rw[D3,Rf]
     refine⟨HC.out.1,Q6,?_⟩
     intro a ha b hb2 e;simp at hb2;subst hb2 e;obtain⟨z,hz,hz2⟩:=C8.1 ha;have h1:=((HC.out.2 z).1 hz).2;rw[show Gh (z.b:Int)= .int .i64 (h.b:Int) by rw[hz2];rfl,hlk] at h1
     cases h1
    ·simp only[FZ,Li,HC.out.2 z,hsk]
     constructor
     ·rintro(⟨h1,h2⟩|rfl)
      ·exact⟨h1,by rw[h2];rfl⟩
      ·exact⟨hh,Q6⟩
     ·rintro⟨h1,h2⟩
      by_cases e:(z.b:Int)=(h.b:Int)
      ·right
       exact zyJ HND.out h1 hh Q0
      ·left
       exact⟨h1,by simpa [e] using h2⟩
   simp only[Ma,G5] at hy;simp only[G5] at hen |-;have hsz:w2.heap.size=wr.heap.size:=hs2;clear hJ2 hJ3 hrg2 hat hv hkey hg2 hs2
   gi_wp2_with fail
   refine hR.mono ?_;rintro e W' ⟨rfl,hJ',hk'⟩;have HRG3:=Aa (HRG2.out.of_walks hk'.2);have HJ3:=Aa hJ';have HLT:Hid (cnt2<cnt):=hlt
   have HCS2:Hid ((pre++[h]).length+cnt2<=H.length):=by
    show _<=_
    have:=HCS.out;simp;omega
   clear hR hy hk' hJ' hen hsz hlt
   gi_wp2_with fail
   go_roundw
   case rel=>exact⟨_,cnt2,pre++[h],HRG3,HCS2,HC2,HJ3⟩
   case measure=>rw[HRG3.out.left_eq,HRG.out.left_eq];exact HLT.out
