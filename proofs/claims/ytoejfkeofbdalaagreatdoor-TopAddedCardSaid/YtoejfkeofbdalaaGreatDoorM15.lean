import Derived.Test.YtoejfkeofbdalaaGreatDoorM10
import Derived.Defers
import Derived.RegionTactic
import Derived.Laws.Pointers
set_option linter.all false
set_option maxRecDepth 100000
set_option maxHeartbeats 8000000
namespace Go.Proofs.YtoejfkeofbdalaaGreatDoor
open Go.RowKit
def JS(b:List Nat)(a:List Nat):List Nat:=a.foldl (λd j=>d.set j (d[j]?.getD 0+1)) b
theorem zk8(b:List Nat):∀a,(JS a b).length=a.length:=by
 induction b with
 |nil=>intro a;rfl
 |cons x b c=>intro a;unfold JS at*;rw[PH,c,Jm]
theorem zre(b:List Nat):∀(a:List Nat)(j d:Nat),a[j]?=some d->(JS a b)[j]?=some (d+b.count j):=by
 induction b with
 |nil=>intro a j d h;simpa [JS] using h
 | cons x b c =>
   intro a j d h;have f:=(Cc.1 h).1;unfold JS;rw[PH]
   show(JS (a.set x (a[x]?.getD 0+1)) b)[j]?=_
   by_cases e:x=j
   ·subst e
    rw[c _ x (d+1) (by rw[P7,if_pos rfl,if_pos f,h];rfl),Od]
    simp;omega
   ·rw[c _ j d (by rw[P7,if_neg e];exact h),Od]
    simp[e]
theorem zn1(b a:List Nat)(k x:Nat)(h:a[k]?=some x):JS b (a.take (k+1))=(JS b (a.take k)).set x ((JS b (a.take k))[x]?.getD 0+1):=by
 unfold JS;rw[G7,h,Te];rfl
def NK(w:World)(k:Nat)(s:ByteArray)(a:Nat):Prop:=w.heap[k]?=some (.cells #[.string s,Qi (a:Nat)] 463 (0,0))
theorem RL(w:World)(k:Nat)(s:ByteArray)(a n v:Nat)(b:NK w k s a)(j:s.size<=1099511627776)(i:n<=5)(h:a+n<=8*s.size)(l:B.num (B.slice s.data.toList a n)=v) :
 Qk 336 #[Qp k 0,Qi n] w λe c=>e=.returned (Qi (v:Nat))/\Ab k w c/\NK c k s (a+n):=by
 subst l;have m:k<w.heap.size:=Aj b;refine(zsS w k s a n b j i h).mono ?_;rintro e c ⟨rfl,W,d,rfl⟩;refine⟨rfl,(Ab.of d).set _ _,?_⟩;have f:W.heap[k]?=_:=(d.block k m).trans b;have g:=Ak f 1 (Qi ((a+n:Nat):Int));simpa [NK] using g
def KP(s:List UInt8):Nat->Nat->Nat->Except Int (Nat × Nat)
 |0,_,_=>.error 2
 | f+1,n,a =>
   if 8*s.length<a+1 then .error 2
   else if B.bitAt s a=false then .ok (n,a+1)
   else if 8*s.length<a+1+1 then .error 2
   else if B.bitAt s (a+1) then(if 2<=n then KP s f (n-1) (a+2) else .error 3)
   else(if n<=19 then KP s f (n+1) (a+2) else .error 3)
def zBl(k:Nat)(s:ByteArray)(r:Except Int (Nat × Nat))(w:World)(e:Ending)(a:World):Prop :=
 match r with
 | .ok (m,b)=>e=.returned (Qi (m:Nat))/\Ab k w a/\NK a k s b
 | .error c=>e=.panicked (RX c)/\Ab k w a
theorem zpp(w:World)(k:Nat)(s:ByteArray)(o p F:Nat)(G:NK w k s o)(l:s.size<=1099511627776)(V:1<=p)(Y:p<=20)(U:o<=9223372036854775000)(T:8*s.size<o+F) :
 Qk 337 #[Qp k 0,Qi p] w λe W=>zBl k s (KP s.data.toList F p o) w e W:=by
 have O:s.data.toList.length=s.size:=by simp
 obtain⟨r,H⟩:=Qe (KP s.data.toList F p o);rw[H];have HE:=Aa G;have S:=Aa H;have R:=Aa O;have x0:k<w.heap.size:=Aj G;clear G H O
 go_enter Tryz.func337,Tryz.ntmps337
 go_wp2_with fail
 go_loopw [1] (λP wr=>∃(n a f:Nat),1<=n/\n<=20/\P=Qi n/\KP s.data.toList f n a=r/\8*s.size<a+f/\a<=9223372036854775000/\f<=F/\Ab k w wr/\NK wr k s a ) (λP wr=>8*s.size+2-(intOf ((wr.cell? ⟨k,1,none⟩).getD (.bool false))).toNat)
 case atStart=>exact⟨p,o,F,V,Y,rfl,S.out,T,U,Af _,Ab.refl _ _,HE.out⟩
 case round =>
  obtain⟨n,a,f,a2,a3,rfl,b,hf,a0,a1,y,i⟩:=hrel;have v:=Aa y;have X:=Aa i;have E:Qc wr k 1 (Qi (a:Nat)):=Ae i 1;have Q:=Aa E;obtain⟨f,rfl⟩|rfl:(∃g,f=g+1)\/f=0:=by cases f with|zero=>exact .inr rfl|succ g=>exact .inl ⟨g,rfl⟩
  rotate_left
  ·have Z:r=.error 2:=b.symm
   subst Z;have C:=Aa (TV wr k s a 1 i l Q0 Q0 Q0)
   clear y i E b
   go_wp2_with fail
   refine C.out.mono ?_;rintro e q ⟨rfl,x⟩
   go_wp2_with fail
   exact⟨rfl,rfl,v.out.trans (Ab.of x)⟩
  rw[KP,R.out] at b
  by_cases M:8*s.size<a+1
  ·rw[if_pos M] at b
   subst b;have C:=Aa (TV wr k s a 1 i l Q0 Q0 Q0)
   clear y i E
   go_wp2_with fail
   refine C.out.mono ?_;rintro e q ⟨rfl,x⟩
   go_wp2_with fail
   exact⟨rfl,rfl,v.out.trans (Ab.of x)⟩
  rw[if_neg M] at b;rcases hb:B.bitAt s.data.toList a with _|_
  ·rw[hb,if_pos rfl] at b
   subst b;have C:=Aa (RL wr k s a 1 0 i l Q0 Q0 (by rw[Sa,hb];rfl))
   clear y i E hb
   go_wp2_with fail
   refine C.out.mono ?_;rintro e q ⟨rfl,D,h⟩;have c:=Aa D;have u:=Aa h;clear D h
   go_wp2_with fail
   go_ret
   exact⟨rfl,v.out.trans c.out,u.out⟩
  rw[hb,if_neg Q6] at b
  have C:=Aa (RL wr k s a 1 1 i l Q0 Q0 (by rw[Sa,hb];rfl))
  have K:=Aa b;clear y i E hb b
  go_wp2_with fail
  refine C.out.mono ?_;rintro e q ⟨rfl,D,h⟩;have c:=Aa (v.out.trans D);have u:=Aa h;have b:=K.out;clear D C v X
  by_cases N:8*s.size<a+1+1
  ·rw[if_pos N] at b
   subst b;have C:=Aa (TV q k s (a+1) 1 h l Q0 Q0 Q0)
   clear h
   go_wp2_with fail
   refine C.out.mono ?_;rintro e t ⟨rfl,x⟩
   go_wp2_with fail
   exact⟨rfl,rfl,c.out.trans (Ab.of x)⟩
  rw[if_neg N] at b;rcases hb:B.bitAt s.data.toList (a+1) with _|_
  ·rw[hb,if_neg Q6] at b
   have C:=Aa (RL q k s (a+1) 1 0 h l Q0 Q0 (by rw[Sa,hb];rfl))
   clear h hb K
   by_cases z:n<=19
   ·rw[if_pos z] at b
    have J:=Aa b;clear b
    go_wp2_with fail
    refine C.out.mono ?_;rintro e t ⟨rfl,d,j⟩;have m:=Aa (c.out.trans d);have A:=Aa j;clear d j C c u
    go_wp2_with fail
    refine(Xx _ _ _ (by simp[JJ];omega)).mono ?_
    rintro e I ⟨rfl,rfl⟩
    go_wp2_with fail
    go_roundw
    case rel=>exact⟨n+1,a+2,f,Q0,Q0,by go_num,J.out,Q0,Q0,Q0,m.out,A.out⟩
    case measure =>
     have L:Qc t k 1 (Qi ((a+1+1:Nat):Int)):=Ae A.out 1;rw[L,Q.out];simp[intOf];omega
   ·rw[if_neg z] at b
    subst b
    go_wp2_with fail
    refine C.out.mono ?_;rintro e t ⟨rfl,d,j⟩;have m:=Aa (c.out.trans d);clear d j C c u
    go_wp2_with fail
    refine(Xy _ _ _ (by simp[JJ];omega)).mono ?_
    rintro e I ⟨rfl,rfl⟩
    go_wp2_with fail
    exact⟨rfl,rfl,m.out⟩
  ·rw[hb,if_pos rfl] at b
   have C:=Aa (RL q k s (a+1) 1 1 h l Q0 Q0 (by rw[Sa,hb];rfl))
   clear h hb K
   by_cases z:2<=n
   ·rw[if_pos z] at b
    have J:=Aa b;clear b
    go_wp2_with fail
    refine C.out.mono ?_;rintro e t ⟨rfl,d,j⟩;have m:=Aa (c.out.trans d);have A:=Aa j;clear d j C c u
    go_wp2_with fail
    refine(Xx _ _ _ (by simp[JJ];omega)).mono ?_
    rintro e I ⟨rfl,rfl⟩
    go_wp2_with fail
    go_roundw
    case rel=>exact⟨n-1,a+2,f,Q0,Q0,by go_num,J.out,Q0,Q0,Q0,m.out,A.out⟩
    case measure =>
     have L:Qc t k 1 (Qi ((a+1+1:Nat):Int)):=Ae A.out 1;rw[L,Q.out];simp[intOf];omega
   ·rw[if_neg z] at b
    subst b
    go_wp2_with fail
    refine C.out.mono ?_;rintro e t ⟨rfl,d,j⟩;have m:=Aa (c.out.trans d);clear d j C c u
    go_wp2_with fail
    refine(Xy _ _ _ (by simp[JJ];omega)).mono ?_
    rintro e I ⟨rfl,rfl⟩
    go_wp2_with fail
    exact⟨rfl,rfl,m.out⟩
theorem ztj(p q r:Addr)(w:World) :
 CallsD Tryz.prog 334 #[.pointer (some p),.pointer (some q),.pointer (some r)] .returning w λe c d=>e=.returned (.tuple #[])/\c = .returning/\d=w:=by
 refine Rk Tryz.func334 rfl λa f b=>?_;apply wpS_seq
 apply wpS_region
 simp[wpOpsS,go_sem,recoverD,b,Tryz.ntmps334,Exit.thenS];refine wpS_of_wp ?_
 go_wp2
 cases a
 simp_all[bodyPostS,results,Tryz.results334]
theorem zAF(v:Value)(w:World):(Instr.typeAssert (.iface 460 v) 20 460 true).run Tryz.prog w=.ok (.tuple #[v,.bool true]) w:=Q2
theorem Xo(a b c:Nat)(i j k:Value)(d:Int)(w:World)(r:Qc w a 0 i)(s:Qc w b 0 j)(t:Qc w c 0 k)
 (o:w.frozen? ⟨a,0,none⟩=false) (p:w.frozen? ⟨b,0,none⟩=false) (q:w.frozen? ⟨c,0,none⟩=false) (u:a<w.heap.size) (x:b<w.heap.size) (y:c<w.heap.size) (B:a≠b) (C:a≠c) (D:b≠c) :
 CallsD Tryz.prog 334 #[.pointer (some ⟨a,0,none⟩),.pointer (some ⟨b,0,none⟩),.pointer (some ⟨c,0,none⟩)] (.panicking (RX d)) w λe h l=>e=.returned (.tuple #[])/\h = .panicking [{ v:=.iface 460 (.agg #[Qi d]),recovered:=true }]/\l=((((w.setCell ⟨a,0,none⟩ (.slice none 0 0)).setCell ⟨b,0,none⟩ (Qi 0)).setCell ⟨c,0,none⟩ (Qi d)).alloc (.cells #[Qi d] 460)).drew:=by
 unfold RX;refine Rk Tryz.func334 rfl λg n f=>?_;apply wpS_seq
 apply wpS_region
 simp[wpOpsS,go_sem,recoverD,f,Tryz.ntmps334,Exit.thenS];refine wpS_of_wp ?_
 show Code.wp Tryz.prog _ _ { tmps:=#[.pointer (some ⟨a,0,none⟩),.pointer (some ⟨b,0,none⟩),.pointer (some ⟨c,0,none⟩),undef,undef,undef,.iface 460 (.agg #[Qi d]),undef,undef,undef,undef,undef,undef,undef],defers:=[] } _
 go_wp2_with fail
 rw[zAF]
 go_wp2_with fail
 go_region
 go_wp2
 obtain⟨A,G,F,z,m,E⟩:=g;obtain rfl:m=_:=f;simp[bodyPostS,results,Tryz.results334]
end Go.Proofs.YtoejfkeofbdalaaGreatDoor
namespace Go.Proofs.YtoejfkeofbdalaaGreatDoor
def EO(v:Value):Option (DataW Value × List MemPlace):=some (.held v,[])
structure HE where
 b:Nat
 st:Nat
 t:List UInt8
def G5(h:HE):Value:=.agg #[Qi (h.b:Nat),Qi (h.st:Nat),.string ⟨h.t.toArray⟩]
def Lb(h:HE):List Value:=[Qi (h.b:Nat),Qi (h.st:Nat),.string ⟨h.t.toArray⟩]
def BB(l:List HE):List Value:=l.flatMap Lb
theorem PU:∀l:List HE,(BB l).length=l.length*3
 | []=>rfl
 |h::l=>by rw[BB,IQ,AJ,<-BB,PU l,Bt];simp[Lb];omega
theorem zm3(l:List HE)(h:HE):BB (l++[h])=BB l++Lb h:=by simp[BB]
structure A7(R c:Nat)(H:List HE):Prop where
 room:H.length<=R
 up:∀(i:Nat)(x y:HE),H[i]?=some x->H[i+1]?=some y->x.b<y.b
 one:∀x∈H,1<=x.st/\x.st<=c
 small:∀x∈H,x.b<=1000000
 apart:∀(i j:Nat)(x y:HE),i<j->H[i]?=some x->H[j]?=some y->x.st≠y.st
def JY(e:HE):List HE->List HE
 | []=>[e]
 |x::H=>if e.b<x.b then e::x::H else x::JY e H
def FD(c:HE->Int):List HE->List HE
 | [a,b]=>if c b<c a then[b,a] else[a,b]
 |l=>l
