import Derived.Test.YtoejfkeofbdalaaGreatDoorM39
set_option linter.all false
set_option maxRecDepth 100000
set_option maxHeartbeats 8000000
namespace Go.Proofs.YtoejfkeofbdalaaGreatDoor
open Go.RowKit Go.Shelf
def Hz(c:Nat)(t:List UInt8):Value:=.agg #[.string ⟨t.toArray⟩,Qi (c:Nat)]
theorem zrY(w:World)(b2 p d:Nat)(a8:ByteArray)(iv:Value)(a7 a9:Nat)(hv:Value)(cr dc:Nat)(ps:List Ai)(b3:List HE)(r:BF)(b1:List Value)(V:Dt b2 p d a8 iv a7 a9 hv cr dc ps b3 r b1 w)(k:Nat)(hk:k=0\/k=8) :
 Qk 224 #[GJ p,Qi (k:Nat)] w λe c=>e=.returned (.tuple #[.bool true,Hz k r.got])/\Ab d w c/\Qg c d (DH DD++b1).toArray 185:=by
 obtain⟨st,c2,b8,b9,c3,b4,b6⟩:=r;have a1:=V.dk;have H:=V.rd;have c0:=Aj a1;have c1:=Aj H;have u:=Aa (λ(W:World) h=>OO W p d a8 iv a7 a9 hv cr dc h);obtain⟨G,b0⟩:=Qe ((⟨b4.toArray⟩:ByteArray):ByteArray);obtain⟨b7,o⟩:=Qe ((⟨b6.toArray⟩:ByteArray):ByteArray);unfold Hz DH at*
 dsimp only at*
 rw[b0] at H |-;rw[o] at H;obtain⟨a,a3⟩:=Qe w.heap.size;have L:=Ay (Ay (Ay (Ag w.heap.size w) (.cells #[Qp p 0,Qi 0] 196)) (.cells #[.string ⟨#[]⟩,Qi 0] 44)) (.cells #[.string ⟨#[]⟩,Qi (k:Nat)] 44);have v:=Aa (Bb (.cells #[.string ⟨#[]⟩,Qi (k:Nat)] 44) (Bb (.cells #[.string ⟨#[]⟩,Qi 0] 44) (Am w (.cells #[Qp p 0,Qi 0] 196) a a3.symm)));have f:=Aa (Bb (.cells #[.string ⟨#[]⟩,Qi (k:Nat)] 44) (Am (w.alloc (.cells #[Qp p 0,Qi 0] 196)) (.cells #[.string ⟨#[]⟩,Qi 0] 44) (a+1) (by simp[a3])))
 have n:=Aa (Am ((w.alloc (.cells #[Qp p 0,Qi 0] 196)).alloc (.cells #[.string ⟨#[]⟩,Qi 0] 44)) (.cells #[.string ⟨#[]⟩,Qi (k:Nat)] 44) (a+1+1) (by simp[a3]))
 have x:=Aa (Al L a1);have K:=Aa (Al L H);have J:=Aa L;have k1:(((k:Int)==0) ||((k:Int)==8))=true:=by rcases hk with rfl|rfl<;>rfl
 unfold GJ at*
 clear V L a1 H b0 o
 go_enter Tryz.func224,Tryz.ntmps224
 go_upto_region 2 with(fail)
 generalize((w.alloc _).alloc _).alloc _=W at*
 have y:=A8 v.out;have z:=AA v.out;rcases hk with rfl|rfl
 ·go_wp2_with fail
  refine(u.out W x.out).mono ?_;rintro e w8 ⟨rfl,g⟩;have s:=Aa (Al g v.out);have F:=Aa (Al g f.out);have m:=Aa (Al g n.out);have E:=Aa (Al g x.out);have t:=Aa (Al g K.out);have D:=Aa (A9 g J.out);clear y z g v f n x K J;have y:=A8 s.out;have z:=AA s.out;have q:=Df t.out;have X:=A8 m.out;have O:=Ah m.out 0
  go_wp2_with fail
  have i:=(Ab.refl (a+1+1) w8).set 0 (.string G);refine(u.out _ (i.other E.out Q0)).mono ?_
  rintro e I ⟨rfl,j⟩;have a6:=Aa (Al j (i.other F.out Q0))
  have a5:=Aa (Al j (Ak m.out 0 (.string G)));have b:=Aa (Al j (i.other t.out Q0))
  have a4:=Aa (A9 j (Ce D.out (show w.heap.size<=a+1+1 by omega) 0 (.string G)))
  clear y z q X O i j s F m E t D u;have Y:=A8 b.out;have A:=Ah b.out 0;have Z:=AA b.out;have B:=Ah b.out 1;have r2:=Bk b.out;have P:=Ah b.out 2;have r3:=CY b.out;have Q:=Ah b.out 3;have r4:=De b.out;have R:=Ah b.out 4;have q:=Df b.out;have S:=Ah b.out 5;have r6:=ES b.out;have T:=Ah b.out 6
  go_upto_region 5 with(fail)
  have o:=(Ak (Ak (Ak (Ak (Ak (Ak (Ak b.out 0 (Qi 0)) 1 (Qi 0)) 2 (Qi 0)) 3 (Qi 0)) 4 (Qi 0)) 5 (.string ⟨#[]⟩)) 6 (.string ⟨#[]⟩));have l:=((((((((Ab.refl d I).set 0 (Qi 0)).set 1 (Qi 0)).set 2 (Qi 0)).set 3 (Qi 0)).set 4 (Qi 0)).set 5 (.string ⟨#[]⟩)).set 6 (.string ⟨#[]⟩));have N:=Aa o;have f:=Aa (l.other a6.out Q0)
  have n:=Aa (l.other a5.out Q0)
  have M:=Aa l;clear o l Y Z r2 r3 r4 q r6 A B P Q R S T;generalize(((((((I.setCell ⟨d,0,none⟩ (Qi 0)).setCell ⟨d,1,none⟩ (Qi 0)).setCell ⟨d,2,none⟩ (Qi 0)).setCell ⟨d,3,none⟩ (Qi 0)).setCell ⟨d,4,none⟩ (Qi 0)).setCell ⟨d,5,none⟩ (.string ⟨#[]⟩)).setCell ⟨d,6,none⟩ (.string ⟨#[]⟩))=W at*
  have a0:Hid (∀c:World,Ab (a+1) W c->Ab (a+1) W c/\Qc c (a+1+1) 0 (.string G)/\Qc c (a+1+1) 1 (Qi 0)):=λc h=>by
   have C:=h.other n.out Q0
   exact⟨h,(Ae C 0).trans rfl,(Ae C 1).trans rfl⟩
  have z0:=A8 f.out;have z1:=AA f.out;have A:=Ah f.out 0;have B:=Ah f.out 1;have b5:Ab (a+1) W W:=Ab.refl _ _
  go_region_held3 (λc=>Ab (a+1) W c/\Qc c (a+1+1) 0 (.string G)/\Qc c (a+1+1) 1 (Qi 0))
   ((refine a0.out _ ?_;first|assumption|exact JR Q3|exact Ab.set (Ab.set (Bh Q3) _ _) _ _|exact Ab.set (Ab.set Q3 _ _) _ _|exact Ab.set (Ab.set (JR Q3) _ _) _ _|fail))
   (fail)
  have U:=Ak (Ak f.out 0 (.string G)) 1 (Qi 0);have a2:=(((Ab.refl (a+1) W).set 0 (.string G)).set 1 (Qi 0)).other N.out Q0
  have i:=JR (Ab.setNew (Ab.setNew ((Ab.of a4.out).trans M.out) (show w.heap.size<=a+1 by omega) 0 (.string G)) (show w.heap.size<=a+1 by omega) 1 (Qi 0))
  go_wp2_with fail
  refine BV (M7 rfl _ _ _ ⟨a+1,0,none⟩ _ rfl (JO _ _ _ _ U)) rfl ⟨rfl,i,?_⟩;refine a2.trans ?_;simp[DD,AO]
 ·go_wp2_with fail
  refine(u.out W x.out).mono ?_;rintro e w8 ⟨rfl,g⟩;have s:=Aa (Al g v.out);have F:=Aa (Al g f.out);have m:=Aa (Al g n.out);have E:=Aa (Al g x.out);have t:=Aa (Al g K.out);have D:=Aa (A9 g J.out);clear y z g v f n x K J;have y:=A8 s.out;have z:=AA s.out;have q:=Df t.out;have X:=A8 m.out;have O:=Ah m.out 0
  go_wp2_with fail
  have i:=(Ab.refl (a+1+1) w8).set 0 (.string G);refine(u.out _ (i.other E.out Q0)).mono ?_
  rintro e I ⟨rfl,j⟩;have a6:=Aa (Al j (i.other F.out Q0))
  have a5:=Aa (Al j (Ak m.out 0 (.string G)));have b:=Aa (Al j (i.other t.out Q0))
  have a4:=Aa (A9 j (Ce D.out (show w.heap.size<=a+1+1 by omega) 0 (.string G)))
  clear y z q X O i j s F m E t D u;have Y:=A8 b.out;have A:=Ah b.out 0;have Z:=AA b.out;have B:=Ah b.out 1;have r2:=Bk b.out;have P:=Ah b.out 2;have r3:=CY b.out;have Q:=Ah b.out 3;have r4:=De b.out;have R:=Ah b.out 4;have q:=Df b.out;have S:=Ah b.out 5;have r6:=ES b.out;have T:=Ah b.out 6
  go_upto_region 5 with(fail)
  have o:=(Ak (Ak (Ak (Ak (Ak (Ak (Ak b.out 0 (Qi 0)) 1 (Qi 0)) 2 (Qi 0)) 3 (Qi 0)) 4 (Qi 0)) 5 (.string ⟨#[]⟩)) 6 (.string ⟨#[]⟩));have l:=((((((((Ab.refl d I).set 0 (Qi 0)).set 1 (Qi 0)).set 2 (Qi 0)).set 3 (Qi 0)).set 4 (Qi 0)).set 5 (.string ⟨#[]⟩)).set 6 (.string ⟨#[]⟩));have N:=Aa o;have f:=Aa (l.other a6.out Q0)
  have n:=Aa (l.other a5.out Q0)
  have M:=Aa l;clear o l Y Z r2 r3 r4 q r6 A B P Q R S T;generalize(((((((I.setCell ⟨d,0,none⟩ (Qi 0)).setCell ⟨d,1,none⟩ (Qi 0)).setCell ⟨d,2,none⟩ (Qi 0)).setCell ⟨d,3,none⟩ (Qi 0)).setCell ⟨d,4,none⟩ (Qi 0)).setCell ⟨d,5,none⟩ (.string ⟨#[]⟩)).setCell ⟨d,6,none⟩ (.string ⟨#[]⟩))=W at*
  have a0:Hid (∀c:World,Ab (a+1) W c->Ab (a+1) W c/\Qc c (a+1+1) 0 (.string G)/\Qc c (a+1+1) 1 (Qi 8)):=λc h=>by
   have C:=h.other n.out Q0
   exact⟨h,(Ae C 0).trans rfl,(Ae C 1).trans rfl⟩
  have z0:=A8 f.out;have z1:=AA f.out;have A:=Ah f.out 0;have B:=Ah f.out 1;have b5:Ab (a+1) W W:=Ab.refl _ _
  go_region_held3 (λc=>Ab (a+1) W c/\Qc c (a+1+1) 0 (.string G)/\Qc c (a+1+1) 1 (Qi 8))
   ((refine a0.out _ ?_;first|assumption|exact JR Q3|exact Ab.set (Ab.set (Bh Q3) _ _) _ _|exact Ab.set (Ab.set Q3 _ _) _ _|exact Ab.set (Ab.set (JR Q3) _ _) _ _|fail))
   (fail)
  have U:=Ak (Ak f.out 0 (.string G)) 1 (Qi 8);have a2:=(((Ab.refl (a+1) W).set 0 (.string G)).set 1 (Qi 8)).other N.out Q0
  have i:=JR (Ab.setNew (Ab.setNew ((Ab.of a4.out).trans M.out) (show w.heap.size<=a+1 by omega) 0 (.string G)) (show w.heap.size<=a+1 by omega) 1 (Qi 8))
  go_wp2_with fail
  refine BV (M7 rfl _ _ _ ⟨a+1,0,none⟩ _ rfl (JO _ _ _ _ U)) rfl ⟨rfl,i,?_⟩;refine a2.trans ?_;simp[DD,AO]
end Go.Proofs.YtoejfkeofbdalaaGreatDoor
namespace Go.Proofs.YtoejfkeofbdalaaGreatDoor
open Go.RowKit
inductive NV where
 |str (s:List UInt8)
 |byt (s:List UInt8)
 |err (n:Nat)
def Nl:NV->Value
 | .str s=>.iface 9 (.string ⟨s.toArray⟩)
 | .byt s=>.iface 353 (.string ⟨s.toArray⟩)
 | .err n=>.iface 25 (Qi (n:Nat))
def FR:NV->List UInt8
 | .str s=>s
 | .byt s=>if s=[] then[45] else Dy s
 | .err n=>Lib.decDigits n
def PM:NV->Prop
 | .str s=>s.length<=100000
 | .byt s=>s.length<=100000
 | .err n=>n<100
def XH(w:World)(v:Value)(a:List NV):Prop:=Rd w w.heap.size 1 v a.length (a.map Nl)
theorem XZ(v:Value)(w:World):(Instr.typeAssert (.iface 353 v) 20 353 true).run Tryz.prog w=.ok (.tuple #[v,.bool true]) w:=Q2
theorem zBi(v:Value)(w:World):(Instr.typeAssert (.iface 9 v) 20 353 true).run Tryz.prog w=.ok (.tuple #[.string ⟨#[]⟩,.bool false]) w:=Q2
theorem zBe(v:Value)(w:World):(Instr.typeAssert (.iface 9 v) 20 3 true).run Tryz.prog w=.ok (.tuple #[Qi 0,.bool false]) w:=Q2
theorem zA8(v:Value)(w:World):(Instr.typeAssert (.iface 9 v) 20 53 true).run Tryz.prog w=.ok (.tuple #[.int .u32 0,.bool false]) w:=Q2
theorem zBg(v:Value)(w:World):(Instr.typeAssert (.iface 9 v) 20 25 true).run Tryz.prog w=.ok (.tuple #[Qi 0,.bool false]) w:=Q2
theorem zBa(v:Value)(w:World):(Instr.typeAssert (.iface 9 v) 20 9 true).run Tryz.prog w=.ok (.tuple #[v,.bool true]) w:=Q2
theorem zBj(v:Value)(w:World):(Instr.typeAssert (.iface 25 v) 20 353 true).run Tryz.prog w=.ok (.tuple #[.string ⟨#[]⟩,.bool false]) w:=Q2
theorem zA5(v:Value)(w:World):(Instr.typeAssert (.iface 25 v) 20 3 true).run Tryz.prog w=.ok (.tuple #[Qi 0,.bool false]) w:=Q2
theorem zBb(v:Value)(w:World):(Instr.typeAssert (.iface 25 v) 20 53 true).run Tryz.prog w=.ok (.tuple #[.int .u32 0,.bool false]) w:=Q2
theorem zBh(v:Value)(w:World):(Instr.typeAssert (.iface 25 v) 20 25 true).run Tryz.prog w=.ok (.tuple #[v,.bool true]) w:=Q2
def JT(a:List NV):List UInt8:=Lib.join (a.map FR) [32]++[10]
theorem zwc(w:World)(a7:Value)(a:List NV)(hv:XH w a7 a)(b3:∀x∈a,PM x)(h0:a≠[])(c2:a.length<=1000)(b7:(Lib.join (a.map FR) [32]).length<=10000000) :
 Qk 199 #[a7] w λe a1=>e=.returned (.string ⟨(JT a).toArray⟩)/\Qb w a1:=by
 obtain⟨a6,c,rfl,-,-⟩:=Rd.isSlice hv;obtain⟨N,U⟩:=Qe a.length;have K:=hv;unfold XH at K;rw[U] at K c2 |-;have c4:0<N:=by rw[<-U];exact Ga.2 h0
 have S:Hid (∀W,Qb w W->Rd W W.heap.size 1 (.slice a6 N c) N (a.map Nl)):=λW b8=>K.up b8;have E:=Aa K;have a0:=Aa U;have c3:=Aa b3;have b6:=Aa b7;clear hv K U b3 h0 b7
 go_enter Tryz.func199,Tryz.ntmps199
 go_wp2_with fail
 go_loopw [13,3] (λkv ov wr=>∃k:Nat,k<=N/\kv=Qi k/\∃oq P,ov=.slice oq k P/\Hid (wr.ownsRow w.heap.size 9 1 ov k (JU ((a.take k).map FR)))/\Hid (Rd wr wr.heap.size 1 (.slice a6 N c) N (a.map Nl))/\Hid (Qb w wr)) (λkv _ _=>N+1-(intOf kv).toNat)
 case atStart=>exact⟨0,Q0,rfl,_,_,rfl,Aa (GU _ _ _ _),E,Aa (Ag _ _)⟩
 case round =>
  clear E;obtain⟨k,hk,rfl,oq,P,rfl,d,E,h⟩:=hrel
  by_cases c7:k<N
  ·have hd:decide ((k:Int)<(N:Int))=true:=Bl Q0
   have b1:k<a.length:=by rw[a0.out];exact c7
   obtain⟨x,O⟩:∃x,a[k]?=some x:=⟨_,Az b1⟩;have b4:x∈a:=Cn O;have G:=c3.out x b4
   have J:a.take (k+1)=a.take k++[x]:=by
    obtain⟨M,h3⟩:=Cc.1 O;rw[Ep M,h3]
   obtain⟨g,o,hq,hg,b⟩:=E.out.cellAt Q0
   have q:=b k (Nl x) (by simp[O])
   subst hq;have R:=Aa J;have d6:(k:Int)<(N:Int):=Q0
   have d5:(0:Int)<=(k:Int):=Q0
   obtain⟨z,v⟩:=Qe wr.heap.size;have c6:=h.out.size;clear b1 O b4 J b;cases x with
   | str t =>
     obtain⟨T,p⟩:=Qe ((⟨t.toArray⟩:ByteArray):ByteArray);simp only[Nl] at q;rw[p] at q;have Q:=zBi (.string T) wr;have t2:=zBe (.string T) wr;have t3:=zA8 (.string T) wr;have t4:=zBg (.string T) wr;have t5:=zBa (.string T) wr;have c0:=Aa p;clear p G
     go_wp2_with
      (at_builtin
       refine JC RY Q7 _ _ Q7 w.heap.size _ k (JU ((a.take k).map FR)) Q7 (d.out.alloc _) (z+1) 1 _ [.string T] Q7 (Rd.mono (GX (Am _ _ _ v.symm) rfl Q7 (by simp[maxLen])) (by simp[v])) (by intro c b;simp at b;subst b;rfl) Q0 Q0 Q4 ?_
       intro y s A m l D;have j:=Ay (Ag wr.heap.size wr) (.cells #[.string T] 9);have i:Hid (Qb w A):=(h.out.trans (j.mono h.out.size)).grown l Q4 (λr e=>Dm d.out e)
       have C:=Aa m;clear m l D j)
     go_roundw
     case rel =>
      refine⟨k+1,Q0,by go_num,y,s,rfl,?_,S.out _ i.out,i⟩
      show World.ownsRow _ _ _ _ _ _ _
      rw[R.out,D3,Dz,Jl,R8];simp only[FR,c0.out];exact C.out
     case measure=>simp[intOf];omega
   | byt t =>
     by_cases ht:t=[]
     ·subst ht
      simp only[Nl] at q;have Q:=XZ (.string ⟨#[]⟩) wr;clear G
      go_wp2_with
       (at_builtin
        refine JC RY Q7 _ _ Q7 w.heap.size _ k (JU ((a.take k).map FR)) Q7 (d.out.alloc _) (z+1) 1 _ [.string ⟨#[45]⟩] Q7 (Rd.mono (GX (Am _ _ _ v.symm) rfl Q7 (by simp[maxLen])) (by simp[v])) (by intro c b;simp at b;subst b;rfl) Q0 Q0 Q4 ?_
        intro y s A m l D;have j:=Ay (Ag wr.heap.size wr) (.cells #[.string ⟨#[45]⟩] 9);have i:Hid (Qb w A):=(h.out.trans (j.mono h.out.size)).grown l Q4 (λr e=>Dm d.out e)
        have C:=Aa m;clear m l D j)
      go_roundw
      case rel =>
       refine⟨k+1,Q0,by go_num,y,s,rfl,?_,S.out _ i.out,i⟩
       show World.ownsRow _ _ _ _ _ _ _
       rw[R.out,D3,Dz,Jl,R8];simp only[FR,if_pos];exact C.out
      case measure=>simp[intOf];omega
     ·obtain⟨T,p⟩:=Qe ((⟨t.toArray⟩:ByteArray):ByteArray)
      have c5:T.size=t.length:=by rw[<-p];rfl
      have a2:T.data.toList=t:=by rw[<-p]
      have d7:T.toList.isEmpty=false:=by
       rw[Lib.toList_data,a2];cases t with
       |nil=>exact absurd rfl ht
       |cons d1 d2=>rfl
      simp only[Nl] at q;rw[p] at q;have Q:=XZ (.string T) wr;have d0:t.length<=100000:=G;have L:=Aa (XD T wr Q0)
      rw[a2] at L;obtain⟨X,f⟩:=Qe ((⟨(Dy t).toArray⟩:ByteArray):ByteArray);rw[f] at L;have H:=Aa f;clear p c5 a2 f G d0
      go_wp2_with fail
      refine L.out.mono ?_;rintro e B ⟨rfl,F⟩;have b0:=Aa (Cd d.out F);have I:=Aa (A9 F h.out);obtain⟨z5,b5⟩:=Qe B.heap.size;have d8:=I.out.size;clear F d h v c6 Q q L E
      go_wp2_with
       (at_builtin
        refine JC RY Q7 _ _ Q7 w.heap.size _ k (JU ((a.take k).map FR)) Q7 (b0.out.alloc _) (z5+1) 1 _ [.string X] Q7 (Rd.mono (GX (Am _ _ _ b5.symm) rfl Q7 (by simp[maxLen])) (by simp[b5])) (by intro c b;simp at b;subst b;rfl) Q0 Q0 Q4 ?_
        intro y s A m l D;have j:=Ay (Ag B.heap.size B) (.cells #[.string X] 9);have i:Hid (Qb w A):=(I.out.trans (j.mono I.out.size)).grown l Q4 (λr e=>Dm b0.out e)
        have C:=Aa m;clear m l D j)
      go_roundw
      case rel =>
       refine⟨k+1,Q0,by go_num,y,s,rfl,?_,S.out _ i.out,i⟩
       show World.ownsRow _ _ _ _ _ _ _
       rw[R.out,D3,Dz,Jl,R8];simp only[FR,if_neg ht,H.out];exact C.out
      case measure=>simp[intOf];omega
   | err n =>
     simp only[Nl] at q;have Q:=zBj (Qi (n:Nat)) wr;have t2:=zA5 (Qi (n:Nat)) wr;have t3:=zBb (Qi (n:Nat)) wr;have t4:=zBh (Qi (n:Nat)) wr;have a8:=Aa (Tryz.strconv_Itoa_small n G wr);obtain⟨X,f⟩:=Qe ((⟨(Lib.decDigits n).toArray⟩:ByteArray):ByteArray);rw[f] at a8;have H:=Aa f;clear G f
     go_wp2_with fail
     refine a8.out.mono ?_;rintro e B ⟨rfl,rfl⟩
     go_wp2_with
      (at_builtin
       refine JC RY Q7 _ _ Q7 w.heap.size _ k (JU ((a.take k).map FR)) Q7 (d.out.alloc _) (z+1) 1 _ [.string X] Q7 (Rd.mono (GX (Am _ _ _ v.symm) rfl Q7 (by simp[maxLen])) (by simp[v])) (by intro c b;simp at b;subst b;rfl) Q0 Q0 Q4 ?_
       intro y s A m l D;have j:=Ay (Ag B.heap.size B) (.cells #[.string X] 9);have i:Hid (Qb w A):=(h.out.trans (j.mono h.out.size)).grown l Q4 (λr e=>Dm d.out e)
       have C:=Aa m;clear m l D j)
     go_roundw
     case rel =>
      refine⟨k+1,Q0,by go_num,y,s,rfl,?_,S.out _ i.out,i⟩
      show World.ownsRow _ _ _ _ _ _ _
      rw[R.out,D3,Dz,Jl,R8];simp only[FR,H.out];exact C.out
     case measure=>simp[intOf];omega
  ·obtain rfl:k=N:=Q0
   have J:a.take k=a:=BR (by rw[a0.out];exact Af _)
   rw[J] at d;obtain⟨g,o,hq,hg,b⟩:=(Rd.own d.out).cellAt c4;subst hq;obtain⟨a4,Y⟩:∃b9:List ByteArray,(a.map FR).map (λt=>(⟨t.toArray⟩:ByteArray))=b9:=⟨_,rfl⟩;have V:a4.length=k:=by rw[<-Y,Da,Da,a0.out]
   have a3:a4.map (·.data.toList)=a.map FR:=by
    rw[<-Y,Gq]
    conv=>rhs;rw[<-Mx (a.map FR)]
    apply Gl
    intro t _;rfl
   obtain⟨q1,c1,c9,b2,c8⟩:=Rd.isSlice (Rd.own d.out);cases c9
   have Z:=Tryz.strings_Join g o P a4 ⟨#[32]⟩ wr (λa5 t u=>b a5 _ (by
    rw[<-Y] at u;simp only[JU,EA] at u |-;cases M:a[a5]? with
    |none=>rw[M] at u;simp at u
    | some d3 =>
      rw[M] at u;simp at u;subst u;simp)) hg (by rw[V];omega) (by rw[V];exact b2) (by rw[a3];have:=b6.out;show(Lib.join (a.map FR) [32]).length<=_;omega)
   rw[a3,V] at Z;obtain⟨X,f⟩:=Qe ((⟨(Lib.join (a.map FR) [32]).toArray⟩:ByteArray):ByteArray)
   have a9:Hid (Qk 246 #[Qs g o k P,.string ⟨#[32]⟩] wr λe a1=>e=.returned (.string X)/\Qb wr a1):=by
    rw[<-f];exact Z
   have d4:X.size<=10000000:=by rw[<-f];exact b6.out
   have H:=Aa f;clear Y V a3 Z f b b2 c8 J
   go_wp2_with fail
   refine a9.out.mono ?_;rintro e B ⟨rfl,F⟩;have I:=Aa (A9 F h.out);clear F a9 d E h
   go_wp2_with fail
   go_ret
   refine⟨?_,I.out⟩;rw[<-H.out];have hb:(⟨(Lib.join (a.map FR) [32]).toArray⟩:ByteArray)++(⟨#[10]⟩:ByteArray)=⟨(JT a).toArray⟩:=Ov (by rw[ByteArray.data_append];simp[JT])
   rw[hb];rfl
