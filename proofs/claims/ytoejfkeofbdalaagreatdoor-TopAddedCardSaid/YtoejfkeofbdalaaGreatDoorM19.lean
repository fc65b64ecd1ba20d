import Derived.Test.YtoejfkeofbdalaaGreatDoorM17
set_option linter.all false
set_option maxRecDepth 100000
set_option maxHeartbeats 8000000
namespace Go.Proofs.YtoejfkeofbdalaaGreatDoor
open Go.RowKit
variable {E e:List UInt8} {b z:Bool} {f:Nat->Bool} {k m n t:Nat} {o:Obj} {p:List Nat} {v:Value} {w wr:World}
def LW(s:List UInt8)(t a c:Nat):Except Int (List Nat × Nat) :=
 match GH t c (List.range 6) (rest s a) with
 | .error e=>.error e
 | .ok (l,r)=>.ok (l,a+((rest s a).length-r.length))
def WE(w:World)(r:Except Int (List Nat × Nat))(e:Ending)(w':World):Prop :=
 match r with
 | .ok (l,x)=>∃v,e=.returned (.tuple #[v,Qi (x:Nat),Qi 0])/\Ad w' w.heap.size v (ints l)/\Qb w w'
 | .error c=>e=.returned (.tuple #[.slice none 0 0,Qi 0,Qi c])/\Qb w w'
structure Fg(w wr:World)(p:List Nat)(t:Nat)(v:Value)(l:List Nat):Prop where
 bel:Qb w wr
 size:w.heap.size+1<=wr.heap.size
 row:KW wr w.heap.size p t
 own:Ad wr (w.heap.size+1) v (ints l)
theorem Yp{W a:World}{i j:Nat}{s:List Value}(h:W.ownsRow m k i v j s)(o:Ab n W a)(x:n<m):a.ownsRow m k i v j s:=by
 refine⟨h.1,?_⟩;rcases h.2 with l|⟨g,r,u,d,e,c,f⟩
 ·exact .inl l
 ·exact .inr ⟨g,r,u,d,e,(o.block g (Aj c) Q0).trans c,f⟩
theorem Fg.only{w':World}{q:List Nat}{O:List Nat}(h:Fg w wr p t v O)(a:Ab w.heap.size wr w')(c:KW w' w.heap.size q t):Fg w w' q t v O :=
 have d:=h.size
 ⟨h.bel.trans (a.below (Af _) Q0),by have:=a.size;omega,c,Yp h.own a Q0⟩
theorem zqS(l:List Nat)(m:Nat):ints (l++[m])=ints l++[(m:Int)]:=by simp[ints]
theorem zoE:(157:TypeId)≠3:=Q5
theorem Fg.appended{w2:World}{v':Value}{l:List Nat}(h:Fg w wr p t v l)(hg:(wr.alloc o).grownBy w2 v.ownBlock)(ho:Ad w2 (w.heap.size+1) v' (ints l++[(m:Int)])):Fg w w2 p t v' (l++[m]):=by
 have hs:=h.size;refine⟨(h.bel.alloc Q0 o).grown hg Q4 (λk hk=>by have:=Dm h.own hk;omega),by have:=hg.size;simp at this;omega,?_,by rw[zqS];exact ho⟩
 exact zjx (n:=0) hg (h.own.alloc o) zoE (Bb o h.row)
theorem zn9(w:World)(s:ByteArray)(f c t:Nat)(hs:s.size<=1099511627776)(c3:f<=9223372036854775807)(hc:c<=1048576)(ht:2<=t)(U:t<=6) :
 Qk 311 #[.string s,Qi (f:Nat),Qi (c:Nat),Qi (t:Nat)] w λe w'=>WE w (LW s.data.toList t f c) e w':=by
 have Y:Hid (∀W,Qk 81 #[Qi (t:Nat)] W λe w'=>e=.returned (.bool true)/\W=w'):=λW=>by
  have:=zp9 (t:Nat) W;rw[show(decide ((2:Int)<=(t:Nat))&& decide ((t:Int)<=6))=true by simp;omega] at this
  exact this
 have Z:=Aa (zvb w t U);have hl:s.data.toList.length=s.size:=by simp
 have a0:=Aa hl;obtain⟨y,z⟩:=Qe (GH t c (List.range 6) (rest s.data.toList f));obtain⟨X,a3⟩:=Qe (f+(rest s.data.toList f).length)
 have J:Hid (∀w' l r v a,y=.ok (l,r)->a+r.length=X->w'.ownsRow (w.heap.size+1) 3 1 v (ints l).length (C4 (ints l))->Qb w w'->WE w (LW s.data.toList t f c) (.returned (.tuple #[v,Qi (a:Nat),Qi 0])) w'):=λw' l r v a h h2 h3 N=>by
  unfold LW;rw[z,h];have d6:r.length<=(rest s.data.toList f).length:=KM.len_le t c _ _ _ _ (z.trans h);refine⟨v,?_,EY h3 Q0,N⟩
  rw[show f+((rest s.data.toList f).length-r.length)=a by omega]
 have D:Hid (∀w' e,y=.error e->Qb w w'->WE w (LW s.data.toList t f c) (.returned (.tuple #[.slice none 0 0,Qi 0,Qi e])) w'):=λw' e h N=>by
  unfold LW;rw[z,h];exact⟨rfl,N⟩
 generalize LW s.data.toList t f c=c7 at*
 have b9:=Aa a3;have c2:=Aa z;have hd:decide ((f:Int)<0)=false:=by simp
 have d2:decide ((c:Int)<0)=false:=by simp
 have d3:decide ((1048576:Int)<(c:Int))=false:=by simp;omega
 clear z a3 hl
 go_enter Tryz.func311,Tryz.ntmps311
 go_wp2_with fail
 refine(Y.out _).mono ?_;rintro e w1 ⟨rfl,rfl⟩
 go_wp2_with fail
 refine Z.out.mono ?_;rintro e w1 ⟨rfl,b7⟩
 have a1:Fg w w1 (List.range 6) t (.slice none 0 0) []:=by
  rw[b7];exact⟨(Ag _ _).alloc (Af _) _,Q6,Am _ _ _ rfl,Ad.nil _ _⟩
 have a6:=Aa a1;clear a1 b7 Z Y
 go_wp2_with fail
 go_loopw [1,8,33] (λu L P wr=>∃(j a:Nat)(p l:List Nat),j<=c/\u=Qi (a:Nat)/\P=Qi (j:Nat)/\l.length=j/\LZ t p/\a<=9223372036854775807/\a+(rest s.data.toList a).length=X/\K0 l (GH t (c-j) p (rest s.data.toList a))=y/\Fg w wr p t L l) (λ_ _ P _=>c+1-(intOf P).toNat)
 case atStart=>exact⟨0,f,List.range 6,[],Q0,rfl,rfl,rfl,RF t U,c3,b9.out,by rw[zxt];exact c2.out,a6.out⟩
 case round =>
  obtain⟨j,a,p,l,hj,rfl,rfl,b2,b6,ha,a9,n,a2⟩:=hrel;have m:=Aa a2;have a5:=Aa b2;have K:=Aa b6;have G:=Aa n;have a4:=Aa a9;clear a2 b2 b6 n a9 a6
  by_cases d5:j<c
  ·obtain⟨oo,b3⟩:=Qe (GA t 0 (rest s.data.toList a))
   have F:=Aa b3
   have d1:Qc wr w.heap.size 6 (Qi (t:Nat)):=by
    rw[Ae m.out.row 6];have:=K.out.1;simp[Jc,this]
   clear b3
   go_wp2_with fail
   obtain⟨R,rfl⟩:∃R:World,R=wr:=⟨_,rfl⟩;obtain⟨M,b0⟩:∃M,M=u8:=⟨_,rfl⟩;rw[<-b0] at m |-;clear b0
   go_loopw [1,8,12] (λu L kv wr=>∃(g k:Nat),L=M/\u=Qi (g:Nat)/\kv=Qi (k:Nat)/\k<t/\g<=9223372036854775807/\g+(rest s.data.toList g).length=X/\GA t k (rest s.data.toList g)=oo/\wr=R) (λu _ _ _=>8*s.size+1-(intOf u).toNat)
   case atStart=>exact⟨a,0,rfl,rfl,rfl,Q0,ha,a4.out,F.out,rfl⟩
   case round =>
    obtain⟨g,k,rfl,rfl,rfl,hk,d0,i,d,rfl⟩:=hrel;have A:=Aa i;have o:=Aa d;clear i d
    by_cases b1:g<8*s.size
    ·have I:=WK s.data.toList g (by rw[a0.out];exact b1)
     have C:=Aa (λW=>zzX s g W hs b1);have d:=o.out;have i:=A.out;rw[I] at d i;cases hb:B.bitAt s.data.toList g with
     | false =>
       rw[hb] at d C;simp only[GA] at d;simp only[Bt] at i;have T:=Aa d;have V:=Aa i;clear I d i hb o A
       go_wp2_with fail
       refine(C.out _).mono ?_;rintro e Q ⟨rfl,rfl⟩
       go_wp2_with fail
       refine(znJ wr w.heap.size p t k K.out.1 Q0 m.out.row).mono ?_
       rintro e w4 ⟨rfl,a7,a8⟩;have S:=Aa (m.out.only a7 a8);have d7:=S.out.size;have d4:l.length<=1048576:=by rw[a5.out];omega
       obtain⟨x,O⟩:=Qe (p.getD k 0);rw[O];have c0:=Aa O;clear a7 a8 m O
       go_wp2_with
        (at_builtin
         refine KN rfl _ _ rfl (w.heap.size+1) _ (ints l) rfl (S.out.own.alloc _) (w4.heap.size+1) _ [(x:Int)] rfl (Ac.new w4 [(x:Int)] _ _ _ rfl rfl rfl (by simp[maxLen])) (by rw[Bj];simp;omega) Q4 ?_
         intro c9 c8 w5 b8 hg c6;have c1:=Aa (S.out.appended hg b8);clear b8 hg c6)
       go_roundw
       case rel =>
        refine⟨j+1,g+1,KD p k,l++[x],Q0,rfl,by go_num,by rw[AJ,a5.out];rfl,Ut K.out U Q0,Q0,by have:=V.out;omega,?_,c1.out⟩
        have h:=G.out;rw[show c-j=(c-(j+1))+1 by omega,GH,F.out,<-T.out] at h
        simp only[zvk] at h;rw[<-c0.out];exact h
       case measure=>simp[intOf];omega
     | true =>
       rw[hb] at d C;simp only[GA] at d;simp only[Bt] at i
       by_cases H:k+1=t
       ·rw[if_pos H] at d
        have c5:((k:Int)+1 ==(t:Int))=true:=by rw[FQ];omega
        have b5:y=.error 3:=by
         have h:=G.out;rw[show c-j=(c-(j+1))+1 by omega,GH,F.out,<-d] at h
         simpa [K0] using h.symm
        have E:=Aa (D.out wr 3 b5 m.out.bel);clear I d i hb o A J D H b5
        go_wp2_with fail
        refine(C.out _).mono ?_;rintro e Q ⟨rfl,rfl⟩
        go_wp2_with fail
        go_ret3
        exact E.out
       ·rw[if_neg H] at d
        have c5:((k:Int)+1 ==(t:Int))=false:=by rw[Ez];omega
        have T:=Aa d;have V:=Aa i;have c4:k+1<t:=Q0
        clear I d i hb o A H
        go_wp2_with fail
        refine(C.out _).mono ?_;rintro e Q ⟨rfl,rfl⟩
        go_wp2_with fail
        go_roundw
        case rel=>exact⟨g+1,k+1,rfl,by go_num,by go_num,c4,Q0,by have:=V.out;omega,T.out,trivial⟩
        case measure=>simp[intOf];omega
    ·have C:=Aa (λW=>zmK s g 1 W hs Q0 Q0)
     have d:=o.out;rw[U9 s.data.toList g (by rw[a0.out];omega)] at d
     have b4:y=.error 2:=by
      have h:=G.out;rw[show c-j=(c-(j+1))+1 by omega,GH,F.out,<-d] at h
      simpa [GA,K0] using h.symm
     have E:=Aa (D.out wr 2 b4 m.out.bel);clear d o A J D b4
     go_wp2_with fail
     refine(C.out _).mono ?_;rintro e Q ⟨rfl,rfl⟩
     go_wp2_with fail
     go_ret3
     exact E.out
  ·obtain rfl:j=c:=Q0
   have n:=G.out;rw[Ow,GH] at n;simp only[K0,Eu] at n;have E:=Aa (J.out wr l (rest s.data.toList a) _ a n.symm a4.out m.out.own m.out.bel);clear n J D
   go_wp2_with fail
   go_ret3
   exact E.out
theorem zu0(w:World)(v:Value)(a:List Int)(x:Int)(k:Nat)(d:Ac w w.heap.size v a)(G:a.length<=281474976710656)(c:a[k]?=some x)(r:∀j,j<k->a[j]?.getD 0≠x) :
 Qk 85 #[v,Qi x] w λe w'=>e=.returned (Qi (k:Nat))/\w=w':=by
 obtain⟨A,H,rfl,D,L⟩:=d.shape
 have F:k<a.length:=by
  rcases Gb k a.length with h|h
  ·exact h
  ·rw[EU h] at c;cases c
 obtain⟨N,f⟩:=Qe a.length;rw[f] at d D F G |-;have u:=Aa f;have C:=Aa d;have z:=Aa c;have B:=Aa r;clear d c r f
 go_enter Tryz.func85,Tryz.ntmps85
 go_wp2
 go_loop [8] (λl=>∃i:Nat,i<=k/\l=Qi i) (λl=>N-(intOf l).toNat)
 case atStart=>exact⟨0,BI _,rfl⟩
 case round =>
  obtain⟨i,J,rfl⟩:=hrel;obtain⟨g,o,rfl,I,n⟩:=C.out.at i (by rw[u.out];omega)
  by_cases E:i=k
  ·subst E
   rw[z.out,Es] at n
   go_wp2
   go_ret
   exact⟨rfl,rfl⟩
  ·have m:=B.out i Q0
   obtain⟨y,s⟩:=Qe (a[i]?.getD 0);rw[s] at n m;have K:(x ==y)=false:=by rw[Ez];exact λe=>m e.symm
   clear s m
   go_wp2
   go_round
   case rel=>exact⟨i+1,Q0,by go_num⟩
   case measure=>simp[intOf];omega
def Ro(t n:Int):Bool:=decide (n<0) ||decide (t<=n)
theorem zud(n t:Int)(b:Nat)(W:World)(a:Qc W b 0 (Qi t)):Qk 83 #[Qi n,Qp b 0] W λe w'=>e=.returned (.bool (Ro t n))/\W=w':=by
 unfold Ro;rcases h1:decide (n<0) with _|_<;>rcases h2:decide (t<=n) with _|_<;>
 ·go_enter Tryz.func83,Tryz.ntmps83
  go_wp2
  go_ret
  exact⟨rfl,rfl⟩
theorem zoR:Enters Tryz.prog 83:=enters_of Tryz.func83 Q2 rfl
theorem zxM{b:Nat}(h:KW w b p t)(c:p.length=6):Ac w w.heap.size (Qs b 0 6 6) (ints p):=by
 refine⟨by rw[I5,PJ],_,6,by rw[Bj,c],by rw[Bj,c];omega,by unfold maxLen;omega,λ_=>⟨b,0,rfl,Aj h,λi u a=>?_⟩⟩
 rw[getElem?_intCells] at a
 have d:i<p.length:=by
  rcases Gb i p.length with h|h
  ·exact h
  ·rw[EU (by rw[Bj];exact h)] at a;cases a
 rw[DC,Ae h,TY p t i c Q0,<-a]
 simp[ints,Az d]
structure DP(w wr:World)(b:Nat)(p:List Nat)(t:Nat)(v:Value)(ls:List (List Bool)):Prop where
 bel:Qb w wr
 hb:w.heap.size+1+1<=b
 size:b+1<=wr.heap.size
 out:Qg wr (w.heap.size+1) #[.string ⟨#[]⟩,Qi 0] 50
 row:KW wr b p t
 own:wr.ownsRow (b+1) 50 2 v ls.length (DW (ls.map Dp))
section
variable {w wr w' w2:World} {b:Nat} {p q:List Nat} {t:Nat} {v v':Value} {ls:List (List Bool)}
theorem DP.step(h:DP w wr b p t v ls)(a:Qb wr w'):DP w w' b p t v ls :=
 have d:=h.size;have c:=h.hb
 ⟨h.bel.trans (a.mono h.bel.size),h.hb,by have:=a.size;omega,(a.block _ Q0).trans h.out,(a.block _ Q0).trans h.row,Cd h.own a⟩
theorem DP.only(h:DP w wr b p t v ls)(a:Ab b wr w')(c:KW w' b q t):DP w w' b q t v ls :=
 have e:=h.size;have d:=h.hb
 ⟨h.bel.trans (a.below Q0 Q0),h.hb,by have:=a.size;omega,(a.block _ Q0 Q0).trans h.out,c,Yp h.own a Q0⟩
theorem zsU:(Tryz.prog.info? 50).map (λi=>(i.zero,i.size,i.bytes))=some (some (.agg #[.string ⟨#[]⟩,Qi 0]),2,24):=Q2
theorem DP.appended{l:List Bool}(h:DP w wr b p t v ls)(a:(wr.alloc o).grownBy w2 v.ownBlock)(g:w2.ownsRow (b+1) 50 2 v' (ls.length+1) (DW (ls.map Dp)++[.string (Ba l),Qi (l.length:Nat)])):DP w w2 b p t v' (ls++[l]):=by
 have i:=h.size;have f:=h.hb;have d:∀k,k<b+1->some k≠v.ownBlock:=λk c e=>by have:=Dm h.own e.symm;omega
 refine⟨(h.bel.alloc Q0 o).grown a Q4 (λk c=>by have:=Dm h.own c;omega),f,by have:=a.size;simp at this;omega,RB a (Bb o h.out) (d _ Q0),RB a (Bb o h.row) (d _ Q0),?_⟩
 rw[AJ,D3];have e:DW (ls.map Dp++[l].map Dp)=DW (ls.map Dp)++[.string (Ba l),Qi (l.length:Nat)]:=by simp[DW,Dp]
 rw[e];exact g
end
theorem zmY{ls:List (List Bool)}(h:w.ownsRow n 50 2 v ls.length (DW (ls.map Dp))):MI w w.heap.size v (ls.map Dp):=by
 have:=Rd.own h;unfold MI;rw[Da];exact this
theorem ZK(t:Nat)(e:t<=6)(a:List Nat):∀p,LZ t p->(∀n∈a,n<t)->(FX p a).length<=6*a.length:=by
 induction a with
 |nil=>intro p _ _;simp[FX]
 | cons n a h =>
   intro p d c;obtain⟨f,_⟩:=U4 d e (c n Q6)
   have:=h _ (Ut d e f) λm g=>c m (by simp[g])
   rw[FX,AJ,YT,Bt];omega
theorem zoo{c:World}{h:Array Value}{t:TypeId}(a:Qg c n h t)(e:h.size=m*k)(d:m<=maxLen):Rd c c.heap.size k (Qs n 0 m m) m h.toList :=
 ⟨by simpa using e,_,m,rfl,Af _,d,λ_=>⟨n,0,rfl,Aj a,λi u f=>by rw[DC,Ae a,<-f];simp⟩⟩
theorem zu5(h:LZ t p)(c:t<=6)(k:m<t):(ints p)[p.idxOf m]?=some (m:Int)/\∀j,j<p.idxOf m->(ints p)[j]?.getD 0≠(m:Int):=by
 obtain⟨n,a⟩:=U4 h c k;have s:=h.1;have d:p.idxOf m<p.length:=Q0
 refine⟨?_,λj r=>?_⟩
 ·rw[Cx,Az d,Es] at a
  simp[ints,Az d,a]
 ·have l:j<p.length:=Q0
  obtain⟨o,i⟩:=zzO h c (show j<t by omega)
  intro e;have f:(ints p)[j]?.getD 0=((p.getD j 0:Nat):Int):=by simp[ints,Cx,Az l]
  rw[f] at e;have g:p.getD j 0=m:=Q0
  rw[g] at i;omega
theorem zkk(w:World)(v:Value)(ns:List Nat)(t:Nat)(hv:Ac w w.heap.size v (ints ns))(hl:ns.length<=1048576)(ht:2<=t)(ht6:t<=6)(hn:∀n∈ns,n<t) :
 Qk 27 #[v,Qi (t:Nat)] w λe w'=>e=.returned (.tuple #[.agg #[.string (Ba (FX (List.range 6) ns)),Qi ((FX (List.range 6) ns).length:Nat)],Qi 0])/\Qb w w':=by
 obtain⟨i0,hi0,hz0,hz1,hz2⟩:=Ie zsU;have Cw:=Cw;obtain⟨A,ca,rfl,hc1,hc2⟩:=hv.shape
 have CF:Hid (∀W,Qk 81 #[Qi (t:Nat)] W λe w'=>e=.returned (.bool true)/\W=w'):=λW=>by
  have:=zp9 (t:Nat) W;rw[show(decide ((2:Int)<=(t:Nat))&& decide ((t:Int)<=6))=true by simp;omega] at this
  exact this
 obtain⟨W1,hW1⟩:=Qe (((w.alloc (.cells #[Qi (t:Nat)] 3)).alloc (.cells #[.string ⟨#[]⟩,Qi 0] 50)));have hB1:Qb w W1:=by rw[<-hW1];exact((Ag _ _).alloc (Af _) _).alloc Q6 _
 have hz1':W1.heap.size=w.heap.size+1+1:=by rw[<-hW1];simp
 have ht0:Qg W1 w.heap.size #[Qi (t:Nat)] 3:=by rw[<-hW1];exact Bb _ (Am _ _ _ rfl)
 have ho0:Qg W1 (w.heap.size+1) #[.string ⟨#[]⟩,Qi 0] 50:=by rw[<-hW1];exact Am _ _ _ Q6
 have kt:Qc W1 w.heap.size 0 (Qi (t:Nat)):=Ae ht0 0
 have CC:Hid (Qk 82 #[.slice A ns.length ca,.func (.func 83) #[] #[.pointer (some ⟨w.heap.size,0,none⟩)]] W1 λe w'=>e=.returned (.bool false)/\Qb W1 w'):=by
  have h:=O1 W1 _ (ints ns) (Ro (t:Nat)) 83 #[.pointer (some ⟨w.heap.size,0,none⟩)] zoR ((hv.below hB1 (Af _)).mono hB1.size) (by rw[Bj];omega) (λx _ W' hB=>zud x t w.heap.size W' ((hB.cell (p:=⟨w.heap.size,0,none⟩) Q4).trans kt))
  rw[Bj] at h
  have hf:(ints ns).any (Ro (t:Nat))=false:=by
   rw[GR];intro x hx;simp only[ints,C8] at hx;obtain⟨a,ha,rfl⟩:=hx;have:=hn a ha;simp[Ro];omega
  rw[hf] at h;exact h
 obtain⟨D,hD⟩:=Qe (FX (List.range 6) ns);have hDl:D.length<=6*ns.length:=by rw[<-hD];exact ZK t ht6 ns _ (RF t ht6) hn
 rw[hD];obtain⟨N,hN⟩:=Qe ns.length;rw[Bj] at hc1 |-;rw[hN] at hl CC hc1 hDl |-;have HN:=Aa hN;have HD:=Aa hD;have Hv:=Aa hv;have Hn:=Aa hn;have HW1:=Aa hW1;have HB1:=Aa hB1;have HO0:=Aa ho0;clear hN hD hv hn hW1 hB1 ho0
 go_enter Tryz.func27,Tryz.ntmps27
 go_wp2_with fail
 refine(CF.out _).mono ?_;rintro e w1 ⟨rfl,rfl⟩
 go_wp2_with fail
 rw[HW1.out];refine CC.out.mono ?_;rintro e w2 ⟨rfl,hB2⟩;have kt2:Qc w2 w.heap.size 0 (Qi (t:Nat)):=(hB2.cell (p:=⟨w.heap.size,0,none⟩) Q4).trans kt
 have ho2:w2.heap[w.heap.size+1]?=_:=(hB2.block (w.heap.size+1) Q0).trans HO0.out
 have hBw2:Qb w w2:=HB1.out.trans (hB2.mono HB1.out.size);have hz2':w.heap.size+1+1<=w2.heap.size:=by have:=hB2.size;omega
 have HO2:=Aa ho2;have HBw2:=Aa hBw2;clear hB2 ho2 hBw2 kt HO0 HB1 CC CF ht0 HW1
 go_wp2_with fail
 refine(zvb w2 t ht6).mono ?_;rintro e w3 ⟨rfl,hw3⟩
 have S3:DP w w3 w2.heap.size (List.range 6) t (.slice none 0 0) []:=by
  rw[hw3];exact⟨HBw2.out.alloc Q0 _,hz2',Q6,Bb _ HO2.out,Am _ _ _ rfl,GU _ _ _ _⟩
 have HS3:=Aa S3;clear S3 hw3 HO2 kt2
 go_wp2_with fail
 go_loopw [7,25] (λlv iv wr=>∃(j:Nat)(p:List Nat) (ls:List (List Bool)),j<=N/\iv=Qi (j:Nat)/\ls.length=j/\LZ t p/\ls.flatten++FX p (ns.drop j)=D/\DP w wr w2.heap.size p t lv ls) (λ_ iv _=>N+1-(intOf iv).toNat)
 case atStart=>exact⟨0,List.range 6,[],Q0,rfl,rfl,RF t ht6,by rw[Ni];exact HD.out,HS3.out⟩
 case round =>
  obtain⟨j,p,ls,hj,rfl,hll,htp,hfl,hS⟩:=hrel;have HS:=Aa hS;have HLL:=Aa hll;have HT:=Aa htp;have HFL:=Aa hfl;have hzr:=hS.size;clear hS hll htp hfl HS3
  by_cases hlt:j<N
  ·obtain⟨n,hnj⟩:∃n,ns[j]?=some n:=⟨_,Az (by rw[HN.out];exact hlt)⟩
   obtain⟨g,o,rfl,hg,hx⟩:=Hv.out.at j (by rw[Bj,HN.out];exact hlt)
   have hxn:(ints ns)[j]?.getD 0=(n:Int):=by simp[ints,hnj]
   rw[hxn] at hx;have hx':Qc wr g (o+j) (Qi (n:Int)):=(HS.out.bel.cell (p:=⟨g,o+j,none⟩) hg).trans hx;have hnt:=Hn.out n (Cn hnj);obtain⟨hi1,hi2⟩:=zu5 HT.out ht6 hnt;have hkt:=(U4 HT.out ht6 hnt).1
   have hdr:ns.drop j=n::ns.drop (j+1):=by
    obtain⟨hlt',e⟩:=Cc.1 hnj;rw[IJ hlt',e]
   have hfl:=HFL.out;rw[hdr,FX] at hfl;obtain⟨k,hk⟩:=Qe (p.idxOf n);rw[hk] at hi1 hi2 hkt hfl;have CI:=Aa (zu0 wr (Qs w2.heap.size 0 6 6) (ints p) (n:Int) k (zxM HS.out.row HT.out.1) (by rw[Bj,HT.out.1];omega) hi1 hi2)
   have CP:Hid (∀W (V:Int),V=((2 ^ (k+1)-2:Nat):Int)->Qk 19 #[.agg #[.string ⟨#[]⟩,Qi 0],.int .u64 V,Qi ((k:Int)+1)] W λe w'=>e=.returned (.tuple #[.agg #[.string (Ba (Il k)),Qi ((Il k).length:Nat)],Qi 0])/\Qb W w'):=λW V hV=>by
    rw[hV,show((k:Int)+1)=((k+1:Nat):Int) by omega]
    refine Sc W (2 ^ (k+1)-2) (k+1) (Il k) (ztm k Q0) ?_ Q0
    have:2 ^ (k+1)<=2 ^ 6:=Jj Q0 Q0
    omega
   have hwr:∀V:Int,True:=λ_=>trivial;have HFL2:=Aa hfl;have hk6:k=0\/k=1\/k=2\/k=3\/k=4\/k=5:=Q0
   have Hk6:=Aa hk6;have hul:=YT k;have Hul:=Aa hul;obtain⟨ul,hule⟩:=Qe ((Il k).length);clear hi1 hi2 hdr hfl hx hnj hk hwr hul hxn hk6
   go_wp2_with fail
   refine CI.out.mono ?_;rintro e w4 ⟨rfl,rfl⟩
   go_wp2_with fail
   refine(znJ wr w2.heap.size p t k HT.out.1 Q0 HS.out.row).mono ?_
   rintro e w4 ⟨rfl,hO4,hR4⟩;have HS4:=Aa (HS.out.only hO4 hR4);clear hO4 hR4 HS CI
   go_wp2_with fail
   refine(CP.out _ _ (by rcases Hk6.out with rfl|rfl|rfl|rfl|rfl|rfl<;>decide)).mono ?_
   rintro e w5 ⟨rfl,hB5⟩;have HS5:=Aa (HS4.out.step hB5);have hls5:ls.length<=1048576:=by rw[HLL.out];omega
   have hz5:=HS5.out.size;have hoq:=HS5.out.own;clear hB5 HS4 CP;rw[hule]
   go_wp2_with
    (at_builtin
     refine Tu rfl _ _ 106 rfl (w2.heap.size+1) 50 i0 (.agg #[.string ⟨#[]⟩,Qi 0]) 2 24 Tryz.underlying106 hi0 hz0 hz1 hz2 rfl Q5 _ ls.length (DW (ls.map Dp)) rfl ((HS5.out.own.alloc _).alloc _) _ 1 _ [.string (Ba (Il k)),Qi ((ul:Nat):Int)] rfl (zoo (znz w5 _ (.cells #[.string (Ba (Il k)),Qi ((ul:Nat):Int)] 50)) rfl (by simp[maxLen])) (by simp[Value.oneCell']) (by unfold maxLen;omega) Q0 Q4 ?_
     intro v' w6 hown hg hat1;have HS6:=Aa ((HS5.out.step ((Ag _ w5).alloc (Af _) (.cells #[.string (Ba (Il k)),Qi ((ul:Nat):Int)] 50))).appended (l:=Il k) hg (by rw[hule];exact hown))
     clear hown hg hat1)
   go_roundw
   case rel=>exact⟨j+1,KD p k,ls++[Il k],Q0,by go_num,by rw[AJ,HLL.out];rfl,Ut HT.out ht6 hkt,by rw[P5,BN];simpa using HFL2.out,HS6.out⟩
   case measure=>simp[intOf];omega
  ·obtain rfl:j=N:=Q0
   have hfl:=HFL.out;rw[Py (by rw[HN.out];exact Af _),FX,Eu] at hfl
   have hlen:D.length+8*ls.length<1099511627776:=by have:=HLL.out;omega
   have CC:=Aa (UT wr _ ls D hfl (zmY HS.out.own) hlen);have HSs:=HS.out.size;have HSb:=HS.out.hb;clear hfl hlen
   go_wp2_with fail
   refine CC.out.mono ?_;rintro e w4 ⟨rfl,hB4⟩;have HS4:=Aa (HS.out.step hB4);have k0:Qc w4 (w.heap.size+1) 0 (.string ⟨#[]⟩):=Ae HS4.out.out 0;have k1:Qc w4 (w.heap.size+1) 1 (Qi 0):=Ae HS4.out.out 1;have f0:=Ah HS4.out.out;have hbel:Qb w ((w4.setCell ⟨w.heap.size+1,0,none⟩ (.string (Ba D))).setCell ⟨w.heap.size+1,1,none⟩ (Qi (D.length:Nat))):=(HS4.out.bel.setCell (p:=⟨w.heap.size+1,0,none⟩) Q6 _).setCell (p:=⟨w.heap.size+1,1,none⟩) Q6 _
   clear hB4 HS
   go_wp2_with fail
   refine BV (v:=.tuple #[.agg #[.string (Ba D),Qi (D.length:Nat)],Qi 0]) ?_ rfl ⟨rfl,hbel⟩;simp[results,Tryz.results27,go_sem,k0,k1]
def Holds(w:World)(b:Nat)(l:List Bool):Prop:=w.heap[b]?=some (.cells #[.string (Ba l),Qi (l.length:Nat)] 50 (0,0))
theorem zuX(w:World)(b:Nat)(l:List Bool)(m:List Bool)(h:Holds w b l)(d:m.length=16)(z:l.length<=1000) :
 Qk 120 #[.int .u64 (B.num m:Nat),Qp b 0] w λe w'=>e=.returned (.tuple #[])/\Ab b w w'/\Holds w' b (l++m):=by
 have C:Hid (∀W,Qk 19 #[.agg #[.string (Ba l),Qi (l.length:Nat)],.int .u64 (B.num m:Nat),Qi 16] W λe w' =>
  e=.returned (.tuple #[.agg #[.string (Ba (l++m)),Qi ((l++m).length:Nat)],Qi 0])/\Qb W w'):=λW =>
  Sq W l (B.num m) 16 (l++m) (by rw[zBf m d]) Q0 (by have:=zqj m d;omega) Q0
 have H:=Aa h;have k:=(Ae h 0).trans rfl;have n:=(Ae h 1).trans rfl;generalize f:B.num m=x at*
 have j:=Aa f;generalize g:l++m=r at*
 clear h f g
 go_enter Tryz.func120,Tryz.ntmps120
 go_wp2_with fail
 refine(C.out _).mono ?_;rintro e i ⟨rfl,c⟩;have a:Holds i b l:=Al c H.out;have u:=Ah a 0;have y:=Ah a 1;have o:=(Ae a 0).trans rfl;have s:=(Ae a 1).trans rfl;have A:=Aj a
 go_wp2_with fail
 go_end0
 refine⟨rfl,((Ab.of c).set _ _).set _ _,?_⟩;exact PX a _ _
theorem zt7(l:List UInt8)(k:Nat):((B.num (ED l k):Int) !=0)=DZ l k:=by
 have h:=VN (ED l k);unfold DZ;cases hb:(ED l k).any id with
 | false =>
   have:=h.2 hb;rw[this];rfl
 | true =>
   have:B.num (ED l k)≠0:=λe=>by rw[h.1 e] at hb;cases hb
   simp only[SY];omega
theorem zyr(l:List UInt8)(k:Nat):B.num (FF l (k+1))=2*B.num (FF l k)+(DZ l k).toNat:=by rw[zrk,B.num_snoc]
theorem zpg(l:List UInt8)(k:Nat)(a:k<=16):B.num (FF l k)<131072:=by
 have:=B.num_lt (FF l k);rw[PS] at this;exact Iy this (BU (Jj Q0 a) Q5)
theorem zg8(l:List UInt8)(n:Nat)(a:n<=16):(Hw l n).length<=256:=by
 rw[VE];have:=Sk (DZ l) n;omega
theorem zz2(w:World)(s:ByteArray)(R:s.size<=1000000) :
 Qk 60 #[.string s] w λe w'=>e=.returned (.agg #[.string (Ba (FJ s.data.toList)),Qi ((FJ s.data.toList).length:Nat)])/\Qb w w':=by
 have C:Hid (∀W,Qk 95 #[.string s] W λe w'=>e=.returned (.agg (EL s.data.toList))/\Qb W w'):=λW=>zyQ s W R;generalize s.data.toList=l at*
 have G:Hid (∀(k:Nat) W,k<16->Qk 121 #[.agg (EL l),Qi (k:Nat)] W λe w'=>e=.returned (.int .u64 (B.num (ED l k):Nat))/\Qb W w'):=λk W u=>zzQ W l k u;obtain⟨S,D⟩:=Qe (EL l);rw[D] at C G;have E:S.size=256:=by rw[<-D];exact OI _
 have a0:S.all (·.oneCell')=true:=by rw[<-D];exact zqd _
 have Q:(Tryz.prog.info? 166).map (·.size)=some S.size:=by rw[E];exact Xb
 have o:=Aa Q;have b1:=Aa a0;have b8:=Aa E;have hz:=zp3;obtain⟨Z,L⟩:=Qe (EL []);rw[L] at hz;have a1:Z.size=S.size:=by rw[<-L,E];exact OI _
 have b2:=Aa a1;clear D E Q a0 L a1
 go_enter Tryz.func60,Tryz.ntmps60
 go_wp2_with fail
 refine(C.out _).mono ?_;rintro e c ⟨rfl,Y⟩;have H:=Aa (((BL.nil w).box #[.string ⟨#[]⟩,Qi 0] 50 w.heap.size rfl).step Y);clear Y C
 go_wp2_with
  (refine Rq rfl 166 _ _ rfl c.heap.size S Z _ rfl rfl (Am _ _ _ rfl) b2.out o.out b1.out ?_
   intro w2 a5 b6 b4 a2;have P:=Aa (H.out.fresh (a2 _ _ (Af _) ((Ag _ _).alloc (Af _) _)) a5);clear a5 b6 b4 a2)
 have a3:c.heap.size≠w.heap.size:=by have:=H.out.lt 0 rfl;omega
 go_loopw [5,12] (λav i wr=>∃k:Nat,k<=16/\i=Qi k/\av=.int .u64 (B.num (FF l k):Nat)/\BL w wr [] [(c.heap.size,S,166),(w.heap.size,#[.string ⟨#[]⟩,Qi 0],50)]) (λ_ i _=>16-(intOf i).toNat)
 case atStart=>exact⟨0,BI _,rfl,rfl,P.out⟩
 case round =>
  obtain⟨k,u,rfl,rfl,d⟩:=hrel;have HE:=Aa d;clear d H P
  by_cases O:k<16
  ·have b5:=zpg l k u
   have j:=zt7 l k;have F:=zyr l k;have g:=Aa (G.out k wr O);obtain⟨x,T⟩:=Qe (B.num (FF l k));obtain⟨b,a4⟩:=Qe (DZ l k);obtain⟨a8,m⟩:=Qe (B.num (ED l k));rw[T] at b5 F |-;rw[m] at j g;rw[a4] at F j;have R:IntKind.u64.wrap ((x:Int)*2)=(x:Int)*2:=by rw[Nb];omega
   have b3:=Aa (zyN x Q0)
   have a7:=Aa F;clear F T a4 m;cases b with
   | true =>
     go_wp2_with
      (first
        |(refine Ot rfl 166 _ rfl c.heap.size rfl _ S _ _ (HE.out.blk 0 rfl) Oq rfl o.out ?_)
        |(go_at_call 121
          refine g.out.mono ?_;rintro e N ⟨rfl,y⟩;have f:=Aa (HE.out.step y);clear y))
     go_roundw
     case rel=>exact⟨k+1,Q0,by go_num,by rw[a7.out,b3.out];rfl,f.out⟩
     case measure=>simp[intOf];omega
   | false =>
     go_wp2_with
      (first
        |(refine Ot rfl 166 _ rfl c.heap.size rfl _ S _ _ (HE.out.blk 0 rfl) Oq rfl o.out ?_)
        |(go_at_call 121
          refine g.out.mono ?_;rintro e N ⟨rfl,y⟩;have f:=Aa (HE.out.step y);clear y))
     go_roundw
     case rel=>exact⟨k+1,Q0,by go_num,by rw[a7.out,Int.mul_comm];simp,f.out⟩
     case measure=>simp[intOf];omega
  ·obtain rfl:k=16:=Q0
   go_wp2_with fail
   refine(zuX _ w.heap.size [] (FF l 16) (HE.out.blk 1 rfl) (PS _ _) Q6).mono ?_
   rintro e N ⟨rfl,h,r⟩
   have f:BL w N [] [(c.heap.size,S,166),(w.heap.size,#[.string (Ba (FF l 16++Hw l 0)),Qi ((FF l 16++Hw l 0).length:Nat)],50)]:=by
    refine⟨⟨h.bel HE.out.bel (Af _) (Af _),λp a=>by simp at a⟩,λp a=>?_⟩
    rcases CZ.1 a with rfl|a
    ·exact h.other (HE.out.blk 0 rfl) a3
    ·rcases CZ.1 a with rfl|a
     ·simpa [Hw,Holds] using r
     ·simp at a
   have f:=Aa f;clear h r
   go_wp2_with fail
   clear HE;obtain⟨V,rfl⟩:∃V:World,V=wr:=⟨_,rfl⟩
   go_loopw [27] (λi wr=>∃k:Nat,k<=16/\i=Qi k/\BL w wr [] [(c.heap.size,S,166),(w.heap.size,#[.string (Ba (FF l 16++Hw l k)),Qi ((FF l 16++Hw l k).length:Nat)],50)]) (λi _=>16-(intOf i).toNat)
   case atStart=>exact⟨0,BI _,rfl,f.out⟩
   case round =>
    obtain⟨k,u,rfl,d⟩:=hrel;have HE:=Aa d;clear d f
    by_cases O:k<16
    ·have j:=zt7 l k
     have g:=Aa (G.out k wr O);have b9:=zg8 l k u;have a6:Hw l (k+1)=Hw l k++if DZ l k then ED l k else[]:=rfl
     have X:=Aa a6;clear a6;obtain⟨a8,m⟩:=Qe (B.num (ED l k));have b0:=Aa m;rw[m] at j g;clear m;cases hb:DZ l k with
     | true =>
       rw[hb] at j;have J:=Aa hb;clear hb;have b7:=HE.out.blk 1 rfl
       go_wp2_with
        (first
          |(refine Ot rfl 166 _ rfl c.heap.size rfl _ S _ _ (HE.out.blk 0 rfl) Oq rfl o.out ?_)
          |(go_at_call 121
            refine g.out.mono ?_;rintro e U ⟨rfl,z⟩;have n:=Aa (HE.out.step z);have A:=zuX U w.heap.size (FF l 16++Hw l k) (ED l k) (n.out.blk 1 rfl) (O6 _ _) (by rw[AJ,PS];omega)
            rw[b0.out] at A;have A:=Aa A;clear z)
          |(go_at_call 120
            refine A.out.mono ?_;rintro e w5 ⟨rfl,h,r⟩
            have I:BL w w5 [] [(c.heap.size,S,166),(w.heap.size,#[.string (Ba (FF l 16++Hw l (k+1))),Qi ((FF l 16++Hw l (k+1)).length:Nat)],50)]:=by
             refine⟨⟨h.bel n.out.bel (Af _) (Af _),λp a=>by simp at a⟩,λp a=>?_⟩
             rcases CZ.1 a with rfl|a
             ·exact h.other (n.out.blk 0 rfl) a3
             ·rcases CZ.1 a with rfl|a
              ·rw[X.out,J.out,if_pos rfl,<-BN]
               exact r
              ·simp at a
            have I:=Aa I;clear h r))
       go_roundw
       case rel=>exact⟨k+1,Q0,by go_num,I.out⟩
       case measure=>simp[intOf];omega
     | false =>
       rw[hb] at j;have J:=Aa hb;clear hb
       go_wp2_with
        (first
          |(refine Ot rfl 166 _ rfl c.heap.size rfl _ S _ _ (HE.out.blk 0 rfl) Oq rfl o.out ?_)
          |(go_at_call 121
            refine g.out.mono ?_;rintro e U ⟨rfl,z⟩;have n:=Aa (HE.out.step z);clear z))
       go_roundw
       case rel=>exact⟨k+1,Q0,by go_num,by rw[X.out,J.out,if_neg Q6,Eu];exact n.out⟩
       case measure=>simp[intOf];omega
    ·obtain rfl:k=16:=Q0
     have d:=HE.out;obtain⟨M,K⟩:=Qe (FF l 16++Hw l 16);rw[K] at d;have a9:=Aa (show FJ l=M from K)
     have HE:=Aa d;clear K d;have k0:=HE.out.cellv 1 rfl 0 _ rfl;have k1:=HE.out.cellv 1 rfl 1 _ rfl;have f0:=HE.out.frozen 1 rfl 0;have f1:=HE.out.frozen 1 rfl 1;have xl:=HE.out.lt 1 rfl
     go_wp2_with fail
     rw[a9.out];refine BV (Tk rfl _ _ w.heap.size 50 #[.string (Ba M),Qi (M.length:Nat)] (0,0) _ rfl (PX (HE.out.blk 1 rfl) _ _) Tryz.underlying50 rfl Q2) rfl ⟨rfl,?_⟩
     exact(HE.out.bel.setCell (p:=⟨w.heap.size,0,none⟩) (Af _) _).setCell (p:=⟨w.heap.size,1,none⟩) (Af _) _
def zvx(w:World)(r:Except Int (List UInt8 × Nat))(e:Ending)(w':World):Prop :=
 match r with
 | .ok (l,x)=>e=.returned (.tuple #[.string ⟨l.toArray⟩,Qi (x:Nat),Qi 0])/\Qb w w'
 | .error c=>e=.returned (.tuple #[.string ⟨#[]⟩,Qi 0,Qi c])/\Qb w w'
def H8(a:List UInt8)(k:Nat)(f:Nat->Bool):Nat->List UInt8
 |0=>a
 |i+1=>H8 a k f i++if f i then[UInt8.ofNat (k*16+i)] else[]
theorem zwP(h:f m=true):H8 e n f (m+1)=H8 e n f m++[UInt8.ofNat (n*16+m)]:=by rw[H8,h];rfl
theorem zt2(h:f m=false):H8 e n f (m+1)=H8 e n f m:=by rw[H8,h];simp
theorem zs1(a:List UInt8)(k i:Nat):H8 a k (λ_=>false) i=a:=by
 induction i with
 |zero=>rfl
 |succ i c=>rw[zt2 rfl,c]
theorem ZI(p f:Nat->Bool)(k i:Nat)(h:∀j,j<i->p (16*k+j)=f j):H8 (EZ p (16*k)) k f i=EZ p (16*k+i):=by
 induction i with
 |zero=>rfl
 |succ i a=>rw[H8,a λj c=>h j Q0,<-Lv,Ns,h i Q0,Km k 16]
theorem VV(a:List UInt8)(k:Nat)(f:Nat->Bool)(i:Nat):(H8 a k f i).length<=a.length+i:=by
 induction i with
 |zero=>simp[H8]
 | succ i c =>
   rw[H8,AJ];cases f i<;>simp<;>omega
def CQ(u:List UInt8)(a k:Nat)(c:Int)(b:Bool)(d:List UInt8):Prop :=
 d.length<=16*k/\((c=0/\Fz u a k<=8*u.length/\b=OX u a k/\d=EZ (Pk u a) (16*k))\/(c=2/\8*u.length<Fz u a k))
theorem zwO(v k:Nat)(c:v<18446744073709551616):(bits BinOp.and IntKind.u64 ((v:Int)/ 2 ^ k) 1 ==0)= !v.testBit k:=by
 have h:=X7 v k c
 have e:bits BinOp.and IntKind.u64 ((v:Int)/ 2 ^ k) 1=0\/bits BinOp.and IntKind.u64 ((v:Int)/ 2 ^ k) 1=1:=by
  have f:=Vh k;have a:(v:Int)/ 2 ^ k=((v / 2 ^ k:Nat):Int):=by rw[zxa];rfl
  have d:v / 2 ^ k<=v:=Nat.div_le_self _ _;rw[a,show(1:Int)=((1:Nat):Int) from rfl,u64_and_nat _ _ Q0 Q0,Nat.and_one_is_mod]
  omega
 rw[<-h];rcases e with e|e<;>rw[e]<;>rfl
theorem CQ.no(h:CQ e n m 0 b E)(c:F5 e n m=false):CQ e n (m+1) 0 b E:=by
 obtain⟨k,a|⟨a,_⟩⟩:=h
 ·obtain⟨_,d,f,g⟩:=a
  refine⟨Q0,.inl ⟨rfl,by rw[RM,c];simpa using d,by rw[ZL,c];simpa using f,?_⟩⟩
  have:=ZI (Pk e n) (λ_=>false) m 16 λj i=>by rw[WW _ _ _ _ i,c];rfl
  rw[zs1,<-g] at this;exact this
 ·cases a
theorem CQ.yes(h:CQ e n m 0 b E)(c:F5 e n m=true)(l:Fz e n m+16<=8*e.length)(o:z = !(Ju e n m).any id)
 (r:∀i,i<16->f i=(Ju e n m).getD i false):CQ e n (m+1) 0 (b ||z) (H8 E m f 16):=by
 obtain⟨s,a|⟨a,_⟩⟩:=h
 ·obtain⟨_,u,g,k⟩:=a
  refine⟨by have:=VV E m f 16;omega,.inl ⟨rfl,by rw[RM,c];simpa using l,by rw[ZL,c,g,o];simp,?_⟩⟩
  rw[k];exact ZI (Pk e n) f m 16 λj d=>by rw[WW _ _ _ _ d,c,r j d];rfl
 ·cases a
theorem CQ.short(h:CQ e n m 0 b E)(a:F5 e n m=true)(c:8*e.length<Fz e n m+16):CQ e n (m+1) 2 z (H8 E m f 16) :=
 ⟨by have:=VV E m f 16;have:=h.1;omega,.inr ⟨rfl,by rw[RM,a];simpa using c⟩⟩
theorem CQ.start(u:List UInt8)(a:Nat)(h:a+16<=8*u.length):CQ u a 0 0 false []:=⟨Q6,.inl ⟨rfl,h,rfl,rfl⟩⟩
theorem CQ.start2(u:List UInt8)(a:Nat)(h:8*u.length<a+16):CQ u a 0 2 false []:=⟨Q6,.inr ⟨rfl,h⟩⟩
theorem CQ.two(h:CQ e n m 2 b E)(c:m<=16):LH e n=.error 2:=by
 obtain⟨d,⟨a,_⟩|⟨_,a⟩⟩:=h
 ·cases a
 ·unfold LH
  rw[if_pos (Iy a (zvz e n c))]
theorem CQ.end(h:CQ e n 16 0 b E)(f:z = !(List.range 16).any (F5 e n)):LH e n=if b ||z then .error 3 else .ok (E,Fz e n 16):=by
 obtain⟨g,⟨_,i,c,d⟩|⟨a,_⟩⟩:=h
 ·unfold LH
  rw[if_neg Q0,<-c,<-f,d]
 ·cases a
theorem CQ.er{g:Int}(h:CQ e n m g b E):g=0\/g=2:=by
 obtain⟨_,⟨h,_⟩|⟨h,_⟩⟩:=h
 ·exact .inl h
 ·exact .inr h
theorem zAE(u:List UInt8)(a k:Nat)(h:k<16):(B.num (B.slice u a 16)).testBit (15-k)=F5 u a k:=YJ u a 16 k h
theorem zrQ(u:List UInt8)(a:Nat):((B.num (B.slice u a 16):Int)==0)= !(List.range 16).any (F5 u a):=by
 have h:=zjZ u a 16;cases hb:(List.range 16).any (F5 u a) with
 | false =>
   have:=h.2 hb;rw[this];rfl
 | true =>
   have:B.num (B.slice u a 16)≠0:=λe=>by have:=h.1 e;unfold F5 at hb;rw[hb] at this;cases this
   simp only[Bool.not_true,Ez];omega
theorem zov(u:List UInt8)(a k:Nat):((B.num (Ju u a k):Int)==0)= !(Ju u a k).any id:=by
 have h:=VN (Ju u a k);cases hb:(Ju u a k).any id with
 | false =>
   have:=h.2 hb;rw[this];rfl
 | true =>
   have:B.num (Ju u a k)≠0:=λe=>by rw[h.1 e] at hb;cases hb
   simp only[Bool.not_true,Ez];omega
theorem Yb(s:ByteArray)(a:Nat)(W:World)(f:s.size<=1000000):∃(v:Nat)(c:Int),v<65536/\((c=0/\a+16<=8*s.size/\v=B.num (B.slice s.data.toList a 16))\/(c=2/\8*s.size<a+16/\v=0))/\
 ∀W,Qk 231 #[.string s,Qi (a:Nat),Qi 16] W λe w'=>e=.returned (.tuple #[.int .u64 (v:Nat),Qi c])/\W=w':=by
 have d:s.data.toList.length=s.size:=by simp
 rcases Gb (8*s.size) (a+16) with h|h
 ·exact⟨0,2,Q0,.inr ⟨rfl,h,rfl⟩,λW=>zmK s a 16 W Q0 Q0 h⟩
 ·refine⟨B.num (B.slice s.data.toList a 16),0,zqj _ (B.length_slice _ _ _),.inl ⟨rfl,h,rfl⟩,λW=>?_⟩
  have:=NA s a (16:Nat) W Q0
  rw[Sg _ a 16 Q0 Q0,Si _ a 16 Q0 Q0] at this
  exact this
theorem zwb(w:World)(s:ByteArray)(a:Nat)(hs:s.size<=1000000)(ha:a<=1000000000) :
 Qk 284 #[.string s,Qi (a:Nat)] w λe w'=>zvx w (LH s.data.toList a) e w':=by
 obtain⟨c9,N⟩:=Qe (LH s.data.toList a);rw[N];have hl:s.data.toList.length=s.size:=by simp
 obtain⟨y,T,e1,F,a0⟩:=Yb s a w hs
 have b8:Hid (∀a:Nat,∃(v:Nat)(c:Int),v<65536/\((c=0/\a+16<=8*s.size/\v=B.num (B.slice s.data.toList a 16))\/(c=2/\8*s.size<a+16/\v=0))/\
  ∀W,Qk 231 #[.string s,Qi (a:Nat),Qi 16] W λe w'=>e=.returned (.tuple #[.int .u64 (v:Nat),Qi c])/\W=w'):=λa=>Yb s a w hs
 have a4:Hid (CQ s.data.toList a 0 T false []):=by
  rcases F with⟨rfl,h,_⟩|⟨rfl,h,_⟩
  ·exact CQ.start _ _ Q0
  ·exact CQ.start2 _ _ Q0
 have d0:Hid (T=0->y=B.num (B.slice s.data.toList a 16)):=λe=>by
  rcases F with⟨_,_,h⟩|⟨h,_⟩
  ·exact h
  ·rw[h] at e;cases e
 have a1:=Aa N;have H:=Aa hl;have c5:=Aa F;have a3:=Aa a0;generalize s.data.toList=u at*
 clear N hl F a0
 go_enter Tryz.func284,Tryz.ntmps284
 go_wp2_with fail
 refine(a3.out _).mono ?_;rintro e c1 ⟨rfl,rfl⟩
 go_wp2_with fail
 go_loopw [1,6,7,8,10] (λav ev R bv Q wr=>∃(k:Nat)(c:Int)(b:Bool)(d:List UInt8),k<=16/\Q=Qi k/\av=Qi (Fz u a k:Nat)/\ev=Qi c/\bv=.bool b/\Ap wr w.heap.size R d/\Qb w wr/\CQ u a k c b d) (λ_ _ _ _ Q _=>16-(intOf Q).toNat)
 case atStart=>exact⟨0,T,false,[],BI _,rfl,by unfold Fz;rw[zui];go_num,rfl,rfl,Ap.nil _ _,Ag _ _,a4.out⟩
 case round =>
  obtain⟨k,c,b,d,hk,rfl,rfl,rfl,rfl,b1,g,D⟩:=hrel;have o:=Aa D;have X:=Aa b1;have e3:=g.size;have e0:=zy7 u a k;have e2:=D.1;have c4:=D.er;clear D b1 a4 a3;rcases c4 with rfl|rfl
  ·have a5:Hid (y=B.num (B.slice u a 16)):=by
    show _=_
    rcases c5.out with⟨x,_,n⟩|⟨x,n,_⟩
    ·exact n
    ·exfalso
     obtain⟨_,⟨_,h3,_⟩|⟨h3,_⟩⟩:=o.out
     ·have:=H.out;have:a+16<=Fz u a k:=by unfold Fz;omega
      omega
     ·cases h3
   by_cases a9:k<16
   ·obtain⟨j,M⟩:=Qe (15-k)
    have d6:((15:Int)-(k:Int)).toNat=j:=Q0
    have d7:(0:Int)<=15-(k:Int):=Q0
    have E:=zwO y j Q0
    have a7:y.testBit j=F5 u a k:=by rw[<-M,a5.out];exact zAE u a k a9
    rw[a7] at E;obtain⟨h,K⟩:=Qe (F5 u a k);rw[K] at E;have r:=Aa K;clear a7 K;cases h with
    | false =>
      simp only[Bool.not_false] at E;have l:=RM u a k;rw[r.out] at l;simp only[MT,M4,Ic] at l;have S:=Aa l;clear l
      go_wp2_with fail
      go_roundw
      case rel=>exact⟨k+1,0,b,d,Q0,by go_num,by rw[S.out],rfl,rfl,X.out,g,o.out.no r.out⟩
      case measure=>simp[intOf];omega
    | true =>
      simp only[Bool.not_true] at E;obtain⟨v,c,hv,b2,C⟩:=b8.out (Fz u a k);have b9:=Aa C;have l:=RM u a k;rw[r.out,if_pos rfl] at l;have S:=Aa l;obtain⟨z,O⟩:=Qe (((v:Int)==0));obtain⟨f,J⟩:∃f:Nat->Bool,∀i,v.testBit (15-i)=f i:=⟨_,λ_=>rfl⟩
      have b4:CQ u a (k+1) c (b ||z) (H8 d k f 16):=by
       rcases b2 with⟨rfl,x,n⟩|⟨rfl,x,n⟩
       ·refine o.out.yes r.out (by rw[H.out];exact x) (by rw[<-O,n];exact zov u a k) λi L=>?_
        rw[<-J i,n]
        show _=(Ju u a k).getD i false
        unfold Ju;rw[YJ u _ 16 i L,B.getD_slice _ _ _ _ L]
       ·exact o.out.short r.out (by rw[H.out];exact x)
      have c7:=Aa b4;have c0:=Aa J;clear l b4 b2 J C;cases b
      all_goals
       go_wp2_with fail
       refine(b9.out _).mono ?_;rintro e c1 ⟨rfl,rfl⟩
       go_wp2_with fail
       obtain⟨wo,rfl⟩:∃wo:World,wo=wr:=⟨_,rfl⟩
       go_loopw [7,48] (λR P wr=>∃i:Nat,i<=16/\P=Qi i/\Ap wr w.heap.size R (H8 d k f i)/\Qb w wr) (λ_ P _=>16-(intOf P).toNat)
       case atStart=>exact⟨0,BI _,rfl,X.out,g⟩
       case round =>
        obtain⟨i,L,rfl,b5,A⟩:=hrel;have G:=Aa b5;have e4:=A.size;have d3:=VV d k f i;clear b5
        by_cases d5:i<16
        ·obtain⟨m,hm⟩:=Qe (15-i)
         have d8:((15:Int)-(i:Int)).toNat=m:=Q0
         have d9:(0:Int)<=15-(i:Int):=Q0
         have b3:=X7 v m Q0
         have U:=c0.out i;rw[hm] at U;rw[U] at b3;obtain⟨b7,I⟩:=Qe (f i);rw[I] at b3;have a2:=Aa I;have a8:((k:Int)*16+(i:Int))=((k*16+i:Nat):Int):=Q0
         have c2:=Aa a8;clear U I a8;cases b7 with
         | true =>
           go_wp2_with
            (at_builtin
             refine Tv rfl _ _ rfl w.heap.size _ (H8 d k f i) rfl (G.out.alloc _) wr.heap.size (k*16+i) Q0 rfl (by rw[<-c2.out];exact Am _ _ _ rfl) Q0 Q4 ?_
             intro d2 d1 w1 b6 a6 c6;have c8:=Aa b6;have c3:Qb w w1:=(A.alloc Q0 _).grown a6 Q4 (λj M=>TI G.out M)
             clear a6 c6 b6)
           go_roundw
           case rel=>exact⟨i+1,Q0,by go_num,by rw[zwP a2.out];exact c8.out,c3⟩
           case measure=>simp[intOf];omega
         | false =>
           go_wp2_with fail
           go_roundw
           case rel=>exact⟨i+1,Q0,by go_num,by rw[zt2 a2.out];exact G.out,A⟩
           case measure=>simp[intOf];omega
        ·obtain rfl:i=16:=Q0
         go_wp2_with fail
         go_roundw
         case rel=>exact⟨k+1,c,_,H8 d k f 16,Q0,by go_num,by rw[S.out];go_num,rfl,rfl,G.out,A,c7.out⟩
         case measure=>simp[intOf];omega
   ·obtain rfl:k=16:=Q0
    obtain⟨z,O⟩:=Qe (((y:Int)==0));have Y:=o.out.end (z:=z) (by rw[<-O,a5.out];exact zrQ u a)
    rw[a1.out] at Y;have V:=Aa Y;clear Y;have d4:=M8 _ X.out;cases b
    ·cases z
     ·go_wp2_with fail
      go_ret3
      rw[V.out];exact⟨rfl,g⟩
     ·go_wp2_with fail
      go_ret3
      rw[V.out];exact⟨rfl,g⟩
    ·go_wp2_with fail
     go_ret3
     rw[V.out];exact⟨rfl,g⟩
  ·have Z:=o.out.two hk
   rw[a1.out] at Z;have b0:=Aa Z;clear Z
   by_cases a9:k<16
   ·go_wp2_with fail
    go_ret3
    rw[b0.out];exact⟨rfl,g⟩
   ·go_wp2_with fail
    go_ret3
    rw[b0.out];exact⟨rfl,g⟩
