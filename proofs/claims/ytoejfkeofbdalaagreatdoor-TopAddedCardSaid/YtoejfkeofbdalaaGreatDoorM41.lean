import Derived.Test.YtoejfkeofbdalaaGreatDoorM40
set_option linter.all false
set_option maxRecDepth 100000
set_option maxHeartbeats 8000000
namespace Go.Proofs.YtoejfkeofbdalaaGreatDoor
open Go.RowKit
section
variable {w:World} {k t:Nat} {l:List Value} {x0 x1 x2 x3 x4 x5 x6 x7 x8 x9:Value}
theorem BH(h:Qg w k ⟨x0::l⟩ t):Qc w k 0 x0:=(Ae h 0).trans rfl
theorem BX(h:Qg w k ⟨x0::x1::l⟩ t):Qc w k 1 x1:=(Ae h 1).trans rfl
theorem Dr(h:Qg w k ⟨x0::x1::x2::l⟩ t):Qc w k 2 x2:=(Ae h 2).trans rfl
theorem D7(h:Qg w k ⟨x0::x1::x2::x3::l⟩ t):Qc w k 3 x3:=(Ae h 3).trans rfl
theorem DK(h:Qg w k ⟨x0::x1::x2::x3::x4::l⟩ t):Qc w k 4 x4:=(Ae h 4).trans rfl
theorem DJ(h:Qg w k ⟨x0::x1::x2::x3::x4::x5::l⟩ t):Qc w k 5 x5:=(Ae h 5).trans rfl
theorem DM(h:Qg w k ⟨x0::x1::x2::x3::x4::x5::x6::l⟩ t):Qc w k 6 x6:=(Ae h 6).trans rfl
theorem Vz(h:Qg w k ⟨x0::x1::x2::x3::x4::x5::x6::x7::l⟩ t):Qc w k 7 x7:=(Ae h 7).trans rfl
theorem Vy(h:Qg w k ⟨x0::x1::x2::x3::x4::x5::x6::x7::x8::l⟩ t):Qc w k 8 x8:=(Ae h 8).trans rfl
theorem zBm(h:Qg w k ⟨x0::x1::x2::x3::x4::x5::x6::x7::x8::x9::l⟩ t):Qc w k 9 x9:=(Ae h 9).trans rfl
end
theorem Lf(w:World)(b:Nat)(a:w.heap.size=b)(o:Obj):∃W,w.alloc o=W/\Qh W b o/\Qb w W :=
 ⟨_,rfl,Am w o b a.symm,Ay (Ag _ _) o⟩
theorem QL(w:World)(b:Nat)(a:w.heap.size=b)(o p:Obj):∃W,(w.alloc o).alloc p=W/\Qh W b o/\Qh W (b+1) p/\Qb w W :=
 ⟨_,rfl,Bb p (Am w o b a.symm),Am (w.alloc o) p (b+1) (by simp[a]),Ay (Ay (Ag _ _) o) p⟩
theorem Ve(w:World)(b:Nat)(a:w.heap.size=b)(o p q:Obj):∃W,((w.alloc o).alloc p).alloc q=W/\Qh W b o/\Qh W (b+1) p/\Qh W (b+1+1) q/\Qb w W :=
 ⟨_,rfl,Bb q (Bb p (Am w o b a.symm)),Bb q (Am (w.alloc o) p (b+1) (by simp[a])),Am ((w.alloc o).alloc p) q (b+1+1) (by simp[a]),Ay (Ay (Ay (Ag _ _) o) p) q⟩
theorem Xq(w:World)(v:Value)(a:List NV)(f:XH w v a)(h:∀x∈a,PM x)(c:a≠[])(d:a.length<=1000)(i:(Lib.join (a.map FR) [32]).length<=10000000) :
 Qk 136 #[Qi 0,v] w λe j=>e=.returned (.string ⟨(JT a).toArray⟩)/\Qb w j:=by
 have b:=Aa (zwc w v a f h c d i);clear f h c d i
 go_enter Tryz.func136,Tryz.ntmps136
 go_wp2_with fail
 refine b.mono ?_;rintro e n ⟨rfl,g⟩;have m:=Aa g;clear g b
 go_wp2_with fail
 go_ret
 exact⟨rfl,m⟩
theorem RV(n:Nat)(a:n<100)(W:World):Qk 197 #[Qi n] W λe b=>e=.returned (.string ⟨(Lib.decDigits n).toArray⟩)/\Qb W b :=
 (Tryz.strconv_Itoa_small n a W).mono λ_ _ h=>⟨h.1,by rw[h.2];exact Ag _ _⟩
theorem Pc(w:World)(p k n:Nat)(C:n<1000000000)(s:∀W,Ab p w W->Qk 197 #[Qi n] W λe g=>e=.returned (.string ⟨(Lib.decDigits n).toArray⟩)/\Qb W g)(a b c d:Value)(v:Qg w p #[a,b,c,d] 241)(u:k<3) :
 Qk 135 #[Qp p 0,Qi k,.int .u8 110,.string ⟨(Lib.decDigits n).toArray⟩] w λe g=>e=.returned (.bool true)/\Ab p w g/\Qg g p (#[a,b,c,d].setIfInBounds k (Qi n)) 241:=by
 have B:(Lib.decDigits n).length<=9:=Ty C;obtain⟨T,f⟩:=Qe ((⟨(Lib.decDigits n).toArray⟩:ByteArray):ByteArray);have M:T.size<=9:=by rw[<-f];exact B
 have A:T.data.toList=Lib.decDigits n:=by rw[<-f]
 have q:=Aa (λW=>Tryz.strconv_Atoi T n Q0 (by rw[A];exact zxh n) W)
 have i:=Aa s;rw[f] at i |-;have G:decide ((T.size:Int)<=9)=true:=Bl Q0
 have F:decide ((n:Int)>=0)=true:=Bl Q0
 have L:decide ((0:Int)<=n)=true:=Bl Q0
 clear f A B s
 go_enter Tryz.func135,Tryz.ntmps135
 go_wp2_with fail
 refine(q w).mono ?_;rintro e J ⟨rfl,t,rfl⟩;have m:Qb w (Lib.bytesWorld w 5 t):=⟨rfl,rfl,rfl,by rw[Lib.bytesWorld_size];omega,λk u=>Lib.bytesWorld_at_old w 5 t k u⟩
 generalize Lib.bytesWorld w 5 t=W at*
 have h:=Al m v;have j:=Aa ((Ab.of m).set (k:=p) k (Qi n));have r:=Aa (Ak h k (Qi n));have z:=Aa (i _ j);have I:=Ah h k;obtain⟨y,x⟩:∃y,(#[a,b,c,d]:Array Value)[k]?=some y:=⟨_,Oh Q4⟩
 have H:=(Ae h k).trans x;clear m v q h x i
 go_wp2_with fail
 refine z.mono ?_;rintro e K ⟨rfl,o⟩;have D:=Aa (j.trans (Ab.of o));have E:=Aa (Al o r);clear o z j r
 go_wp2_with fail
 go_ret
 exact⟨rfl,D,E⟩
theorem zyH(w:World)(p k:Nat)(x:List UInt8)(m:x≠[])(r:x.length<=100000)(a b c d:Value)(q:Qg w p #[a,b,c,d] 241) :
 Qk 135 #[Qp p 0,Qi k,.int .u8 104,.string ⟨(Dy x).toArray⟩] w λe s=>e=.returned (.bool true)/\Ab p w s/\Qg s p #[a,b,c,.string ⟨x.toArray⟩] 241:=by
 have j:=Aa (zwK x w m r);have v:=M9 x;have B:=Ga.2 m;obtain⟨T,g⟩:=Qe ((⟨(Dy x).toArray⟩:ByteArray):ByteArray);obtain⟨X,o⟩:=Qe ((⟨x.toArray⟩:ByteArray):ByteArray);have u:T.size=2*x.length:=by rw[<-g,<-v];rfl
 have f:T.toList.length=2*x.length:=by rw[Lib.toList_data,<-u];simp
 have D:(T.toList ==[45])=false:=by
  cases h:T.toList ==[45] with
  |false=>rfl
  |true=>rw[eq_of_beq h] at f;simp at f;omega
 have E:T.toList.isEmpty=false:=by
  cases h:T.toList with
  |nil=>rw[h] at f;simp at f;omega
  |cons a b=>rfl
 have F:(T.toList ==[])=false:=by
  cases h:T.toList with
  |nil=>rw[h] at f;simp at f;omega
  |cons a b=>rfl
 rw[g,o] at j;rw[g,o];clear g o v B u f m r
 go_enter Tryz.func135,Tryz.ntmps135
 go_wp2_with fail
 refine j.mono ?_;rintro e W ⟨rfl,n⟩;have i:=Al n q;have y:=Aa ((Ab.of n).set (k:=p) 3 (.string X));have z:=Aa (Ak i 3 (.string X));have C:=Ah i 3;have A:=Ae i 3;simp at A;clear n q j i
 go_wp2_with fail
 go_ret
 exact⟨rfl,y,z⟩
theorem zuA(w:World)(p k:Nat) :
 Qk 135 #[Qp p 0,Qi k,.int .u8 104,.string ⟨#[45]⟩] w λe a=>e=.returned (.bool true)/\a=w:=by
 go_enter Tryz.func135,Tryz.ntmps135
 go_wp2_with fail
 go_ret
 exact⟨rfl,rfl⟩
theorem zpW(w:World)(f:Nat)(g:Array Value)(I:0<g.size)(q:Qg w f g 145)(s:ByteArray)(r:s.size<=1000)(c:Nat)(m:1<=c)(n:c<=9)(a b:Value) :
 Qk 181 #[Qp f 0,.agg #[Qi c,a,b,.string s]] w λe E=>e=.returned (.string ⟨(JT [.str [111,107]]).toArray⟩)/\∃W,Qb w W/\Below w.heap.size (W.setCell ⟨f,0,none⟩ (.string (Ba (I8 c s.data.toList)))) E:=by
 have j:=Aa (λW=>zy8 W s r c m n);obtain⟨T,p⟩:=Qe (Ba (I8 c s.data.toList));rw[p] at j |-;obtain⟨z,M⟩:=Qe w.heap.size;have H:=Aa (Ay (Ag w.heap.size w) (.cells #[Qi c,a,b,.string s] 241));clear p m n r
 go_enter Tryz.func181,Tryz.ntmps181
 go_wp2_with fail
 refine(j _).mono ?_;rintro e d ⟨rfl,o⟩;have h:Qb w d:=H.trans (o.mono Q6)
 have i:=Al h q;have B:=Aa h;have L:=Ah i 0;obtain⟨y,v⟩:∃y,g[0]?=some y:=⟨_,Oh I⟩;have K:=(Ae i 0).trans v;obtain⟨A,D⟩:=Qe d.heap.size;clear o h q i v
 go_wp2_with fail
 have J:(d.setCell ⟨f,0,none⟩ (.string T)).heap.size=A:=by simp[D]
 have N:w.heap.size<=A:=by have:=B.size;omega
 refine(Xq _ _ [.str [111,107]] ?_ ?_ Q6 Q6 ?_).mono ?_
 ·show Rd _ _ 1 _ 1 [_]
  exact Rd.mono (GX (Am _ _ _ J.symm) rfl Q7 (by simp[maxLen])) (by simp[D])
 ·intro x u
  simp at u;subst u;simp[PM]
 ·simp[Lib.join,FR]
 rintro e F ⟨rfl,C⟩
 have G:Hid (Below w.heap.size (d.setCell ⟨f,0,none⟩ (.string T)) F) :=
  ((Ag w.heap.size (d.setCell ⟨f,0,none⟩ (.string T))).alloc Q0 _).trans (C.mono Q4)
 clear C
 go_wp2_with fail
 go_ret
 exact⟨rfl,d,B,G⟩
structure Cu(s:ByteArray)(L:List Av):Prop where
 size:s.size<=1000000
 ne:L≠[]
 at0:KS s.data.toList 0 L
 few:∀S∈L,S.ts.length<=100000
 evsL:(DU 0 L).length<=1000000
 resL:(Cl L).length<=1000000
 txL:∀k,(Bi ((Cl L).take k)).length<=100000
theorem zzf(w:World)(f:Nat)(s:ByteArray)(L:List Av)(m:Array Value)(i:m[0]?=some (.string s))(b:Qg w f m 145)(a:Cu s L)(G:Ig L=true)(d:Array Value) :
 Qk 186 #[Qp f 0,.agg d] w λe C=>e=.returned (.string ⟨(JT [.str [115,97,121],.byt (Bi (Cl L))]).toArray⟩)/\Qb w C:=by
 have c:=Aa (λW=>zvN s W a.size L a.ne a.at0 a.few a.evsL a.resL (λk=>BU (a.txL k) Q0))
 have o:GG L=0:=by rw[GG,if_pos G]
 have A:(Bi (Cl L)).length<=100000:=by
  have:=a.txL (Cl L).length;rw[Gp] at this;exact this
 obtain⟨x,h⟩:=Qe (Bi (Cl L));obtain⟨T,g⟩:=Qe ((⟨x.toArray⟩:ByteArray):ByteArray);rw[o,h,g] at c;rw[h] at A |-;obtain⟨z,I⟩:=Qe w.heap.size;have F:=Aa (Ay (Ag w.heap.size w) (.cells d 241));have H:=(Ae b 0).trans i;have M:=Aj b;have B:=Aa g;have K:Qc (w.alloc (.cells d 241)) f 0 (.string s):=(Ae (Al (Ag w.heap.size w |>.alloc (Af _) _) b) 0).trans i;clear g h a o i b
 go_enter Tryz.func186,Tryz.ntmps186
 go_wp2_with fail
 refine(c _).mono ?_;rintro e j ⟨rfl,n⟩;have r:Qb w j:=F.trans (n.mono Q6)
 have q:=Aa r;obtain⟨J,v⟩:=Qe j.heap.size;clear n r c
 go_wp2_with fail
 refine(Xq _ _ [.str [115,97,121],.byt x] ?_ ?_ Q6 Q6 ?_).mono ?_
 ·show Rd _ _ 1 _ 2 [_,.iface _ (.string ⟨x.toArray⟩)]
  rw[B.out];exact Rd.mono (GX (Am _ _ _ v.symm) rfl Q7 (by simp[maxLen])) (by simp[v])
 ·intro y p
  simp at p;rcases p with rfl|rfl
  ·simp[PM]
  ·exact A
 ·simp[Lib.join,FR]
  split
  ·simp
  ·rw[M9];omega
 rintro e D ⟨rfl,u⟩;have E:Hid (Qb w D):=(Ay q _).trans (u.mono (by have:=q.size;simp;omega))
 clear u
 go_wp2_with fail
 go_ret
 exact⟨rfl,E⟩
