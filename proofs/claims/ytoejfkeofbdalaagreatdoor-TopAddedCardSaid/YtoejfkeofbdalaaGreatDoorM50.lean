import Derived.Test.YtoejfkeofbdalaaGreatDoorM44
import Derived.Test.YtoejfkeofbdalaaGreatDoorM49
set_option linter.all false
set_option maxRecDepth 100000
set_option maxHeartbeats 8000000
namespace Go.Proofs.YtoejfkeofbdalaaGreatDoor
open Go.RowKit
variable {n:Nat} {w:World}
theorem Ab.below_then{v u:World}(h:Ab n w v)(g:Below w.heap.size v u):Ab n w u :=
 ⟨g.os.trans h.os,g.tape.trans h.tape,g.output.trans h.output,BU h.size g.size,λj a b=>(g.block j a).trans (h.block j a b)⟩
def XT:Nat->Array Value
 |0=>#[Qi 0,Qi 0,Qi 0,.string ⟨#[]⟩]
 |1=>#[Qi 1,Qi 0,Qi 0,.string ⟨#[]⟩]
 |_=>#[Qi 1,Qi 0,Qi 0,.string ⟨#[97,98]⟩]
def Tn(i:Nat):List UInt8:=if i=0 then[111,107,10] else[115,97,121,32,54,49,54,50,10]
def Rl(T:ByteArray)(i:Nat):Array Value:=if i=0 then Ck else Ck.setIfInBounds 0 (.string T)
theorem zAu:(⟨(Lib.decDigits 1).toArray⟩:ByteArray)=⟨#[49]⟩:=by rw[Lib.decDigits_one Q5];rfl
theorem zAt:(⟨(Dy [97,98]).toArray⟩:ByteArray)=⟨#[54,49,54,50]⟩:=Q2
theorem Wg{m:Nat}{x:Value}(h:Qc w n m x):n<w.heap.size:=by
 unfold World.cell? at h;cases hb:w.heap[n]? with
 |none=>simp[hb] at h
 |some a=>exact Aj hb
theorem YR:Enters Tryz.prog 181:=enters_of Tryz.func181 Q2 rfl
theorem zpj:Enters Tryz.prog 186:=enters_of Tryz.func186 Q2 rfl
theorem zzk(W:World)(m:Int)(z:Qc W 0 0 (Qi m))(a:Nat)(T:ByteArray)(y:T=Ba (I8 1 [97,98]))(d:Qg W a (Rl T 0) 145) :
 Qk 75 #[Qp a 0,.string ⟨#[112,97,99,107,32,49,32,54,49,54,50]⟩] W λe f=>e=.returned (.string ⟨(Tn 0).toArray⟩)/\Qg f a (Rl T 1) 145/\Ab a W f:=by
 refine Sr false W m z a _ d ⟨#[112,97,99,107,32,49,32,54,49,54,50]⟩ Q5 Q5 Q5 [⟨#[49]⟩,⟨#[54,49,54,50]⟩] [112,97,99,107] (by decide+kernel) (by decide+kernel) [110,104] 181 (by simp[Gd]) (λh=>by cases h) rfl Q5 XT rfl ?_ ?_ YR _ ?_
 ·intro i n
  rcases i with - | - |i
  ·exact⟨_,_,_,_,rfl⟩
  ·exact⟨_,_,_,_,rfl⟩
  ·exact⟨_,_,_,_,rfl⟩
 ·intro i n b x l q g p _ _ o
  rcases i with - | - |i
  ·obtain rfl:(110:UInt8)=b:=by simpa using l
   obtain rfl:(⟨#[49]⟩:ByteArray)=x:=by simpa using q
   have h:=Pc g p 0 1 Q5 (λt _=>RV 1 Q5 t) _ _ _ _ o Q5
   rw[zAu] at h;refine h.mono ?_;rintro e f ⟨rfl,j,k⟩;exact⟨rfl,j,k⟩
  ·obtain rfl:(104:UInt8)=b:=by simpa using l
   obtain rfl:(⟨#[54,49,54,50]⟩:ByteArray)=x:=by simpa using q
   have h:=zyH g p 1 [97,98] Q5 Q5 _ _ _ _ o
   rw[zAt] at h;refine h.mono ?_;rintro e f ⟨rfl,j,k⟩;exact⟨rfl,j,k⟩
  ·simp at n
   omega
 ·intro g c
  refine(zpW g a _ (show 0<Ck.size by decide) (Al c d) ⟨#[97,98]⟩ Q5 1 Q5 Q5 _ _).mono ?_
  rintro e f ⟨rfl,A,r,s⟩;refine⟨⟨_,rfl⟩,Q2,?_,?_⟩
  ·have u:=Al r (Al c d)
   have v:=Ak u 0 (.string (Ba (I8 1 [97,98])));have w:=(s.block a (Aj (Al c d))).trans v;rw[y];exact w
  ·have B:=Aj d
   exact((Ab.of (c.trans (r.mono c.size))).set 0 _).below_then (s.mono c.size)
theorem zAR(W:World)(m:Int)(q:Qc W 0 0 (Qi m))(a:Nat)(T:ByteArray)(n:T=Ba (I8 1 [97,98]))(c:Qg W a (Rl T 1) 145) :
 Qk 75 #[Qp a 0,.string ⟨#[115,97,121]⟩] W λe f=>e=.returned (.string ⟨(Tn 1).toArray⟩)/\Qg f a (Rl T 2) 145/\Ab a W f:=by
 obtain⟨L,g,p,o,-⟩:=Y5 1 [97,98] Q5 Q5 Q5
 rw[<-n] at g;refine Sr false W m q a _ c ⟨#[115,97,121]⟩ Q5 Q5 Q5 [] [115,97,121] (by decide+kernel) (by decide+kernel) [] 186 (by simp[Gd]) (λh=>by cases h) rfl Q5 XT rfl ?_ ?_ zpj _ ?_
 ·intro i d
  obtain rfl:i=0:=by simpa using d
  exact⟨_,_,_,_,rfl⟩
 ·intro i d
  simp at d
 ·intro k b
  refine(zzf k a T L _ rfl (Al b c) g p _).mono ?_;rintro e f ⟨rfl,j⟩;rw[o];have l:=Al j (Al b c);exact⟨⟨_,rfl⟩,Q2,l,Ab.of (b.trans (j.mono b.size))⟩
theorem zsv(w:World)(m:Int)(f:Qc w 0 0 (Qi m)) :
 Qk 25 #[.string ⟨#[112,97,99,107,32,49,32,54,49,54,50,10,115,97,121,10]⟩] w λe l=>e=.returned (.tuple #[.string ⟨#[111,107,10,115,97,121,32,54,49,54,50,10]⟩,Qi 0])/\Qb w l:=by
 obtain⟨T,j⟩:∃T,T=Ba (I8 1 [97,98]):=⟨_,rfl⟩;have q:=Wg f
 refine(zvy w m f ⟨#[112,97,99,107,32,49,32,54,49,54,50,10,115,97,121,10]⟩ Q5 [⟨#[112,97,99,107,32,49,32,54,49,54,50,10]⟩,⟨#[115,97,121,10]⟩] (by decide+kernel) (by decide+kernel) Q5 Q5 Q5
  (λi a W=>Qg W a (Rl T i) 145) Tn (λi=>by unfold Tn;split<;>decide) (λa W _ _ h=>h) (λi a W h=>⟨_,h⟩) ?_ ?_).mono ?_
 ·intro i a b s W r h k o
  refine o a _ h (λe=>?_) (λc t e=>?_)
  ·cases e
   rw[h] at k;cases k
  ·cases e
 ·intro i x g a W d u h
  have n:Qc W 0 0 (Qi m):=(d.cell (p:=⟨0,0,none⟩) q).trans f;rcases i with - | - |i
  ·obtain rfl:(⟨#[112,97,99,107,32,49,32,54,49,54,50,10]⟩:ByteArray)=x:=by simpa using g
   exact zzk W m n a T j h
  ·obtain rfl:(⟨#[115,97,121,10]⟩:ByteArray)=x:=by simpa using g
   exact zAR W m n a T j h
  ·simp at g
 ·rintro e l ⟨rfl,d⟩
  exact⟨Q2,d⟩
theorem zAh(w:World)(v:Value)(d:Ac w w.heap.size v [1,1]):Qk 26 #[v,Qi 9] w λe a=>∃q c,e=.returned (.tuple #[.slice q 2 c,Qi 0])/\Qb w a:=by
 refine(zrM w v [1,1] 9 d Q5 Q5 Q5 Q5 Q5).mono ?_
 rintro e a ⟨q,c,rfl,-,b⟩;exact⟨q,c,rfl,b⟩
theorem zAy(w:World)(v:Value)(a:Ac w w.heap.size v [1]):Qk 27 #[v,Qi 2] w λe c=>e=.returned (.tuple #[.agg #[.string ⟨#[128]⟩,Qi 2],Qi 0])/\Qb w c :=
 (zkk w v [1] 2 a Q5 Q5 Q5 Q5).mono λ_ _ h=>⟨h.1.trans (Co (λb=>Ending.returned (.tuple #[.agg b,Qi 0])) (show #[Value.string (Ba (FX (List.range 6) [1])),Qi ((FX (List.range 6) [1]).length:Nat)]=#[.string ⟨#[128]⟩,Qi 2] by kernel_rfl)),h.2⟩
theorem zAz(w:World)(v:Value)(a:Ac w w.heap.size v [1,1]):Qk 28 #[v] w λe c=>e=.returned (.tuple #[.agg #[.string ⟨#[8]⟩,Qi 7],Qi 0])/\Qb w c :=
 (YP w v [1,1] a Q5 Q5 Q5).mono λ_ _ h=>⟨h.1.trans (Co (λb=>Ending.returned (.tuple #[.agg b,Qi 0])) (show #[Value.string (Ba (FT [1,1])),Qi ((FT [1,1]).length:Nat)]=#[.string ⟨#[8]⟩,Qi 7] by kernel_rfl)),h.2⟩
theorem zAY(w:World)(v:Value)(a:Ac w w.heap.size v [1]):Qk 29 #[.string ⟨#[97,98]⟩,v] w λe c=>e=.returned (.tuple #[.string ⟨#[98]⟩,Qi 0])/\Qb w c :=
 (zl7 ⟨#[97,98]⟩ v [1] w a Q5 Q5 Q5).mono λ_ _ h=>⟨h.1.trans (Co (λb=>Ending.returned (.tuple b)) (show #[Value.string ⟨(Kw [97,98] [1]).1.toArray⟩,Qi (Kw [97,98] [1]).2]=#[.string ⟨#[98]⟩,Qi 0] by kernel_rfl)),h.2⟩
theorem zA0(w:World):Qk 30 #[.string ⟨#[98,97]⟩,Qi 1] w λe a=>e=.returned (.tuple #[.string ⟨#[98,97]⟩,Qi 0])/\Qb w a :=
 (zni ⟨#[98,97]⟩ 1 w Q5 Q5).mono λ_ _ h=>⟨h.1.trans (Co (λb=>Ending.returned (.tuple #[.string ⟨b⟩,Qi 0])) (show(JI (DE ⟨#[98,97]⟩) 1).toArray=#[98,97] by kernel_rfl)),h.2⟩
theorem zAv(w:World)(v:Value)(a:Ac w w.heap.size v [1,1]):Qk 31 #[v] w λe c=>e=.returned (Qi 0)/\Qb w c :=
 (RI w v [1,1] a Q5).mono λ_ _ h=>⟨h.1.trans (Co (λb=>Ending.returned (Qi b)) (show KV [1,1]=0 by kernel_rfl)),h.2⟩
theorem zAD(w:World):Qk 22 #[.string ⟨#[]⟩] w λe a=>e=.returned (.int .u32 0)/\Qb w a :=
 (UL ⟨#[]⟩ Q5 w).mono λ_ _ h=>⟨h.1.trans (Co (λb=>Ending.returned (.int .u32 b)) (show((BG []:Nat):Int)=0 by kernel_rfl)),h.2⟩
theorem zxA(w:World):Qk 32 #[.string ⟨#[98,97]⟩] w λe a=>e=.returned (.string ⟨#[97,98]⟩)/\Qb w a :=
 (VJ w ⟨#[98,97]⟩ Q5).mono λ_ _ h=>⟨h.1.trans (Co (λb=>Ending.returned (.string ⟨b⟩)) (show(Bq [98,97]).toArray=#[97,98] by kernel_rfl)),h.2⟩
theorem zAo(w:World):Qk 33 #[Qi 3] w λe b=>∃q c,e=.returned (.slice q 2 c)/\Qb w b:=by
 refine(Wl 3 w Q5 Q5).mono ?_
 rintro e b ⟨u,rfl,a,d⟩;rw[show DA (3:Int).toNat=[0,0] by decide+kernel] at a
 obtain⟨q,c,rfl⟩:=a.shape;exact⟨q,c,rfl,d⟩
theorem zAM(w:World):Qk 34 #[.string ⟨#[97,98]⟩] w λe a=>∃q c,e=.returned (.slice q 2 c)/\Qb w a:=by
 refine(znv ⟨#[97,98]⟩ w Q5 Q5).mono ?_
 rintro e a ⟨q,c,rfl,-,b⟩;exact⟨q,c,rfl,b⟩
theorem ztr(w:World)(m:Int)(q:Qc w 0 0 (Qi m)):Qk 6 #[] w λe C=>e=.returned (.bool true)/\Qb w C:=by
 have z:=Aa (zsv w m q);clear q
 go_enter Tryz.func6,Tryz.ntmps6
 have i:=Aa (BL.nil w)
 go_wp2_with fail
 refine z.mono ?_;rintro e D ⟨rfl,a⟩;have j:=Aa (i.step a);clear i a;have c:=Aa (j.lit [1,1] #[Qi 1,Qi 1] (D.heap.size) Q6 rfl (by simp[maxLen]))
 clear j
 go_wp2_with fail
 refine(zAh _ _ (c.get 0 rfl)).mono ?_;rintro e E ⟨I,H,rfl,a⟩;have k:=Aa (c.step a);clear c a;have d:=Aa (k.lit [1] #[Qi 1] (E.heap.size) Q6 rfl (by simp[maxLen]))
 clear k
 go_wp2_with fail
 refine(zAy _ _ (d.get 0 rfl)).mono ?_;rintro e r ⟨rfl,a⟩;have l:=Aa (d.step a);clear d a;have n:=Aa (l.box #[.string ⟨#[128]⟩,Qi 2] 50 (r.heap.size) Q6)
 clear l;have f:=Aa (n.lit [1,1] #[Qi 1,Qi 1] (r.heap.size+1) Q6 rfl (by simp[maxLen]))
 clear n
 go_wp2_with fail
 refine(zAz _ _ (f.get 0 rfl)).mono ?_;rintro e s ⟨rfl,a⟩;have o:=Aa (f.step a);clear f a;have p:=Aa (o.box #[.string ⟨#[8]⟩,Qi 7] 50 (s.heap.size) Q6)
 clear o;have g:=Aa (p.lit [1] #[Qi 1] (s.heap.size+1) Q6 rfl (by simp[maxLen]))
 clear p
 go_wp2_with fail
 refine(zAY _ _ (g.get 0 rfl)).mono ?_;rintro e J ⟨rfl,a⟩;have t:=Aa (g.step a);clear g a
 go_wp2_with fail
 refine(zA0 _).mono ?_;rintro e F ⟨rfl,a⟩;have b:=Aa (t.step a);clear t a;have A:=b.cellv 1 rfl 1 _ rfl;have B:=b.cellv 0 rfl 1 _ rfl;have h:=Aa (b.lit [1,1] #[Qi 1,Qi 1] (F.heap.size) Q6 rfl (by simp[maxLen]))
 go_wp2_with fail
 refine(zAv _ _ (h.get 0 rfl)).mono ?_;rintro e K ⟨rfl,a⟩;have u:=Aa (h.step a);clear b h a A B
 go_wp2_with fail
 refine(zAD _).mono ?_;rintro e L ⟨rfl,a⟩;have v:=Aa (u.step a);clear u a
 go_wp2_with fail
 refine(zxA _).mono ?_;rintro e M ⟨rfl,a⟩;have x:=Aa (v.step a);clear v a
 go_wp2_with fail
 refine(zAo _).mono ?_;rintro e R ⟨P,N,rfl,a⟩;have y:=Aa (x.step a);clear x a
 go_wp2_with fail
 refine(zAM _).mono ?_;rintro e S ⟨Q,O,rfl,a⟩;have G:=Aa (y.step a);clear y a
 go_wp2
 go_ret
 exact⟨rfl,G.bel⟩
