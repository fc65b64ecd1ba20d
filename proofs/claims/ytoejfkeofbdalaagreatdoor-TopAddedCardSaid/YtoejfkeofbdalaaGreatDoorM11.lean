import Derived.Test.YtoejfkeofbdalaaGreatDoorM10
import Derived.Laws.BitsAllLaws
import Derived.Sort.QuietIn
import Derived.Lib.OthersKept
set_option linter.all false
set_option maxRecDepth 100000
set_option maxHeartbeats 8000000
namespace Go.Proofs.YtoejfkeofbdalaaGreatDoor
open Go.RowKit
variable {Q:Exit->Act->World->Prop} {e t:TypeId} {m n:Nat} {o:Act} {r:Array Oper} {s:List Value} {w:World} {x:Value}
theorem Rd.up{v:World}{k:Nat}(h:Rd w w.heap.size k x n s)(a:Qb w v):Rd v v.heap.size k x n s:=(Rd.below h a (Af _)).mono a.size
theorem Rd.isSlice{B:Nat}(h:Rd w B m x n s):∃q c,x=.slice q n c/\n<=c/\c<=maxLen:=by
 obtain⟨_,A,e,d,a,b,_⟩:=h;exact⟨A,e,d,a,b⟩
theorem Rd.len{B:Nat}(h:Rd w B m x n s):s.length=n*m:=h.1
theorem Rd.cellAt{B i j:Nat}{A:Option Addr}(h:Rd w B m (.slice A i j) n s)(p:0<n) :
 ∃g o,A=some ⟨g,o,none⟩/\g<B/\∀a x,s[a]?=some x->Qc w g (o+a) x:=by
 obtain⟨u,t,z,q,v,y,e⟩:=h;injection q with b c d
 subst b c d;obtain⟨g,o,f,l,k⟩:=e p;exact⟨g,o,f,l,λa x r=>k a x r⟩
structure Dh(t e:TypeId)(z:Value)(size bytes:Nat):Prop where
 under:Tryz.prog.underlying t=some (.slice e)
 info:(Tryz.prog.info? e).map (λi=>(i.zero,i.size,i.bytes))=some (some z,size,bytes)
 cells:z.cells.size=size
 pos:0<size
theorem EN{b:Nat}(h:w.ownsRow b e m x n s):∃q c,x=.slice q n c:=by
 obtain⟨q,c,a,_⟩:=(Rd.own h).isSlice;exact⟨q,c,a⟩
theorem JC{rest:List Oper}{f:Oper}{d:Nat}(E:Dh t e x d m)(M:f.guard=none)(s j:Operand)
 (D:f.op=.call { callee:=.builtin .append,args:=#[s,j],argTypes:=#[t,t] })
 (g:Nat) (v:Value) (n:Nat) (l:List Value) (G:o.eval s=v) (S:w.ownsRow g e d v n l)
 (B a:Nat) (u:Value) (i:List Value) (H:o.eval j=u) (F:Rd w B d u a i) (y:∀c∈i,c.oneCell'=true)
 (R:n+a<=17592186044416) (k:m<=8\/n+a<=1099511627776/\m<=128) (T:g<=w.heap.size)
 (h:∀q c b,b.ownsRow g e d (.slice q (n+a) c) (n+a) (l++i)->w.grownBy b v.ownBlock->((Value.slice q (n+a) c).ownBlock=v.ownBlock\/(Value.slice q (n+a) c).ownBlock=some w.heap.size)->wpList Tryz.prog r Q rest (o.put f.dst (.slice q (n+a) c)) b) :
 wpList Tryz.prog r Q (f::rest) o w:=by
 obtain⟨I,C,N,O,P⟩:=Ie E.info
 have L:(n+a)*m<=140737488355328:=by
  rcases k with k|⟨J,K⟩
  ·exact BU (Ou R k) Q0
  ·exact BU (Ou J K) Q0
 refine Tu M s j t D g e I x d m E.under C N O P E.cells E.pos v n l G S B a u i H F y (by unfold maxLen;omega) L T ?_
 intro U b p z A;obtain⟨q,c,rfl⟩:=EN p;exact h q c b p z A
theorem Tw{b:Oper}{K:Act->World->Prop}{y:Prop}{f:Nat}(E:Dh t e x f m)(R:b.guard=none)(s l:Operand)
 (F:b.op=.call { callee:=.builtin .append,args:=#[s,l],argTypes:=#[t,t] })
 (g:Nat) (v:Value) (n:Nat) (k:List Value) (H:o.eval s=v) (W:w.ownsRow g e f v n k)
 (B a:Nat) (u:Value) (i:List Value) (J:o.eval l=u) (G:Rd w B f u a i) (z:∀c∈i,c.oneCell'=true)
 (V:n+a<=17592186044416) (j:m<=8\/n+a<=1099511627776/\m<=128) (Y:g<=w.heap.size)
 (h:∀q c d,d.ownsRow g e f (.slice q (n+a) c) (n+a) (k++i)->w.grownBy d v.ownBlock->((Value.slice q (n+a) c).ownBlock=v.ownBlock\/(Value.slice q (n+a) c).ownBlock=some w.heap.size)->K (o.put b.dst (.slice q (n+a) c)) d) :
 if Region.wanted b (yielded r o.tmps)=true then Oper.wp Tryz.prog b o w K Q else y:=by
 have I:Region.wanted b (yielded r o.tmps)=true:=by simp[Region.wanted,R]
 rw[if_pos I];obtain⟨L,D,S,T,U⟩:=Ie E.info
 have O:(n+a)*m<=140737488355328:=by
  rcases j with j|⟨M,N⟩
  ·exact BU (Ou V j) Q0
  ·exact BU (Ou M N) Q0
 obtain⟨Z,d,X,p,A,C⟩:=Ru (P:=Tryz.prog) w g t b.type e L x f m E.under D S T U E.cells E.pos v n k W B a u i G z (by unfold maxLen;omega) O Y
 unfold Oper.wp execOp;simp only[F,resolve,invoke,builtin,Ml,Mk,KH,MZ,Dz,Jl,H,J,X];obtain⟨q,c,rfl⟩:=EN p;exact h q c d p A C
theorem GX{g:Nat}{h:Array Value}(a:Qg w g h t)(e:h.toList=s)(c:s.length=n*m)(b:n<=maxLen):Rd w w.heap.size m (Qs g 0 n n) n s:=by
 subst e
 exact⟨c,_,n,rfl,Af _,b,λ_=>⟨g,0,rfl,Aj a,λi u d=>by
  rw[DC,Ae a,<-Lj];exact d⟩⟩
def Jy(l:List Nat):List Value:=l.map λn=>Value.int .u32 (n:Nat)
theorem zxO(l:List Nat)(i x:Nat)(h:l[i]?=some x):(Jy l)[i]?=some (.int .u32 (x:Nat)):=by simp[Jy,h]
theorem zmT(l:List Nat)(x:Nat):Jy (l++[x])=Jy l++[.int .u32 (x:Nat)]:=by simp[Jy]
end Go.Proofs.YtoejfkeofbdalaaGreatDoor
namespace Go.Proofs.YtoejfkeofbdalaaGreatDoor
theorem V5(f:Nat->List Nat)(m:Nat):((List.range m).flatMap f).length=((List.range m).map λd=>(f d).length).sum:=by
 induction m with
 |zero=>rfl
 |succ m a=>rw[Fh,Iw,AJ,a,D3,Vi];simp
theorem znC(g:Nat->Nat){c m:Nat}(h:c<=m):((List.range c).map g).sum<=((List.range m).map g).sum:=by
 induction h with
 |refl=>exact Af _
 |step _ a=>rw[Fh,D3,Vi];omega
theorem Y0(g:Nat->Nat)(c:Nat):((List.range (c+1)).map g).sum=((List.range c).map g).sum+g c:=by
 rw[Fh,D3,Vi];simp
theorem zhd(f:Nat->List Nat)(m c r:Nat)(e:c<m)(g:r<(f c).length) :
 ((List.range m).flatMap f)[((List.range c).map λd=>(f d).length).sum+r]?=(f c)[r]?:=by
 induction m with
 |zero=>omega
 | succ m b =>
   rw[Fh,Iw]
   by_cases h:c<m
   ·have a:=znC (λd=>(f d).length) (show c+1<=m by omega)
    rw[Y0] at a;rw[FP (by rw[V5];omega)]
    exact b h
   ·obtain rfl:c=m:=Q0
    rw[F7 (by rw[V5];omega),V5]
    simp
def K6(L:List Nat)(c:Nat):Nat:=((List.range c).map λd=>L.count d).sum
theorem zmk(L:List Nat):K6 L 0=0:=rfl
theorem Wz(L:List Nat)(c:Nat):K6 L (c+1)=K6 L c+L.count c:=Y0 _ c
theorem zv9(L:List Nat)(c:Nat):K6 L c<=L.length:=by
 have h:∀c,K6 L c+(L.filter λx=>decide (c<=x)).length=L.length:=by
  intro c
  induction c with
  |zero=>rw[zmk];simp
  | succ c a =>
    rw[Wz]
    have:(L.filter λx=>decide (c<=x)).length=L.count c+(L.filter λx=>decide (c+1<=x)).length:=by
     clear a
     induction L with
     |nil=>rfl
     | cons x l a =>
       rw[Od,Tg,Tg];rcases KJ x c with h|h|h
       ·rw[if_neg (by simpa using h),if_neg Q4,if_neg Q4,a];omega
       ·subst h
        rw[if_pos Q6,if_pos Q6,if_neg Q6,Bt,a];omega
       ·rw[if_pos Q4,if_neg Q4,if_pos Q4,Bt,Bt,a];omega
    omega
 have:=h c;omega
def Ka(L:List Nat)(i:Nat):Nat:=K6 L (L[i]?.getD 0)+(L.take i).count (L[i]?.getD 0)
theorem Yo(L:List Nat)(i:Nat)(h:i<L.length):(L.take i).count (L[i]?.getD 0)<L.count (L[i]?.getD 0):=by
 obtain⟨x,a⟩:∃x,L[i]?=some x:=⟨_,Az h⟩;rw[a]
 have e:L=L.take i++x::L.drop (i+1):=by
  have:=(Cc.1 a).2;rw[<-this,List.getElem_cons_drop,Er]
 have:L.count x=(L.take i++x::L.drop (i+1)).count x:=by rw[<-e]
 simp only[Es];rw[this,Oo,Od];simp
theorem zvR(L:List Nat)(i:Nat)(h:i<L.length):Ka L i<L.length:=by
 have b:=Yo L i h;have a:=zv9 L (L[i]?.getD 0+1);rw[Wz] at a;unfold Ka;omega
theorem Xj(L:List Nat)(f:∀x∈L,x<256)(i:Nat)(h:i<L.length):(Ex L)[Ka L i]?=some i:=by
 obtain⟨x,b⟩:∃x,L[i]?=some x:=⟨_,Az h⟩;have a:=Yo L i h;have g:=f x (Cn b);unfold Ka;rw[b] at a |-;simp only[Es] at a |-;have c:=zhd (En L) 256 x ((L.take i).count x) g (by rw[Nq];exact a)
 have e:((List.range x).map λd=>(En L d).length).sum=K6 L x:=by
  unfold K6;rw[Gl λd _=>Nq L d]
 rw[e,TR L x i b] at c;exact c
theorem zvC(L:List Nat)(c:∀x∈L,x<256)(X:List Nat)(f:X.length=L.length)(h:∀i,i<L.length->X[Ka L i]?=some i):X=Ex L:=by
 have k:=TF L c;apply KF
 intro j
 by_cases g:j<L.length
 ·obtain⟨i,a⟩:∃i,(Ex L)[j]?=some i:=⟨_,Az Q0⟩
  have d:=(Qo L c i).1 (Cn a);have b:=Xj L c i d;have l:=zvR L i d
  have e:Ka L i=j:=by
   rw[Az Q0] at b a
   injection b with b
   injection a with a
   exact(List.getElem_inj (zkh L)).1 (b.trans a.symm)
  rw[a,<-e];exact h i d
 ·rw[EU Q0,EU Q0]
theorem zoC(L:List Nat)(a:∀x∈L,x<256)(j:Nat)(h:j<L.length):(Ex L)[j]?.getD 0<L.length:=by
 have b:=TF L a;rw[Az Q0]
 exact(Qo L a _).1 (Et Q0)
theorem zyc(L:List Nat)(b:∀x∈L,x<256)(i k:Nat)(c:i<L.length)(d:k<L.length)(h:Ka L i=Ka L k):i=k:=by
 have a:=Xj L b i c;rw[h,Xj L b k d] at a;injection a with a
 exact a.symm
theorem Zl(v:List Nat):∀k j,KT v (k+1) j=v[KT v k j]?.getD 0
 |0,j=>rfl
 | k+1,j=>by
   show KT v (k+1) (v[j]?.getD 0)=_
   rw[Zl v k];rfl
end Go.Proofs.YtoejfkeofbdalaaGreatDoor
namespace Go.Proofs.YtoejfkeofbdalaaGreatDoor
open Go.RowKit
variable {a:Type} {f:List Nat} {m t:Nat}
theorem zo3(w:World)(d:Nat)(a:Addr)(l c:Nat):(Op.equalIn (d+1) 67 (.slice (some a) l c) (.slice none 0 0)).run Tryz.prog w=.ok false w:=by
 simp[Op.equalIn,Kl R9]
theorem ztT(w:World)(a:Addr)(l c:Nat):(Op.equal 67 (.slice (some a) l c) (.slice none 0 0)).run Tryz.prog w=.ok false w:=zo3 w 9999 a l c
theorem zzL(w:World)(a:Addr)(l c:Nat):(binOp .eql 67 (.slice (some a) l c) (.slice none 0 0)).run Tryz.prog w=.ok (.bool false) w:=by
 simp[binOp,ztT w a l c]
theorem WD(w:World)(v:Value)(a:List Int)(b:Ac w w.heap.size v a)(l:0<a.length)(u:a.length<=1000000) :
 Qk 78 #[v] w λe p=>∃q c,e=.returned (.slice q a.length c)/\Ad p w.heap.size (.slice q a.length c) a/\Qb w p:=by
 obtain⟨A,j,rfl,z,C⟩:=b.shape;obtain⟨g,o,rfl,D,s⟩:=b.at 0 l;have i:Hid (Ac (w.alloc (.cells #[] 3)) (w.alloc (.cells #[] 3)).heap.size (Qs g o a.length j) a):=DS b ((Ag _ _).alloc (Af _) (.cells #[] 3));have HE:Hid (Ad (w.alloc (.cells #[] 3)) w.heap.size (Qs w.heap.size 0 0 0) []):=Ad.new w w.heap.size [] #[] _ _ rfl rfl rfl (by simp[maxLen]) (Af _)
 obtain⟨N,f⟩:=Qe a.length;rw[f] at i z u |-;have h:=Aa f;have E:∀W,(binOp .eql 67 (Qs g o N j) (.slice none 0 0)).run Tryz.prog W=.ok (.bool false) W:=λW=>zzL W _ _ _;clear b s f l
 go_enter Tryz.func78,Tryz.ntmps78
 go_wp2_with
  (at_builtin
   refine KN rfl _ _ rfl w.heap.size _ [] rfl HE.out _ _ a rfl i.out (by rw[h.out];simp;omega) Q6 ?_
   intro q c x d m y;rw[show([]:List Int).length+a.length=N by rw[h.out];exact DC _] at d |-
   rw[C6] at d;have B:=Aa d;have r:Hid (Qb w x):=PZ m ((Ag _ _).alloc (Af _) _) (λk t=>Dm HE.out t);clear d m y)
 go_ret
 exact⟨q,c,rfl,B.out,r.out⟩
def M6(c:Nat):Nat:=if c &&& 2147483648=0 then c*2%4294967296 else(c*2%4294967296)^^^ 79764919
theorem zyu(c:Nat):M6 c<4294967296:=by
 unfold M6;split
 ·omega
 ·exact Rc (n:=32) Q0 Q0
def Vw:Nat->Nat->Nat
 |0,c=>c
 |k+1,c=>M6 (Vw k c)
def Kz(i:Nat):Nat:=Vw 8 (i*16777216)
theorem ztG(i:Nat):Kz i<4294967296:=zyu _
theorem zo0(i:Nat)(u:i<256)(w:World) :
 Qk 131 #[Qi (i:Nat)] w λe t=>e=.returned (.int .u32 (Kz i:Nat))/\w=t:=by
 go_enter Tryz.func131,Tryz.ntmps131
 go_wp2_with fail
 go_loopw [3,7] (λo g wr=>∃k c:Nat,k<=8/\c<4294967296/\g=Qi k/\o=.int .u32 (c:Nat)/\Hid (c=Vw k (i*16777216))/\Hid (wr=w)) (λ_ g _=>9-(intOf g).toNat)
 case atStart=>exact⟨0,i*16777216,Q0,Q0,rfl,by rw[Int.natCast_mul];rfl,rfl,rfl⟩
 case round =>
  obtain⟨k,c,v,q,rfl,rfl,b,m⟩:=hrel;have s:wr=w:=m;subst s;have l:=zyu c
  by_cases x:k<8
  ·have f:=u32_and_nat c 2147483648 q Q0
   have j:=Aa f
   by_cases a:c &&& 2147483648=0
   ·have d:Hid (((c:Int)*2%4294967296)=((M6 c:Nat):Int)):=by
     show _=_
     unfold M6;rw[if_pos a];omega
    have r:(bits BinOp.and IntKind.u32 (c:Int) 2147483648 ==0)=true:=by
     rw[FQ];have:=j.out;rw[a] at this;exact this
    clear f a
    go_wp2_with fail
    rw[d.out]
    go_roundw
    case rel=>exact⟨k+1,M6 c,Q0,l,by go_num,rfl,by show _=_;rw[b.out];rfl,by first|rfl|exact True.intro⟩
    case measure=>simp[intOf];omega
   ·have d:Hid (bits BinOp.xor IntKind.u32 ((c:Int)*2%4294967296) 79764919=((M6 c:Nat):Int)):=by
     show _=_
     unfold M6;rw[if_neg a];have:=u32_xor_nat (c*2%4294967296) 79764919 Q0 Q0
     rw[<-this];congr 1
    have r:(bits BinOp.and IntKind.u32 (c:Int) 2147483648 ==0)=false:=by
     rw[Ez];intro h;have p:=j.out;rw[show((2147483648:Nat):Int)=2147483648 from rfl,h] at p
     omega
    clear f a
    go_wp2_with fail
    rw[d.out]
    go_roundw
    case rel=>exact⟨k+1,M6 c,Q0,l,by go_num,rfl,by show _=_;rw[b.out];rfl,by first|rfl|exact True.intro⟩
    case measure=>simp[intOf];omega
  ·obtain rfl:k=8:=Q0
   go_wp2_with fail
   go_ret
   exact⟨by rw[b.out];rfl,rfl⟩
theorem zjC:Enters Tryz.prog 131:=enters_of Tryz.func131 Q2 rfl
def Ip(k:Nat):Array Value:=((List.range 256).map λi=>Value.int .u32 ((if i<k then Kz i else 0:Nat):Int)).toArray
theorem Qa(k:Nat):(Ip k).size=256:=by simp only[Ip,F6,Da,Gn]
theorem RW(k i:Nat)(h:i<256):(Ip k)[i]?=some (.int .u32 ((if i<k then Kz i else 0:Nat):Int)):=by
 unfold Ip;rw[JM,EA,Ji h];rfl
theorem zp4(k:Nat):(Ip k).all (·.oneCell')=true:=by
 unfold Ip;rw[List.all_toArray,List.all_eq_true];intro v a;obtain⟨i,_,rfl⟩:=C8.1 a;rfl
theorem zwv(k:Nat)(c:k<256):(Ip k).setIfInBounds k (.int .u32 (Kz k:Nat))=Ip (k+1):=by
 apply KK
 intro i;rw[MU]
 by_cases b:i<256
 ·rw[RW _ _ b,RW _ _ b,Qa]
  by_cases h:k=i
  ·subst h;simp[c]
  ·rw[if_neg h]
   by_cases a:i<k
   ·rw[if_pos a,if_pos Q0]
   ·rw[if_neg a,if_neg Q0]
 ·rw[IK (by rw[Qa];omega),IK (by rw[Qa];omega),if_neg Q0]
theorem zqb:(Tryz.prog.info? 228).map (·.size)=some 256:=Q2
theorem zxC:Ip 0=(List.replicate 256 (Value.int .u32 0)).toArray:=by
 apply KK
 intro i
 by_cases a:i<256
 ·rw[RW _ _ a,if_neg Q0,JM,Ll,if_pos a];rfl
 ·rw[IK (by rw[Qa];omega),IK (by rw[F6,Jg];omega)]
theorem zym:∀W,(zeroValue 228).run Tryz.prog W=.ok (.agg (Ip 0)) W:=λW=>by rw[zxC];kernel_rfl
theorem zoQ(w:World) :
 Qk 130 #[.func (.func 131) #[] #[]] w λe x=>e=.returned (.agg (Ip 256))/\Qb w x:=by
 have v:=zym;obtain⟨Z,d⟩:=Qe (Ip 0);rw[d] at v;have s:=Aa d;clear d;have D:=zjC;unfold Enters at D
 go_enter Tryz.func130,Tryz.ntmps130
 go_wp2_with fail
 have m:Qg (w.alloc (.cells Z 228)) w.heap.size Z 228:=Am _ _ _ rfl
 go_loopw [4] (λi wr=>∃k:Nat,k<=256/\i=Qi k/\Hid (Qg wr w.heap.size (Ip k) 228)/\Hid (Qb w wr)) (λi _=>257-(intOf i).toNat)
 case atStart=>exact⟨0,BI _,rfl,by rw[s.out];exact m,(Ag _ _).alloc (Af _) _⟩
 case round =>
  clear m;obtain⟨k,I,rfl,a,g⟩:=hrel
  by_cases f:k<256
  ·have H:=(Ae a.out k).trans (RW _ _ f)
   have L:=Ah a.out k;have G:=Aa (Ak a.out k (.int .u32 (Kz k:Nat)));have r:=Aa (zwv k f);have C:=Aa (zo0 k f wr);have M:(0:Int)<=(k:Int):=Q0
   have N:(k:Int)<256:=Q0
   generalize Kz k=t at*
   generalize(if k<k then t else 0)=u at*
   go_wp2_with fail
   refine C.out.mono ?_;rintro e J ⟨rfl,rfl⟩
   go_wp2_with fail
   go_roundw
   case rel=>exact⟨k+1,Q0,by go_num,by show _=_;rw[<-r.out];exact G.out,g.out.setCell (p:=⟨w.heap.size,_,none⟩) (Af _) _⟩
   case measure=>simp[intOf];omega
  ·obtain rfl:k=256:=Q0
   obtain⟨S,b⟩:=Qe (Ip 256);rw[b] at a;have A:=Aa b;have l:S.size=256:=by rw[<-b];exact Qa _
   have j:S.all (·.oneCell')=true:=by rw[<-b];exact zp4 _
   have h:(Tryz.prog.info? 228).map (·.size)=some S.size:=by rw[l];exact zqb
   have c:=Aa h;have z:=Aa j;clear b l h j
   go_wp2_with
    (first
      |(refine Ot rfl 228 _ rfl w.heap.size rfl _ S _ _ a.out Tryz.underlying228 rfl c.out ?_)
      |(refine Rq rfl 228 _ _ rfl w.heap.size S S _ rfl rfl a.out rfl c.out z.out ?_
        intro K q F E o;have B:=Aa q;have y:=Aa (o _ _ (Af _) g.out);clear q F E o))
   refine BV (Tk rfl _ _ w.heap.size _ S _ _ rfl B.out Tryz.underlying228 rfl c.out) rfl ⟨by rw[A.out],y.out⟩
def QH(c:Nat):Nat:=4294967295 ^^^ c
theorem Xr(c:Nat)(h:c<4294967296):QH c<4294967296:=Rc (n:=32) Q0 h
theorem zvr(c:Nat)(h:c<4294967296):bits BinOp.xor IntKind.u32 IntKind.u32.max (c:Int)=((QH c:Nat):Int):=u32_xor_nat 4294967295 c Q0 h
def MR(c:Nat)(b:UInt8):Nat:=(c*256%4294967296)^^^ Kz ((c / 16777216)^^^ b.toNat)
theorem zt6(c:Nat)(b:UInt8):MR c b<4294967296:=Rc (n:=32) Q0 (ztG _)
def U0(c:Nat)(s:List UInt8):Nat:=QH (s.foldl MR (QH c))
def BG(s:List UInt8):Nat:=U0 0 s
theorem zlS(s:List UInt8)(c:Nat)(h:c<4294967296):s.foldl MR c<4294967296:=by
 induction s generalizing c with
 |nil=>exact h
 |cons b s a=>exact a _ (zt6 c b)
theorem Qu(s:List UInt8):BG s<4294967296:=Xr _ (zlS s _ (Xr 0 Q0))
theorem zxV(a:Nat)(C:a<4294967296)(s:ByteArray)(hs:s.size<=281474976710656)(w:World) :
 Qk 72 #[.int .u32 (a:Nat),.string s] w λe Q=>e=.returned (.int .u32 (U0 a s.data.toList:Nat))/\Qb w Q:=by
 have p:=Aa (zoQ w);have o:=Qa 256;have y:∀i,i<256->(Ip 256)[i]?=some (.int .u32 (Kz i:Nat)):=λi r=>by rw[RW _ _ r,if_pos r]
 have z:(Tryz.prog.info? 228).map (·.size)=some (Ip 256).size:=by rw[o];exact zqb
 have X:=Aa (zp4 256);obtain⟨b0,N⟩:=Qe (Ip 0);generalize Ip 256=S at*
 have V:=Aa o;have W:=Aa y;have Y:=Aa z;clear o y z N
 go_enter Tryz.func72,Tryz.ntmps72
 go_wp2_with fail
 refine p.out.mono ?_;rintro e g ⟨rfl,x⟩;have u:=Aa x;clear x p;have F:=u.out.size;have G:Qg (g.alloc (.cells Tryz.zeroCells228 228)) g.heap.size Tryz.zeroCells228 228:=Am _ _ _ rfl;have H:Tryz.zeroCells228.size=S.size:=by rw[V.out];kernel_rfl
 have Z:=Aa G;have a0:=Aa H;have T:Hid (Qb w (g.alloc (.cells Tryz.zeroCells228 228))):=u.out.alloc F _;clear G H
 go_wp2_with
  (refine Rq rfl 228 _ _ rfl g.heap.size S _ _ rfl rfl Z.out a0.out Y.out X.out ?_
   intro t D a6 a4 A;have a1:=Aa D;have R:=Aa (A _ _ F T.out);clear D a6 a4 A)
 obtain⟨f,h⟩:=Qe (QH a);have a9:f<4294967296:=by rw[<-h];exact Xr a C
 have U:=Aa h;have v:=Aa (zvr a C);rw[h] at v;clear h
 go_loopw [0,6,12] (λM b2 m wr=>∃k c:Nat,k<=s.size/\c<4294967296/\m=Qi k/\M=.int .u32 (c:Nat)/\Hid (c=(s.data.toList.take k).foldl MR f)/\Hid (wr=t)) (λ_ _ m _=>s.size+1-(intOf m).toNat)
 case atStart=>exact⟨0,f,Q0,a9,rfl,by rw[v.out],rfl,rfl⟩
 case round =>
  obtain⟨k,c,hk,O,rfl,rfl,q,K⟩:=hrel;have P:wr=t:=K;subst P
  by_cases a5:k<s.size
  ·obtain⟨b,l⟩:=Qe (s[k])
   have B:b.toNat<256:=UInt8.toNat_lt b;obtain⟨j,d⟩:=Qe ((c / 16777216)^^^ b.toNat);have a3:j<256:=by rw[<-d];exact Rc (n:=8) Q0 B
   have hx:bits BinOp.xor IntKind.u8 ((c:Int)/ 16777216) (s[k].toNat:Int)=(j:Int):=by
    have:=u8_xor_nat (c / 16777216) b.toNat Q0 B
    rw[d] at this;rw[l,<-this];congr 1
   have b6:=(Ae a1.out j).trans (W.out j a3);have a7:=ztG j
   have E:s.data.toList.take (k+1)=s.data.toList.take k++[b]:=by
    rw[Ep (by simpa using a5),<-l];rfl
   have J:Hid ((s.data.toList.take (k+1)).foldl MR f=MR c b):=by
    show _=_
    rw[E,Te,<-q.out];rfl
   have a2:=zt6 c b
   have b5:bits BinOp.xor IntKind.u32 ((c:Int)*256%4294967296) (Kz j:Int)=((MR c b:Nat):Int):=by
    have:=u32_xor_nat (c*256%4294967296) (Kz j) Q0 a7
    unfold MR;rw[d,<-this];congr 1
   generalize Kz j=b1 at*
   generalize MR c b=L at*
   have b3:(0:Int)<=(j:Int):=Q0
   have b4:(j:Int)<256:=Q0
   clear l d E
   go_wp2_with fail
   go_roundw
   case rel=>exact⟨k+1,L,Q0,a2,by go_num,rfl,J.out.symm,by first|rfl|exact True.intro⟩
   case measure=>simp[intOf];omega
  ·obtain rfl:k=s.size:=Q0
   have a8:Hid (QH c=U0 a s.data.toList):=by
    show _=_
    unfold U0;rw[U.out,q.out,BR Q6]
   have I:=Aa (zvr c O)
   go_wp2_with fail
   go_ret
   exact⟨by rw[I.out,a8.out];rfl,R.out⟩
theorem UL(s:ByteArray)(b:s.size<=281474976710656)(w:World) :
 Qk 22 #[.string s] w λe c=>e=.returned (.int .u32 (BG s.data.toList:Nat))/\Qb w c:=by
 have C:=Aa (zxV 0 Q0 s b w)
 go_enter Tryz.func22,Tryz.ntmps22
 go_wp2_with fail
 refine C.out.mono ?_;rintro e d ⟨rfl,a⟩
 go_wp2_with fail
 go_ret
 exact⟨rfl,a⟩
def KD(p:List Nat)(k:Nat):List Nat:=p.getD k 0::(p.take k++p.drop (k+1))
def Il(k:Nat):List Bool:=List.replicate k true++[false]
def FX:List Nat->List Nat->List Bool
 |_,[]=>[]
 |p,n::ns=>Il (p.idxOf n)++FX (KD p (p.idxOf n)) ns
def LZ(t:Nat)(p:List Nat):Prop:=p.length=6/\(p.take t).Perm (List.range t)/\p.drop t=List.range' t (6-t)
theorem RF(t:Nat)(h:t<=6):LZ t (List.range 6):=by
 refine⟨Q6,?_,?_⟩
 ·rw[List.take_range,Fs h]
 ·rw[List.range_eq_range',List.drop_range']
  congr 1
  omega
theorem Ut(h:LZ t f)(o:t<=6)(l:m<t):LZ t (KD f m):=by
 obtain⟨k,b,c⟩:=h;have j:m<f.length:=Q0
 have e:f.getD m 0=f[m]:=by rw[Cx,Az j];rfl
 have i:f.take t=f.take m++f[m]::(f.take t).drop (m+1):=by
  have:=Er m (f.take t);rw[List.take_take,Fs Q0] at this
  rw[IJ (by rw[BO];omega)] at this
  rw[Ob] at this;exact this.symm
 have d:f.drop (m+1)=(f.take t).drop (m+1)++f.drop t:=by
  conv=>lhs;rw[<-Er t f]
  rw[Pt (by rw[BO];omega)]
 have a:KD f m=(f[m]::(f.take m++(f.take t).drop (m+1)))++f.drop t:=by
  unfold KD;rw[e,d];simp
 have g:(f[m]::(f.take m++(f.take t).drop (m+1))).length=t:=by
  simp only[Bt,AJ,BO,D9];omega
 refine⟨?_,?_,?_⟩
 ·rw[a,AJ,g,D9]
  omega
 ·rw[a,QN Q0,BR Q0]
  refine Vj ?_ b
  conv=>rhs;rw[i]
  exact List.perm_middle.symm
 ·rw[a,Pt Q0,Py Q0,C6,c]
theorem U4{n:Nat}(h:LZ t f)(k:t<=6)(g:n<t):f.idxOf n<t/\f.getD (f.idxOf n) 0=n:=by
 obtain⟨i,e,j⟩:=h;have b:n∈f.take t:=e.mem_iff.2 (EB.2 g)
 have a:f.idxOf n=(f.take t).idxOf n:=by
  conv=>lhs;rw[<-Er t f]
  rw[List.idxOf_append,if_pos b]
 have c:(f.take t).idxOf n<(f.take t).length:=List.idxOf_lt_length_of_mem b;have d:f.idxOf n<f.length:=by rw[a];rw[BO] at c;omega
 refine⟨by rw[a];rw[BO] at c;omega,?_⟩
 rw[Cx,Az d,Es];exact List.getElem_idxOf d
theorem zzO(h:LZ t f)(k:t<=6)(j:m<t):f.getD m 0<t/\f.idxOf (f.getD m 0)=m:=by
 obtain⟨g,a,i⟩:=h;have d:m<f.length:=Q0
 have b:f.getD m 0=(f.take t)[m]'(by rw[BO];omega):=by
  rw[Cx,Az d,Ob];rfl
 have c:(f.take t)[m]'(by rw[BO];omega)∈f.take t:=Et _
 refine⟨by rw[b];exact EB.1 (a.mem_iff.1 c),?_⟩
 have e:(f.take t).Nodup:=a.nodup_iff.2 QS
 conv=>lhs;arg 2;rw[<-Er t f]
 rw[b,List.idxOf_append,if_pos c];exact e.idxOf_getElem m _
def GA(t:Nat):Nat->List Bool->Except Int (Nat × List Bool)
 |_,[]=>.error 2
 |k,false::r=>.ok (k,r)
 |k,true::r=>if k+1=t then .error 3 else GA t (k+1) r
def K0{a:Type}(l:List Nat):Except Int (List Nat × a)->Except Int (List Nat × a)
 | .error e=>.error e
 | .ok (m,x)=>.ok (l++m,x)
theorem zxt(r:Except Int (List Nat × a)):K0 [] r=r:=by
 cases r with
 |error e=>rfl
 |ok p=>rfl
theorem zvk(l m:List Nat)(r:Except Int (List Nat × a)):K0 l (K0 m r)=K0 (l++m) r:=by
 cases r with
 |error e=>rfl
 |ok p=>simp[K0]
def GH(t:Nat):Nat->List Nat->List Bool->Except Int (List Nat × List Bool)
 |0,_,b=>.ok ([],b)
 | c+1,p,b =>
   match GA t 0 b with
   | .error e=>.error e
   | .ok (k,r)=>K0 [p.getD k 0] (GH t c (KD p k) r)
theorem zpv(t k:Nat):∀(d:Nat)(r:List Bool),k+d<t->GA t d (Il k++r)= .ok (d+k,r):=by
 induction k with
 |zero=>intro d r _;rfl
 | succ k a =>
   intro d r h;have e:Il (k+1)++r=true::(Il k++r):=by simp[Il,Oi]
   rw[e,GA,if_neg Q0,a _ _ Q0]
   congr 2
   omega
theorem G6(t:Nat):∀(b q:List Bool)(d k:Nat)(r:List Bool),GA t d (b++q)= .ok (k,r)->(∃c,r=c++q/\GA t d b=.ok (k,c))\/(r.length<q.length/\GA t d b=.error 2):=by
 intro b
 induction b with
 | nil =>
   intro q d k r h
   right
   refine⟨?_,rfl⟩;rw[C6] at h;exact lt_of q _ k r h
 | cons x b e =>
   intro q d k r h;cases x with
   | false =>
     simp only[Di,GA,Mg,Mi] at h;obtain⟨rfl,rfl⟩:=h;exact .inl ⟨b,rfl,rfl⟩
   | true =>
     simp only[Di,GA] at h |-
     by_cases a:d+1=t
     ·rw[if_pos a] at h;cases h
     ·rw[if_neg a] at h |-
      exact e _ _ _ _ h
where
 lt_of:∀(q:List Bool)(d k:Nat)(r:List Bool),GA t d q=.ok (k,r)->r.length<q.length:=by
  intro q
  induction q with
  |nil=>intro d k r h;simp[GA] at h
  | cons x q ih =>
    intro d k r h;cases x with
    | false =>
      simp only[GA,Mg,Mi] at h;obtain⟨rfl,rfl⟩:=h;simp
    | true =>
      simp only[GA] at h
      by_cases he:d+1=t
      ·rw[if_pos he] at h;cases h
      ·rw[if_neg he] at h
       have:=ih _ _ _ h;simp only[Bt];omega
theorem zu4(t:Nat)(d:t<=6)(a:List Nat):∀(p:List Nat)(r:List Bool),LZ t p->(∀n∈a,n<t)->GH t a.length p (FX p a++r)= .ok (a,r):=by
 induction a with
 |nil=>intro p r _ _;rfl
 | cons n a h =>
   intro p r c b;obtain⟨e,f⟩:=U4 c d (b n Q6)
   rw[FX,Bt,GH,BN,zpv t _ 0 _ Q0]
   simp only[DC];rw[f,h _ r (Ut c d e) λm g=>b m (by simp[g])]
   rfl
theorem KM(t:Nat)(c:Nat):∀(p:List Nat)(b q:List Bool)(l:List Nat)(r:List Bool),GH t c p (b++q)= .ok (l,r)->(∃d,r=d++q/\GH t c p b=.ok (l,d))\/(r.length<q.length/\GH t c p b=.error 2):=by
 induction c with
 | zero =>
   intro p b q l r h;simp only[GH,Mg,Mi] at h;obtain⟨rfl,rfl⟩:=h;exact .inl ⟨b,rfl,rfl⟩
 | succ c m =>
   intro p b q l r h;rw[GH] at h |-;cases ho:GA t 0 (b++q) with
   |error e=>rw[ho] at h;cases h
   | ok z =>
     obtain⟨k,g⟩:=z;rw[ho] at h;simp only at h;cases hs:GH t c (KD p k) g with
     |error e=>rw[hs] at h;cases h
     | ok z =>
       obtain⟨u,o⟩:=z;rw[hs] at h;simp only[K0,Mg,Mi] at h;obtain⟨rfl,rfl⟩:=h;rcases G6 t _ _ _ _ _ ho with⟨d,rfl,f⟩|⟨f,i⟩
       ·rw[f]
        simp only;rcases m _ _ _ _ _ hs with⟨s,rfl,a⟩|⟨a,j⟩
        ·exact .inl ⟨s,rfl,by rw[a];rfl⟩
        ·exact .inr ⟨a,by rw[j];rfl⟩
       ·rw[i]
        have:o.length<=g.length:=len_le c _ _ _ _ hs;exact .inr ⟨Q0,rfl⟩
where
 len_le:∀(c:Nat)(p:List Nat)(b:List Bool)(l:List Nat)(r:List Bool),GH t c p b=.ok (l,r)->r.length<=b.length:=by
  intro c
  induction c with
  | zero =>
    intro p b l r h;simp only[GH,Mg,Mi] at h;obtain⟨rfl,rfl⟩:=h;exact Af _
  | succ c ih =>
    intro p b l r h;rw[GH] at h;cases ho:GA t 0 b with
    |error e=>rw[ho] at h;cases h
    | ok z =>
      obtain⟨k,r1⟩:=z;rw[ho] at h;simp only at h;cases hs:GH t c (KD p k) r1 with
      |error e=>rw[hs] at h;cases h
      | ok z =>
        obtain⟨l1,r2⟩:=z;rw[hs] at h;simp only[K0,Mg,Mi] at h;obtain⟨rfl,rfl⟩:=h;have h1:=ih _ _ _ _ hs;have h2:=G6.lt_of t _ _ _ _ ho;omega
theorem YT(k:Nat):(Il k).length=k+1:=by simp[Il]
theorem ztm(k:Nat)(h:k<=5):B.low (2 ^ (k+1)-2) (k+1)=Il k:=by
 have:∀k:Fin 6,B.low (2 ^ (k.val+1)-2) (k.val+1)=Il k.val:=Q5
 exact this ⟨k,Q0⟩
end Go.Proofs.YtoejfkeofbdalaaGreatDoor
namespace Go.Proofs.YtoejfkeofbdalaaGreatDoor
open Go.RowKit Go.Shelf
attribute [local go_sem] Oper.semAt_some
variable {w:World}
def XE{d:Type}(m:Nat)(n:Nat)(g:Nat)(o:Array Value)(q:d->Array Value)(j:d->World->Prop)(i:World->World->Prop)(S k:List d->Prop)(N:Nat)(p:World):Prop :=
 ∀(l:Nat)(J f:List d->World->Prop)(W:World),Qb p W->(∀s A B,J s A->Qb A B->J s B)->(∀s A B,f s A->Qb A B->f s B)->(∀s A u,J s A->J s (A.setCell ⟨m,0,none⟩ u))->
  (∀b x c,J b c->b.length<N->j x c->YieldAt Fence.wide (n-1) Tryz.prog l (q x) c λe a=>(e=.returned (.bool true)/\J (b++[x]) a/\i c a/\c.heap.size<=a.heap.size)\/(e=.returned (.bool false)/\f (b++[x]) a))->
  J [] W->CallsIn Fence.wide n Tryz.prog g (#[.func (.yield l) #[] #[]]++o) W λe a=>(∃v,e=.returned v)/\((∃h,S h/\J h a)\/(∃b,k b/\f b a))
variable {n:Nat}
theorem Bf.far{D m:Nat}{o:Obj}(h:Bf D o w)(a:m<D)(u:Value):Bf D o (w.setCell ⟨m,0,none⟩ u):=⟨(Bg _ _ _ _ (by show D+1≠m;omega)).trans h.1,(Bg _ _ _ _ (by show D≠m;omega)).trans h.2⟩
theorem Ug{b:Type}{ib:Nat}{g:Operand}{f:Array Tmp}{m j:Go.Code}{Q:Exit->Act->World->Prop}{o:Act}(X:1<=n)
 {gf:Nat} {lb:Array Value} (hg:o.eval g=.func (.func gf) #[] lb) (U:Enters Tryz.prog gf) {encs:b->Array Value} (a7:∀x,(encs x).size=f.size) (H:b->World->Prop) (G:Nat->Prop) {S O:List b->Prop} {k:Nat} {v:World}
 (a9:XE ib (n-1) gf lb encs H (Ao G) S O k v) (R:Qb v w) (a5:ib<w.heap.size)
 (I:List b->World->Prop) (q:Go.Code->List b->World->Prop) (E:OwnFrom w.heap.size I) (a2:∀s A u,I s A->I s (A.setCell ⟨ib,0,none⟩ u)) (L:∀c,OwnFrom w.heap.size (q c)) (V:I [] w) (z:b->Act->World->Prop) (a1:∀x d,OwnFrom w.heap.size (λ(_:Unit) W=>z x d W))
 (b3:∀(l:Nat)(a:List b)(x:b)(W:World)(K:Act->World->Prop),I a W->H x W->w.heap.size+1<W.heap.size->(∀d r,KeepsFrom w.heap.size W r->Ao G W r->I a r->z x d r->K d r)->
   m.wpIn (Fence.wide.inRound l) (n-1-1) Tryz.prog (Exit.then K (λ_ _ _=>False)) { tmps:=(f.zip (encs x)).foldl (λt (p,N)=>t.setIfInBounds p N) o.tmps,defers:=[] } W)
 (b0:∀(l:Nat)(a:List b)(x:b)(d:Act)(W:World),I a W->z x d W->w.heap.size+1<W.heap.size->a.length<k->j.wpIn (Fence.wide.inRound l) (n-1-1) Tryz.prog (ownPostG w.heap.size (Ao G) I q (a++[x]) W) d W)
 (b1:∀(D:Nat)(F:List b)(W:World),w.heap.size<=D->S F->I F W->Qh W D (.deferred (some []))->Q .normal { o with defers:={ target:=.collected D,args:=#[] }::o.defers } W)
 (b2:∀(D:Nat)(c:Go.Code)(a:List b)(W:World),w.heap.size<=D->O a->q c a W->Qh W D (.deferred (some []))->c.wpIn Fence.wide n Tryz.prog Q { o with defers:={ target:=.collected D,args:=#[] }::o.defers } W) :
 (Code.rangeFunc g f m j).wpIn Fence.wide n Tryz.prog Q o w:=by
 refine wpIn_rangeFunc ?_;intro B b7;obtain⟨i,M⟩:=Qe ((w.alloc (.deferred (some []))).alloc (DT B o.tmps f m j w.heap.size .ready none));have P:Qb w i:=by rw[<-M];exact((Ag _ w).alloc (Af _) _).alloc Q6 _
 have a3:Bf w.heap.size (DT B o.tmps f m j w.heap.size .ready none) i:=by
  rw[<-M];exact⟨Am _ _ _ Q6,Bb _ (Am _ _ _ rfl)⟩
 refine⟨w.heap.size+1,[{ target:=.collected w.heap.size,args:=#[] }],i,{ target:=.fn (.func gf) lb,args:=#[.func (.yield (w.heap.size+1)) #[] #[]] },i,gf,
  #[.func (.yield (w.heap.size+1)) #[] #[]]++lb,i,?_,?_,?_,?_,λ_=>X,?_⟩
 ·rw[<-M];exact SS _ _ _ _ _
 ·simp only[resolve,hg]
  simp[go_sem]
 ·intro b6 T;simp[Target.leads] at T;subst T;trivial
 ·have:=U
  unfold Enters at this;simp[invoke,go_sem,this]
 ·refine(a9 (w.heap.size+1) (λa W=>I a W/\Bf w.heap.size (DT B o.tmps f m j w.heap.size .ready none) W)
   (λa W=>∃c,q c a W/\Bf w.heap.size (DT B o.tmps f m j w.heap.size .done (some c)) W) i (R.trans (P.mono R.size))
   (λs A C h y=>⟨Nr E h.1 y,h.2.bel y⟩) (λs A C ⟨c,h,Y⟩ y=>⟨c,Nr (L c) h y,Y.bel y⟩) (λs A u h=>⟨a2 s A u h.1,h.2.far a5 u⟩)
   (λa x W Z a8 a6=>zqI a7 H G I q E L z a1 k (b3 _) (b0 _) a x W Z a8 a6) ⟨Nr E V P,a3⟩).mono ?_
  rintro b4 b5 ⟨⟨N,rfl⟩,(⟨F,a0,J,e⟩|⟨a,a4,c,J,e⟩)⟩
  ·exact⟨none,_,Ox e.1 Q6,b1 _ F _ (Af _) a0 (E.putObj _ J Q0 e.1 rfl) ((GK Q0).trans e.2)⟩
  ·exact⟨some c,_,Ox e.1 Q6,b2 _ c a _ (Af _) a4 ((L c).putObj _ J Q0 e.1 rfl) ((GK Q0).trans e.2)⟩
end Go.Proofs.YtoejfkeofbdalaaGreatDoor
namespace Go.Proofs.YtoejfkeofbdalaaGreatDoor
open Go.RowKit Go.Shelf
attribute [local go_sem] Oper.semAt_some
def zyD:Option Value->Nat
 |some (.string s)=>s.size
 |_=>0
def Jf(x:List UInt8):Array Value:=#[.string ⟨x.toArray⟩]
def LY(x:List UInt8)(W:World):Prop:=1<=x.length/\x.length<=255
theorem Wn(s:ByteArray)(w:World) :
 Qk 112 #[.string s] w λe a=>e=.returned (.func (.func 164) #[] #[.pointer (some ⟨w.heap.size,0,none⟩)])/\w.alloc (.cells #[.string s] 9)=a:=by
 have Cw:=Cw
 go_enter Tryz.func112,Tryz.ntmps112
 go_wp2
 go_ret
 exact⟨rfl,rfl⟩
theorem VA:Enters Tryz.prog 164:=enters_of Tryz.func164 Q2 rfl
theorem OT(t:ByteArray)(k:Nat)(h:k<t.size):t.data.toList[k]?=some (t[k]'h):=by
 rw[ByteArray.getElem_eq_getElem_data,Lj];exact Oh h
theorem RS(t:ByteArray)(k:Nat):t.extract 0 k=⟨(t.data.toList.take k).toArray⟩:=by
 apply Ov
 apply Array.toList_inj.1
 simp
theorem Us(t:ByteArray)(k:Nat):(t.extract k t.size).data.toList=t.data.toList.drop k:=by
 simp[BR]
theorem zAH(t:ByteArray)(k j:Nat)(h:k<t.size)(g:j<t.size)(e:t.data.toList[k]?=t.data.toList[j]?):t[k]'h=t[j]'g:=by
 rw[OT t k h,OT t j g] at e;exact JN e
theorem zzz(t:ByteArray)(k j:Nat)(h:k<t.size)(g:j<t.size)(e:(t[k]'h).toNat=(t[j]'g).toNat):t.data.toList[k]?=t.data.toList[j]?:=by
 rw[OT t k h,OT t j g,UInt8.toNat_inj.1 e]
theorem zuO(n:Nat)(hn:3<=n)(y b1:Nat)(s:ByteArray)(hs:s.size<=1000000)(bad:Nat->Prop)(J Jx:List (List UInt8)->World->Prop)(W:World)(hb1:Qg W b1 #[.string s] 9)
 (hbad:¬ bad b1)
 (hJ:∀s A C,J s A->Qb A C->J s C) (hJb:∀s A u,J s A->J s (A.setCell ⟨b1,0,none⟩ u))
 (hY:∀pre x W1,J pre W1->pre.length<(Ef s.data.toList).length->LY x W1->YieldAt Fence.wide (n-1) Tryz.prog y (Jf x) W1 λe W'=>(e=.returned (.bool true)/\J (pre++[x]) W'/\Ao bad W1 W'/\W1.heap.size<=W'.heap.size)\/(e=.returned (.bool false)/\Jx (pre++[x]) W'))
 (h0:J [] W) :
 CallsIn Fence.wide n Tryz.prog 164 #[.func (.yield y) #[] #[],.pointer (some ⟨b1,0,none⟩)] W λe W'=>(∃v,e=.returned v)/\((∃xs,xs=Ef s.data.toList/\J xs W')\/(∃pre,pre <+: Ef s.data.toList/\Jx pre W')):=by
 have HBAD:=Aa hbad;have HJ:=Aa hJ;have HJB:=Aa hJb;have HY:=Aa hY;have HB1:=Aa hb1;clear hbad hJ hJb hY hb1;refine Mw Tryz.func164 rfl trivial ?_ rfl;simp only[Tryz.ntmps164,F6,Bt,D4,Nat.reduceAdd,Nat.reduceSub,GM,GL,GQ,GN,C6,Di];have h1n:1<=n:=Q0
 refine wpIn_block ?_
 gi_loopw [3] (λnv wr=>∃(pre:List (List UInt8)) (t:ByteArray),t.size<=1000000/\Hid (Qg wr b1 #[.string t] 9)/\Hid (pre++Ef t.data.toList=Ef s.data.toList)/\Hid (J pre wr)/\Hid (W.heap.size<=wr.heap.size)) (λnv wr=>zyD (wr.cell? ⟨b1,0,none⟩))
 case atStart=>exact⟨[],s,hs,HB1.out,rfl,h0,Af _⟩
 case round =>
  clear h0 HB1;obtain⟨pre,t,ht,HB1,HP,HJ0,HZ⟩:=hrel;have kb1:=A8 HB1.out
  by_cases ht0:t.size=0
  ·have hte:t=⟨#[]⟩:=by
    cases t with
    | mk d =>
      have:d.size=0:=ht0;rw[Array.eq_empty_of_size_eq_zero this]
   subst hte;have hp:=HP.out;have hnil:(⟨#[]⟩:ByteArray).data.toList=[]:=rfl;rw[hnil,PW,Eu] at hp;rw[hp] at HJ0;clear hp hnil
   gi_wp2_with fail
   refine Fu (Dw rfl _ _ _) rfl ?_
   first
    |exact⟨⟨_,rfl⟩,.inl ⟨_,rfl,HJ0.out⟩⟩
    |exact⟨⟨_,rfl⟩,.inl HJ0.out⟩
  ·have hne:t.data.toList≠[]:=λh=>ht0 (by have:=Co List.length h;simpa using this)
   have he1:t.toList.isEmpty=false:=by rw[SH,SX];exact hne
   have hR1:=MF hne;have hR2:=WZ t.data.toList;have hR3:=Qx t.data.toList;have hRg:=zzT t.data.toList;have hRe:=zzR t.data.toList;have hlen:t.data.toList.length=t.size:=by simp
   rw[hlen] at hR3 hRe;obtain⟨R,hR⟩:=Qe (Cr t.data.toList);rw[hR] at hR1 hR2 hR3 hRg hRe;have HR:=Aa hR;have HRG:=Aa hRg;have HRE:=Aa hRe;have HNE:=Aa hne;obtain⟨mn,hmn⟩:=Qe (min t.size 255);have hmn2:(if(255:Int)<(t.size:Int) then 255 else(t.size:Int))=(mn:Int):=by rw[<-hmn];split<;>omega
   have hmnR:R<=mn:=Q0
   have hmnt:mn<=t.size/\mn<=255:=Q0
   have HMN:=Aa hmn;clear hR hRg hRe hne hlen hmn
   gi_wp2_with fail
   obtain⟨w0,hw0⟩:=Qe wr;rw[hw0] at HB1 HJ0 HZ kb1 |-
   gi_loopw [3] (λkv wr=>∃k q:Nat,1<=k/\k<=R/\kv=Qi k/\wr=w0.drewN q) (λkv _=>R+1-(intOf kv).toNat)
   case atStart=>exact⟨1,0,Af _,hR1,rfl,rfl⟩
   case round =>
    obtain⟨k,q,hk1,hkR,rfl,rfl⟩:=hrel;have kb1q:Qc (w0.drewN q) b1 0 (.string t):=kb1
    by_cases hkr:k<R
    ·have hkm:decide (k<mn)=true:=Bl Q0
     have hkt:k<t.size:=Q0
     have h0t:0<t.size:=Q0
     have heq:(((t[k]'hkt).toNat:Int)==((t[0]'h0t).toNat:Int))=true:=by
      rw[FQ,zAH t k 0 hkt h0t (HRG.out k hkr)]
     gi_wp2_with fail
     gi_quiet (fail)
     gi_wp2_with fail
     go_roundw
     case rel=>exact⟨k+1,q+nq,Q0,Q0,by go_num,rfl⟩
     case measure=>simp[intOf];omega
    ·have hkR2:k=R:=Q0
     subst hkR2;clear hkr hkR
     by_cases hkm2:k<mn
     ·have hkm:decide (k<mn)=true:=Bl hkm2
      have hkt:k<t.size:=Q0
      have h0t:0<t.size:=Q0
      have heq:(((t[k]'hkt).toNat:Int)==((t[0]'h0t).toNat:Int))=false:=by
       rw[Ez];intro h;exact HRE.out hkt Q0 (zzz t k 0 hkt h0t Q0)
      gi_wp2_with fail
      gi_quiet (fail)
      have hJ2:=HJ.out pre w0 (w0.drewN (q+nq)) HJ0.out (EW (Ag _ _) _);have hex:t.extract 0 k=⟨(t.data.toList.take k).toArray⟩:=RS t k;have hex2:(t.extract k t.size).data.toList=t.data.toList.drop k:=Us t k;have hpc:=PO HNE.out;rw[HR.out] at hpc
      have hpl:pre.length<(Ef s.data.toList).length:=by
       rw[<-HP.out,hpc,AJ,Bt];omega
      have hok:LY (t.data.toList.take k) (w0.drewN (q+nq)):=by
       have hl:t.data.toList.length=t.size:=by simp
       constructor<;>rw[BO,hl]<;>omega
      obtain⟨fn,tmps,assign,body,hy,hRR⟩:=HY.out pre (t.data.toList.take k) (w0.drewN (q+nq)) hJ2 hpl hok;simp only[Jf,<-hex] at hy
      have HP2:Hid ((pre++[t.data.toList.take k])++Ef (t.extract k t.size).data.toList=Ef s.data.toList):=by
       show _=_
       rw[hex2,BN,Mh,<-hpc];exact HP.out
      have hsz2:(t.extract k t.size).size<=1000000/\(t.extract k t.size).size<t.size:=by
       have h1:(t.extract k t.size).size=t.size-k:=by simp
       omega
      have HSZ:=Aa hsz2;have HX2:=Aa hex2;clear hJ2 hpc hpl hok hex hex2 hsz2
      gi_wp2_with fail
      refine hRR.mono ?_;rintro e W' (⟨rfl,hJ',hk',hz'⟩|⟨rfl,hJx'⟩)
      ·have kb1':Qg W' b1 #[.string t] 9:=hk'.cells HBAD.out HB1.out
       have kc1:=A8 kb1';have kf1:W'.frozen? ⟨b1,0,none⟩=false:=Ah kb1' 0;have HKB:=Aa kb1';have HJ3:=Aa hJ';have HZ2:Hid (W.heap.size<=W'.heap.size):=BU HZ.out hz';clear hRR hy kb1' hJ' hk' hz' HJ0
       gi_wp2_with fail
       have h9:Qg (W'.setCell ⟨b1,0,none⟩ (.string (t.extract k t.size))) b1 #[.string (t.extract k t.size)] 9:=Ak HKB.out 0 _;refine⟨⟨_,t.extract k t.size,HSZ.out.1,h9,HP2.out,HJB.out _ _ _ HJ3.out,?_⟩,?_⟩
       ·show _<=_
        rw[show(W'.setCell ⟨b1,0,none⟩ (.string (t.extract k t.size))).heap.size=W'.heap.size by simp[World.setCell]];exact HZ2.out
       ·rw[hw0,kb1,(Ae h9 0).trans rfl]
        exact HSZ.out.2
      ·clear hRR hy
       gi_wp2_with fail
       exact BV (Dw rfl _ _ _) rfl ⟨⟨_,rfl⟩,.inr ⟨_,⟨_,HP2.out⟩,hJx'⟩⟩
     ·have hkm:decide (k<mn)=false:=AV hkm2
      gi_wp2_with fail
      gi_quiet (fail)
      have hJ2:=HJ.out pre w0 (w0.drewN (q+nq)) HJ0.out (EW (Ag _ _) _);have hex:t.extract 0 k=⟨(t.data.toList.take k).toArray⟩:=RS t k;have hex2:(t.extract k t.size).data.toList=t.data.toList.drop k:=Us t k;have hpc:=PO HNE.out;rw[HR.out] at hpc
      have hpl:pre.length<(Ef s.data.toList).length:=by
       rw[<-HP.out,hpc,AJ,Bt];omega
      have hok:LY (t.data.toList.take k) (w0.drewN (q+nq)):=by
       have hl:t.data.toList.length=t.size:=by simp
       constructor<;>rw[BO,hl]<;>omega
      obtain⟨fn,tmps,assign,body,hy,hRR⟩:=HY.out pre (t.data.toList.take k) (w0.drewN (q+nq)) hJ2 hpl hok;simp only[Jf,<-hex] at hy
      have HP2:Hid ((pre++[t.data.toList.take k])++Ef (t.extract k t.size).data.toList=Ef s.data.toList):=by
       show _=_
       rw[hex2,BN,Mh,<-hpc];exact HP.out
      have hsz2:(t.extract k t.size).size<=1000000/\(t.extract k t.size).size<t.size:=by
       have h1:(t.extract k t.size).size=t.size-k:=by simp
       omega
      have HSZ:=Aa hsz2;have HX2:=Aa hex2;clear hJ2 hpc hpl hok hex hex2 hsz2
      gi_wp2_with fail
      refine hRR.mono ?_;rintro e W' (⟨rfl,hJ',hk',hz'⟩|⟨rfl,hJx'⟩)
      ·have kb1':Qg W' b1 #[.string t] 9:=hk'.cells HBAD.out HB1.out
       have kc1:=A8 kb1';have kf1:W'.frozen? ⟨b1,0,none⟩=false:=Ah kb1' 0;have HKB:=Aa kb1';have HJ3:=Aa hJ';have HZ2:Hid (W.heap.size<=W'.heap.size):=BU HZ.out hz';clear hRR hy kb1' hJ' hk' hz' HJ0
       gi_wp2_with fail
       have h9:Qg (W'.setCell ⟨b1,0,none⟩ (.string (t.extract k t.size))) b1 #[.string (t.extract k t.size)] 9:=Ak HKB.out 0 _;refine⟨⟨_,t.extract k t.size,HSZ.out.1,h9,HP2.out,HJB.out _ _ _ HJ3.out,?_⟩,?_⟩
       ·show _<=_
        rw[show(W'.setCell ⟨b1,0,none⟩ (.string (t.extract k t.size))).heap.size=W'.heap.size by simp[World.setCell]];exact HZ2.out
       ·rw[hw0,kb1,(Ae h9 0).trans rfl]
        exact HSZ.out.2
      ·clear hRR hy
       gi_wp2_with fail
       exact BV (Dw rfl _ _ _) rfl ⟨⟨_,rfl⟩,.inr ⟨_,⟨_,HP2.out⟩,hJx'⟩⟩
theorem Wk(n:Nat)(i:3<=n)(a:Nat)(s:ByteArray)(j:s.size<=1000000)(b:Nat->Prop)(c:World)(d:Qg c a #[.string s] 9)(p:¬ b a) :
 XE a n 164 #[.pointer (some ⟨a,0,none⟩)] Jf LY (Ao b) (λk=>k=Ef s.data.toList) (λo=>o <+: Ef s.data.toList) (Ef s.data.toList).length c :=
 λy J e W l g q m h f=>zuO n i y a s j b J e W ((l.block a (Aj d)).trans d) p g m h f
end Go.Proofs.YtoejfkeofbdalaaGreatDoor
namespace Go.Proofs.YtoejfkeofbdalaaGreatDoor
open Go.RowKit Go.Shelf
variable {T e:TypeId} {m:Nat} {s:List Value} {v w:World}
theorem zuy{B:Nat}{x:Value}(h:Lib.BuilderAtF T e B m x s w)
 (f:∀(k:Nat)(c:Array Value)(t:TypeId)(a:Nat × Nat),Qh w k (Obj.cells c t a)->t=T\/t=e->v.heap[k]?=w.heap[k]?):Lib.BuilderAtF T e B m x s v:=by
 obtain⟨l,j,b,i,y⟩:=h;refine⟨l,j,(f _ _ _ _ b (.inl rfl)).trans b,⟨i.1,?_⟩,y⟩;rcases i.2 with o|⟨g,q,r,a,p,u,d,rest⟩
 ·exact .inl o
 ·exact .inr ⟨g,q,r,a,p,u,(f _ _ _ _ d (.inr rfl)).trans d,rest⟩
theorem Nw{B:Nat}{W':World}(h:Lib.IsBuilderF T e B m s w)
 (a:∀(k:Nat)(c:Array Value)(t:TypeId)(b:Nat × Nat),Qh w k (Obj.cells c t b)->t=T\/t=e->W'.heap[k]?=w.heap[k]?):Lib.IsBuilderF T e B m s W' :=
 h.elim (λx=>.inl (zuy x a)) (λx=>.inr (zuy x a))
theorem zxz{a:Type}{B:Nat}(f:a->List Value):Own (λ(s:a) W=>Lib.IsBuilderF T e B m (f s) W):=λs X Y q j i l =>
 Nw j λk c t p b _=>i.block k (Aj b) λg=>by
  obtain⟨o,d,h⟩:=l k g.symm;rw[b] at d;cases d
  cases h
theorem zru{B:Nat}(h:Lib.IsBuilderF T e B m s w)(a:Qb w v):Lib.IsBuilderF T e B m s v :=
 Nw h λk c t d b _=>a.block k (Aj b)
theorem zxr{b:TypeId}{B k:Nat}{h:Array Value}{z:Nat × Nat}(a:Lib.IsBuilderF T e B m s w)(l:Qh w k (.cells h b z))(i:b≠T)(j:b≠e)(u:Value) :
 Lib.IsBuilderF T e B m s (w.setCell ⟨k,0,none⟩ u) :=
 Nw a λd c t p f o=>Bg w ⟨k,0,none⟩ u d λg=>by
  have:d=k:=g;subst this;rw[l] at f;cases f
  rcases o with a|a
  ·exact i a
  ·exact j a
end Go.Proofs.YtoejfkeofbdalaaGreatDoor
namespace Go.Proofs.YtoejfkeofbdalaaGreatDoor
open Go.RowKit
variable {l:List (Int × Int)} {m:Nat} {w:World} {x:Value}
def Qw(l:List (Int × Int)):List Value:=l.flatMap λp=>[Qi p.1,Qi p.2]
structure Bn(w:World)(v:Value)(l:List (Int × Int)):Prop where
 rd:Rd w w.heap.size 2 v l.length (Qw l)
 fit:∀p∈l,(-9223372036854775808<=p.1/\p.1<=9223372036854775807)/\-9223372036854775808<=p.2/\p.2<=9223372036854775807
theorem Bn.up{v:World}(h:Bn w x l)(a:Qb w v):Bn v x l:=⟨Rd.up h.rd a,h.fit⟩
theorem X4:∀(l:List (Int × Int)) (i:Nat) (p:Int × Int),l[i]?=some p->(Qw l)[i*2]?=some (Qi p.1)/\(Qw l)[i*2+1]?=some (Qi p.2)
 | [],i,p,h=>by simp at h
 | x::l,0,p,h=>by
   simp at h;subst h;exact⟨rfl,rfl⟩
 | x::l,i+1,p,h=>by
   have:=X4 l i p h;rw[show(i+1)*2=i*2+1+1 by omega]
   simpa [Qw] using this
theorem Bn.at_{A:Option Addr}{n:Nat}(h:Bn w (.slice A n m) l)(i:Nat)(p:Int × Int)(b:l[i]?=some p) :
 ∃g o,A=some ⟨g,o,none⟩/\g<w.heap.size/\Qc w g (o+i*2) (Qi p.1)/\Qc w g (o+i*2+1) (Qi p.2):=by
 have j:=(Cc.1 b).1;obtain⟨g,o,f,e,a⟩:=h.rd.cellAt Q0
 obtain⟨c,d⟩:=X4 l i p b;exact⟨g,o,f,e,a _ _ c,a _ _ d⟩
theorem zu6(c:Int)(n:Nat)(b:-9223372036854775808<=c)(d:c<=9223372036854775807)(f:0<n)(g:n<=1000000)(w:World) :
 Qk 150 #[Qi c,Qi (n:Nat)] w λe a=>e=.returned (Qi ((I9 c%n:Nat):Int))/\w=a:=by
 by_cases h:c<0
 ·have e:((I9 c%n:Nat):Int)=(-(c+1))%(n:Int):=by
   unfold I9;rw[if_pos h,Tj,Rb Q0]
  rw[e];clear e
  go_enter Tryz.func150,Tryz.ntmps150
  go_wp2
  go_ret
  exact⟨JD (by rw[<-Int.neg_tmod];exact KE Q0),rfl⟩
 ·have e:((I9 c%n:Nat):Int)=c%(n:Int):=by
   unfold I9;rw[if_neg h,Tj,Rb Q0]
  rw[e];clear e
  go_enter Tryz.func150,Tryz.ntmps150
  go_wp2
  go_ret
  exact⟨rfl,rfl⟩
theorem zxT(W:World)(c:UInt8):(convert 89 9 (Qs W.heap.size 0 1 1)).run Tryz.prog (W.alloc (.cells #[.int .u8 (c.toNat:Int)] 5))= .ok (.string ⟨#[c]⟩) (W.alloc (.cells #[.int .u8 (c.toNat:Int)] 5)) :=
 M8 [c] ⟨by simp[byteCells],.inr ⟨W.heap.size,1,#[.int .u8 (c.toNat:Int)],rfl,Af _,Am _ _ _ rfl,Af _,by simp[maxLen],Q6,by simp[byteCells]⟩⟩
theorem Zj{b:Nat}(h:Qc w b m x):b<w.heap.size:=by
 unfold World.cell? at h;cases hb:w.heap[b]? with
 |none=>simp[hb] at h
 |some a=>exact Aj hb
theorem zzG(W:World)(k:Nat)(a:k<6):∃b:UInt8,Qc (W.alloc (.cells #[.int .u8 0,.int .u8 1,.int .u8 4,.int .u8 97,.int .u8 98,.int .u8 255] 5)) W.heap.size k (.int .u8 (b.toNat:Int)):=by
 have h:=Am W (.cells #[.int .u8 0,.int .u8 1,.int .u8 4,.int .u8 97,.int .u8 98,.int .u8 255] 5) _ rfl;rw[Ae h k];obtain rfl|rfl|rfl|rfl|rfl|rfl:k=0\/k=1\/k=2\/k=3\/k=4\/k=5:=Q0
 ·exact⟨0,rfl⟩
 ·exact⟨1,rfl⟩
 ·exact⟨4,rfl⟩
 ·exact⟨97,rfl⟩
 ·exact⟨98,rfl⟩
 ·exact⟨255,rfl⟩
theorem zvT(w:World)(v:Value)(l:List (Int × Int))(y:Bn w v l)(m:Nat)(hm:m<=1000) :
 Qk 99 #[v,Qi (m:Nat)] w λe a6=>∃T:ByteArray,e=.returned (.string T)/\T.size<=m/\Qb w a6:=by
 obtain⟨b9,b8,rfl,b1,b2⟩:=Rd.isSlice y.rd;have H:=Aa (λa4 n h1 h2 h3 h4 a3=>zu6 a4 n h1 h2 h3 h4 a3);have f:=Aa y;obtain⟨N,t⟩:=Qe l.length;rw[t] at b1 f |-;have c4:N<=9223372036854775807:=by unfold maxLen at b2;omega
 have a5:=Aa t;have Q:=Aa (Ag w.heap.size w);clear y t
 go_enter Tryz.func99,Tryz.ntmps99
 go_wp2_with fail
 go_loopw [5,6] (λB z wr=>∃(i:Nat)(T:ByteArray),i<=N/\z=Qi i/\B=.string T/\T.size<=m/\Hid (Qb w wr)) (λ_ z _=>N+1-(intOf z).toNat)
 case atStart=>exact⟨0,_,Q0,rfl,rfl,BI _,Q⟩
 case round =>
  obtain⟨i,T,hi,rfl,rfl,u,r⟩:=hrel;clear Q
  by_cases b7:i<N
  ·have hd:decide ((i:Int)<(N:Int))=true:=Bl Q0
   by_cases a1:T.size<m
   ·have X:decide ((T.size:Int)<(m:Int))=true:=Bl Q0
    have Z:decide (T.size<m)=true:=Bl a1;obtain⟨⟨a,b⟩,h⟩:∃p,l[i]?=some p:=⟨_,Az (by rw[a5.out];exact b7)⟩
    obtain⟨⟨I,J⟩,L,M⟩:=f.out.fit _ (Cn h);obtain⟨g,o,rfl,-,-,-⟩:=f.out.at_ i _ h;have q:=Aa (H.out a 6 I J Q5 Q5)
    have G:=Aa (H.out b 300 L M Q5 Q5)
    obtain⟨k,x⟩:=Qe (I9 a%6);obtain⟨K,s⟩:=Qe (I9 b%300);have b6:k<6:=by rw[<-x];exact F8 _ Q5
    have c3:K<300:=by rw[<-s];exact F8 _ Q5
    rw[x] at q;rw[s] at G;obtain⟨d,b0⟩:=zzG wr k b6;have E:=Ay r.out (.cells #[.int .u8 0,.int .u8 1,.int .u8 4,.int .u8 97,.int .u8 98,.int .u8 255] 5);obtain⟨c1,c2,F,c6,x0,c⟩:=(f.out.up E).at_ i _ h;injection F with F
    injection F with b4 b5
    subst b4 b5;have R:=Aa E;have S:=Aa c;have c7:(i:Int)<(N:Int):=Q0
    have c8:(k:Int)<6:=Q0
    clear x s E c h I J L M
    go_wp2_with fail
    refine(q.out _).mono ?_;rintro e w1 ⟨rfl,rfl⟩;clear q
    go_wp2_with fail
    clear x0 b0 X Z;generalize wr.alloc _=c0 at*
    go_loopw [5,8] (λB A C=>∃(j:Nat)(U:ByteArray),j<=300/\A=Qi j/\B=.string U/\U.size<=m/\Hid (Qb w C)/\Hid (Qc C g (o+i*2+1) (Qi b))) (λ_ A _=>301-(intOf A).toNat)
    case atStart=>exact⟨0,_,Q0,rfl,rfl,u,R,S⟩
    case round =>
     obtain⟨j,U,hj,rfl,rfl,O,D,a9⟩:=hrel
     rename_i C _ _
     have c:=a9.out;have w1:IntKind.i64.wrap (1+(K:Int))=((K+1:Nat):Int):=(AU _ Q0).trans Q0
     clear R S
     go_wp2_with fail
     refine(G.out _).mono ?_;rintro e w2 ⟨rfl,rfl⟩
     by_cases a0:j<K+1
     ·have e1:decide ((j:Int)<((K+1:Nat):Int))=true:=Bl Q0
      have e2:decide (j<K+1)=true:=Bl a0
      by_cases V:U.size<m
      ·have e3:decide ((U.size:Int)<(m:Int))=true:=Bl Q0
       have e4:decide (U.size<m)=true:=Bl V;have b3:=zxT wr d;have W:Qc (wr.alloc (.cells #[.int .u8 (d.toNat:Int)] 5)) g (o+i*2+1) (Qi b):=((Ag wr.heap.size wr).alloc (Af _) _ |>.cell (p:=⟨g,o+i*2+1,none⟩) (Zj c)).trans c;have a8:=Aa W;have a7:=Aa (Ay D.out (.cells #[.int .u8 (d.toNat:Int)] 5));have a2:(⟨#[d]⟩:ByteArray).size=1:=rfl;obtain⟨Y,P⟩:=Qe ((⟨#[d]⟩:ByteArray):ByteArray);rw[P] at b3 a2;have c5:(U++Y).size=U.size+1:=by rw[QY,a2]
       clear W c P
       go_wp2_with fail
       go_roundw
       case rel=>exact⟨j+1,U++Y,Q0,by go_num,rfl,Q0,a7,a8⟩
       case measure=>simp[intOf];omega
      ·have e3:decide ((U.size:Int)<(m:Int))=false:=AV Q0
       have e4:decide (U.size<m)=false:=AV V
       go_wp2_with fail
       go_roundw
       case rel=>exact⟨i+1,U,Q0,by go_num,rfl,O,D⟩
       case measure=>simp[intOf];omega
     ·have e1:decide ((j:Int)<((K+1:Nat):Int))=false:=AV Q0
      have e2:decide (j<K+1)=false:=AV a0
      go_wp2_with fail
      go_roundw
      case rel=>exact⟨i+1,U,Q0,by go_num,rfl,O,D⟩
      case measure=>simp[intOf];omega
   ·have X:decide ((T.size:Int)<(m:Int))=false:=AV Q0
    have Z:decide (T.size<m)=false:=AV a1
    go_wp2_with fail
    go_ret
    exact⟨T,rfl,u,r.out⟩
  ·obtain rfl:i=N:=Q0
   go_wp2_with fail
   go_ret
   exact⟨T,rfl,u,r.out⟩
