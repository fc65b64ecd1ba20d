import Derived.Test.YtoejfkeofbdalaaGreatDoorM03
import Derived.StillTailTactics
import Derived.Recover
set_option linter.all false
set_option maxRecDepth 100000
set_option maxHeartbeats 8000000
namespace Go.Proofs.YtoejfkeofbdalaaGreatDoor.B
theorem snocRec{α:Type}{motive:List α->Prop}(nil:motive [])(snoc:∀l b,motive l->motive (l++[b]))(l:List α):motive l:=by
 rw[<-List.reverse_reverse l];generalize l.reverse=m
 induction m with
 |nil=>exact nil
 |cons b m ih=>rw[List.reverse_cons];exact snoc _ _ ih
def bitAt(s:List UInt8)(i:Nat):Bool:=(s.getD (i / 8) 0).toNat.testBit (7-i%8)
def num(l:List Bool):Nat:=l.foldl (λa b=>2*a+b.toNat) 0
def slice(s:List UInt8)(a n:Nat):List Bool:=(List.range n).map λi=>bitAt s (a+i)
def low(v n:Nat):List Bool:=(List.range n).map λi=>v.testBit (n-1-i)
def setLast(s:List UInt8)(m:UInt8):List UInt8:=s.modify (s.length-1) (· |||m)
def grow(s:List UInt8)(n:Nat):List UInt8:=if n%8=0 then s++[0] else s
def step(s:List UInt8)(n:Nat)(b:Bool):List UInt8 :=
 if b then setLast (grow s n) (UInt8.ofNat (128 >>> (n%8))) else grow s n
def NF(l:List Bool):List UInt8 × Nat:=l.foldl (λp b=>(step p.1 p.2 b,p.2+1)) ([],0)
def pack(l:List Bool):List UInt8:=(NF l).1
theorem zvA(l:List Bool):(NF l).2=l.length:=by
 unfold NF
 suffices h:∀(l:List Bool)(p:List UInt8 × Nat),(l.foldl (λp b=>(step p.1 p.2 b,p.2+1)) p).2=p.2+l.length by simpa using h l ([],0)
 intro l
 induction l with
 |nil=>intro p;simp
 |cons b l a=>intro p;simp[a];omega
theorem zw2:pack []=[]:=rfl
theorem pack_snoc(l:List Bool)(b:Bool):pack (l++[b])=step (pack l) l.length b:=by
 unfold pack;have:NF (l++[b])=(step (NF l).1 (NF l).2 b,(NF l).2+1):=by simp[NF]
 rw[this,zvA]
theorem length_setLast(s:List UInt8)(m:UInt8):(setLast s m).length=s.length:=by simp[setLast]
theorem VY(s:List UInt8)(n:Nat):(grow s n).length=s.length+if n%8=0 then 1 else 0:=by
 unfold grow;split<;>simp
theorem zow(s:List UInt8)(n:Nat)(b:Bool):(step s n b).length=s.length+if n%8=0 then 1 else 0:=by
 unfold step;split
 ·rw[length_setLast,VY]
 ·rw[VY]
theorem length_pack(l:List Bool):(pack l).length=(l.length+7)/ 8:=by
 induction l using snocRec with
 |nil=>rfl
 | snoc l b a =>
   rw[pack_snoc,zow,a];simp only[AJ,Bt,D4];split<;>omega
theorem zhH(s:List UInt8)(j:Nat):(s++[0]).getD j 0=s.getD j 0:=by
 simp only[Cx,List.getElem?_append];split
 ·rfl
 ·rename_i h
  rw[EU (l:=s) Q0]
  by_cases a:j-s.length=0
  ·rw[a];rfl
  ·rw[EU Q4]
theorem ZA(s:List UInt8)(n i:Nat):bitAt (grow s n) i=bitAt s i:=by
 unfold grow bitAt;split
 ·rw[zhH]
 ·rfl
theorem zr0(r:Nat)(h:r<8):(UInt8.ofNat (128 >>> r)).toNat=2 ^ (7-r):=by
 have:∀r:Fin 8,(UInt8.ofNat (128 >>> r.val)).toNat=2 ^ (7-r.val):=by decide+kernel
 exact this ⟨r,h⟩
theorem zlo(s:List UInt8)(n i:Nat)(b:s.length=n / 8+1) :
 bitAt (setLast s (UInt8.ofNat (128 >>> (n%8)))) i=(bitAt s i ||decide (i=n)):=by
 unfold setLast bitAt;simp only[Cx,List.getElem?_modify,b,Mm]
 by_cases h:n / 8=i / 8
 ·have a:s[i / 8]?=some (s[i / 8]'(by omega)):=Az Q0
  rw[a];simp only[Option.map_eq_map,if_pos h,Iz,Es,UInt8.toNat_or,Nat.testBit_or,zr0 _ (F8 n Q0:n%8<8),Nat.testBit_two_pow]
  congr 1
  rw[Ki];simp only[Fj];have:=F8 n (show 8 > 0 by omega)
  have:=F8 i (show 8 > 0 by omega)
  omega
 ·have:decide (i=n)=false:=by simp;omega
  rw[this,Ri];simp only[if_neg h];cases s[i / 8]?<;>rfl
theorem zrh(s:List UInt8)(n i:Nat)(b:Bool)(d:s.length=(n+7)/ 8)(a:bitAt s n=false) :
 bitAt (step s n b) i=if i=n then b else bitAt s i:=by
 unfold step;have c:(grow s n).length=n / 8+1:=by rw[VY,d];split<;>omega
 cases b with
 | true =>
   rw[if_pos rfl,zlo _ _ _ c,ZA]
   by_cases h:i=n<;>simp[h]
 | false =>
   rw[if_neg Q6,ZA]
   by_cases h:i=n
   ·subst h;simp[a]
   ·simp[h]
theorem bitAt_pack(l:List Bool)(i:Nat):bitAt (pack l) i=l.getD i false:=by
 induction l using snocRec generalizing i with
 |nil=>simp[zw2,bitAt]
 | snoc l b a =>
   rw[pack_snoc,zrh _ _ _ _ (length_pack l) (by rw[a];simp)]
   simp only[Cx,List.getElem?_append]
   by_cases h:i=l.length
   ·subst h;simp
   ·rw[if_neg h,a]
    split
    ·simp[Cx]
    ·simp only[Cx]
     rw[EU (l:=l) Q0,EU Q4]
theorem byte_ext(a b:UInt8)(h:∀j,j<8->a.toNat.testBit j=b.toNat.testBit j):a=b:=by
 apply UInt8.toNat_inj.1
 apply Nat.eq_of_testBit_eq
 intro j
 by_cases c:j<8
 ·exact h j c
 ·rw[Nat.testBit_lt_two_pow (Iy a.toNat_lt (Jj Q0 (show 8<=j by omega))),Nat.testBit_lt_two_pow (Iy b.toNat_lt (Jj Q0 (show 8<=j by omega)))]
theorem zww(s t:List UInt8)(c:s.length=t.length)(h:∀i,i<8*s.length->bitAt s i=bitAt t i):s=t:=by
 apply Mo c
 intro k a b;apply byte_ext
 intro j d;have:=h (8*k+(7-j)) Q0
 unfold bitAt at this;rw[show(8*k+(7-j))/ 8=k by omega,show 7-(8*k+(7-j))%8=j by omega] at this
 simpa [Cx,Az a,Az b] using this
def Right(s:List UInt8)(n:Nat):Prop:=s.length=(n+7)/ 8/\∀i,n<=i->i<8*s.length->bitAt s i=false
theorem length_slice(s:List UInt8)(a n:Nat):(slice s a n).length=n:=by simp[slice]
theorem getD_slice(s:List UInt8)(a n i:Nat)(h:i<n):(slice s a n).getD i false=bitAt s (a+i):=by
 simp[slice,Cx,h]
theorem right_pack(l:List Bool):Right (pack l) l.length :=
 ⟨length_pack l,λi h _=>by rw[bitAt_pack,Cx,EU h];rfl⟩
theorem pack_slice{e:List UInt8}{n:Nat}(h:Right e n):pack (slice e 0 n)=e:=by
 apply zww
 ·rw[length_pack,length_slice,h.1]
 ·intro i a
  rw[length_pack,length_slice,<-h.1] at a;rw[bitAt_pack]
  by_cases b:i<n
  ·rw[getD_slice _ _ _ _ b,DC]
  ·rw[Cx,EU (by rw[length_slice];omega),h.2 i Q0 a];rfl
theorem slice_pack(l:List Bool):slice (pack l) 0 l.length=l:=by
 apply Mo (length_slice _ _ _)
 intro i b a;have:=getD_slice (pack l) 0 l.length i a;rw[bitAt_pack,DC,Cx,Cx,Az b,Az a] at this;simpa using this
theorem num_nil:num []=0:=rfl
theorem num_snoc(l:List Bool)(b:Bool):num (l++[b])=2*num l+b.toNat:=by simp[num]
theorem num_lt(l:List Bool):num l<2 ^ l.length:=by
 induction l using snocRec with
 |nil=>simp[num]
 | snoc l b a =>
   rw[num_snoc,AJ,Og,Jk];cases b<;>simp<;>omega
theorem num_append(l m:List Bool):num (l++m)=num l*2 ^ m.length+num m:=by
 induction m using snocRec with
 |nil=>simp[num_nil]
 | snoc m b a =>
   rw[<-BN,num_snoc,a,num_snoc,AJ,Og,Jk];have:2*(num l*2 ^ m.length)=num l*(2 ^ m.length*2):=by rw[Km 2,Lx]
   omega
theorem length_low(v n:Nat):(low v n).length=n:=by simp[low]
theorem low_zero(v:Nat):low v 0=[]:=rfl
theorem low_succ(v n:Nat):low v (n+1)=v.testBit n::low v n:=by
 unfold low;rw[Vq,Dz,Gq];congr 1
 apply Gl
 intro i _;simp only[Function.comp];congr 1
 omega
theorem num_low(v n:Nat):num (low v n)=v%2 ^ n:=by
 induction n with
 |zero=>simp[low,num_nil,Nat.mod_one]
 | succ n c =>
   rw[low_succ,show v.testBit n::low v n=[v.testBit n]++low v n from rfl,num_append,c,length_low]
   have a:v%2 ^ (n+1)=v%2 ^ n+2 ^ n*(v / 2 ^ n%2):=by rw[Jk,Nat.mod_mul]
   have b:num [v.testBit n]=v / 2 ^ n%2:=by
    simp only[num,PH,List.foldl_nil,Nat.mul_zero,DC,QO];rcases QQ (v / 2 ^ n) with h|h<;>simp[h]
   rw[a,b,Km,Mv]
theorem slice_succ(s:List UInt8)(a n:Nat):slice s a (n+1)=slice s a n++[bitAt s (a+n)]:=by
 unfold slice;rw[Fh,D3];rfl
theorem slice_append(s:List UInt8)(a n m:Nat):slice s a (n+m)=slice s a n++slice s (a+n) m:=by
 unfold slice;rw[List.range_add,D3,Gq];congr 1
 apply Gl
 intro i _;simp[Lv]
theorem low_num(l:List Bool):low (num l) l.length=l:=by
 induction l with
 |nil=>simp[low]
 | cons b l f =>
   rw[Bt,low_succ]
   have h:num (b::l)=b.toNat*2 ^ l.length+num l:=by
    have:=num_append [b] l;simpa [num] using this
   have g:=num_lt l;congr 1
   ·rw[h,QO,Mv,Nat.add_mul_div_right _ _ (Vh _),Nat.div_eq_of_lt g]
    cases b<;>simp
   ·have e:low (num (b::l)) l.length=low (num l) l.length:=by
     unfold low;apply Gl
     intro i c;rw[EB] at c;rw[h];rw[Mv,QO,QO];congr 2
     obtain⟨d,a⟩:∃d,l.length=(l.length-1-i)+(d+1):=⟨i,Q0⟩
     generalize l.length-1-i=j at*
     rw[a,Nat.pow_add,Jk,show b.toNat*(2 ^ j*(2 ^ d*2))=(b.toNat*2 ^ d*2)*2 ^ j by simp only[Km,Nat.mul_left_comm,Lx],Nat.add_mul_div_right _ _ (Vh _)]
     omega
    rw[e,f]
end Go.Proofs.YtoejfkeofbdalaaGreatDoor.B
namespace Go.Proofs.YtoejfkeofbdalaaGreatDoor
open Go.RowKit
variable {D:List Bool} {n:Nat} {u v w:World}
def NR(b:Bool):Int:=if b then 128 else 0
theorem zxk(x:UInt8)(r:Nat)(a:r<8):bits BinOp.and IntKind.u8 ((x.toNat:Int)*2 ^ r%256) 128=NR (x.toNat.testBit (7-r)):=by
 have h:∀(x:Fin 256)(r:Fin 8),bits BinOp.and IntKind.u8 ((x.val:Int)*2 ^ r.val%256) 128=NR (x.val.testBit (7-r.val)):=by decide+kernel
 exact h ⟨x.toNat,x.toNat_lt⟩ ⟨r,a⟩
theorem ztU(s:ByteArray)(i:Nat)(h:i / 8<s.size):(s[i / 8]).toNat.testBit (7-i%8)=B.bitAt s.data.toList i:=by
 unfold B.bitAt;rw[Cx,Az (by simpa using h)];rfl
theorem X6(s:ByteArray)(i:Int)(w:World)(a:0<=i)(h:i<8*s.size)(c:s.size<=281474976710656) :
 Qk 127 #[.string s,Qi i] w λe b=>e=.returned (.int .u8 (NR (B.bitAt s.data.toList i.toNat)))/\w=b:=by
 obtain⟨i,rfl⟩:=Mf a;rw[EM]
 go_enter Tryz.func127,Tryz.ntmps127
 go_wp2
 go_ret
 exact⟨JD (by rw[zxk _ _ (F8 _ Q0),ztU s i Q0]),rfl⟩
theorem zyt(x:Nat)(b:Bool)(e:x<9223372036854775808) :
 bits BinOp.or IntKind.u64 (IntKind.u64.wrap ((x:Int)*2)) (IntKind.u64.wrap (NR b / 128))=((2*x+b.toNat:Nat):Int):=by
 have a:IntKind.u64.wrap ((x:Int)*2)=((2*x:Nat):Int):=by rw[Nb];omega
 have c:IntKind.u64.wrap (NR b / 128)=((b.toNat:Nat):Int):=by cases b<;>rfl
 have d:2*x |||b.toNat=2*x+b.toNat:=by
  cases b
  ·simp
  ·have:=Nat.two_pow_add_eq_or_of_lt (i:=1) (b:=1) Q0 x
   simp only[Bool.toNat_true] at this |-;rw[Nat.pow_one] at this;exact this.symm
 rw[a,c,u64_or_nat _ _ Q0 (by cases b<;>simp),d]
def Ed(s:List UInt8)(a n:Int):Int:=if n<0\/64<n\/a<0 then 0 else if 8*(s.length:Int)-n<a then 0 else(B.num (B.slice s a.toNat n.toNat):Nat)
def Ew(s:List UInt8)(a n:Int):Int:=if n<0\/64<n\/a<0 then 1 else if 8*(s.length:Int)-n<a then 2 else 0
def Ih(s:List UInt8)(n:Int):Bool:=decide (0<=n/\s.length=(n.toNat+7)/ 8)&& decide (∀i,i<8*s.length->n<=i->B.bitAt s i=false)
theorem zzH(b:Bool):(NR b !=0)=b:=by cases b<;>rfl
attribute [go_sem] zzH
theorem znD(s:ByteArray)(n:Int)(w:World)(u:s.size<=281474976710656)(C:-9223372036854775808<=n)(F:n<=9223372036854775807) :
 Qk 125 #[.agg #[.string s,Qi n]] w λe o=>e=.returned (.bool (Ih s.data.toList n))/\Qb w o:=by
 by_cases a:0<=n/\s.data.toList.length=(n.toNat+7)/ 8
 ·obtain⟨l,a⟩:=a
  obtain⟨n,rfl⟩:=Mf l;rw[EM] at a
  have d:Ih s.data.toList n=decide (∀i,i<8*s.data.toList.length->(n:Int)<=(i:Nat)->B.bitAt s.data.toList i=false):=by
   unfold Ih;rw[Bl ⟨l,by rw[EM];exact a⟩];rfl
  rw[d];clear d;have b:s.data.toList.length=s.size:=by simp
  rw[b] at a |-;clear b;obtain⟨c,A,m⟩:∃c:Nat,(if 1<(n:Int)%8 then 1 else(n:Int)%8)=(c:Int)/\c=if 1<n%8 then 1 else n%8:=⟨_,by split<;>split<;>omega,rfl⟩
  have D:c<=1:=by rw[m];split<;>omega
  have t:((s.size:Int) !=(n:Int)/ 8+c)=false:=by
   rw[bne_eq_false_iff_eq,m,a];split<;>omega
  clear m;have y:=Aa a;have v:n<=8*s.size:=Q0
  clear a
  go_enter Tryz.func125,Tryz.ntmps125
  go_wp2
  go_loopw [3] (λi wr=>∃k:Nat,n<=k/\k<=8*s.size/\i=Qi k/\(∀j,j<k->n<=j->B.bitAt s.data.toList j=false)/\wr=w.alloc (.cells #[.string s,Qi n] 50)) (λi _=>8*s.size-(intOf i).toNat)
  case atStart=>exact⟨n,Af _,v,rfl,λj h g=>by omega,rfl⟩
  case round =>
   obtain⟨k,z,E,rfl,q,rfl⟩:=hrel;have p:=Aa q;clear q
   by_cases x:k<8*s.size
   ·go_wp2_with (go_at_call 127;refine(X6 _ _ _ Q0 Q0 u).mono ?_;rintro e o ⟨rfl,rfl⟩)
    ·have f:B.bitAt s.data.toList k=true:=Q3
     go_ret
     refine⟨RT (AV λh=>?_).symm,(Ag _ _).alloc (Af _) _⟩;rw[h k x Q0] at f;cases f
    ·have f:B.bitAt s.data.toList k=false:=Q3
     go_roundw
     case rel=>exact⟨k+1,Q0,Q0,by go_num,λj h g=>(by
      by_cases e:j=k
      ·rw[e];exact f
      ·exact p.out j Q0 g),trivial⟩
     case measure=>simp[intOf];omega
   ·go_wp2
    go_ret
    refine⟨RT (Bl λj h g=>?_).symm,(Ag _ _).alloc (Af _) _⟩;exact p.out j Q0 Q0
 ·have d:Ih s.data.toList n=false:=by unfold Ih;rw[AV a];rfl
  rw[d];clear d;have b:s.data.toList.length=s.size:=by simp
  rw[b] at a;clear b
  by_cases l:n<0
  ·clear a
   go_enter Tryz.func125,Tryz.ntmps125
   go_wp2
   go_ret
   exact⟨rfl,(Ag _ _).alloc (Af _) _⟩
  ·have r:(s.size:Int)≠n / 8+min (n%8) 1:=Q0
   clear a;obtain⟨n,rfl⟩:=Mf (show 0<=n by omega)
   have t:((s.size:Int) !=(n:Int)/ 8+if 1<(n:Int)%8 then 1 else(n:Int)%8)=true:=by
    rw[SY];split<;>omega
   clear r
   go_enter Tryz.func125,Tryz.ntmps125
   go_wp2
   all_goals(go_ret;exact⟨rfl,(Ag _ _).alloc (Af _) _⟩)
def byteCells(s:List UInt8):List Value:=s.map λx=>.int .u8 (x.toNat:Int)
theorem L9(s:List UInt8):(byteCells s).length=s.length:=by simp[byteCells]
theorem Yn(s:List UInt8):∀u∈byteCells s,u.oneCell'=true:=by
 intro u a;simp only[byteCells,C8] at a;obtain⟨x,_,rfl⟩:=a;rfl
theorem zuT(s:List UInt8):∀r:ByteArray,((s.map λx=>(x.toNat:Int)).foldl (λr n=>r.push (UInt8.ofNat n.toNat)) r)=⟨r.data++s.toArray⟩:=by
 induction s with
 |nil=>intro r;simp
 | cons x s a =>
   intro r;rw[Dz,PH,a];simp[ByteArray.push]
theorem M8{m:Nat}{x:Value}(s:List UInt8)(h:w.ownsRow n 5 1 x m (byteCells s)) :
 (convert 89 9 x).run Tryz.prog w=.ok (.string ⟨s.toArray⟩) w:=by
 rcases h.2 with⟨rfl,e⟩|⟨g,a,i,rfl,_⟩
 ·rw[run_convert_bytes_string w 89 9 5 none 0 0 Lt Tryz.underlying5 Nf]
  have f:s=[]:=by
   have:=h.1;rw[L9,e] at this;exact Ey Q0
  subst f;rfl
 ·rw[run_convert_bytes_string w 89 9 5 (some ⟨g,0,none⟩) m a Lt Tryz.underlying5 Nf]
  have c:=h.cells (g:=g) rfl;have d:(byteCells s).length=m:=by have:=h.1;omega
  have:=run_loadCells_list (P:=Tryz.prog) (w:=w) ⟨g,0,none⟩ (byteCells s) c;rw[d] at this;rw[run_bytesToString w ⟨g,0,none⟩ m a (s.map λb=>(b.toNat:Int)) (by rw[this,byteCells,Gq];rfl),zuT]
  simp
def Wr(w:World)(b:Nat)(l:List Bool):Prop :=
 ∃v,Qg w b #[v,Qi (l.length:Nat)] 220/\w.ownsRow (b+1) 5 1 v (B.pack l).length (byteCells (B.pack l))
theorem TT:(Tryz.prog.info? 5).map (λi=>(i.zero,i.size,i.bytes))=some (some (.int .u8 0),1,1):=Q2
theorem zsZ(w:World)(b:Nat)(v:Value)(n:Nat)(a:Qg w b #[v,Qi n] 220)(c:n%8≠0)(j:n<1152921504606846976) :
 Qk 126 #[Qp b 0,.bool false] w λe d=>e=.returned (.tuple #[])/\d=w.setCell ⟨b,1,none⟩ (Qi ((n:Int)+1)):=by
 have g:Qc w b 0 v:=Ae a 0;have h:Qc w b 1 (Qi n):=Ae a 1;have i:=Ah a 1;have f:(((n:Int)%8)==0)=false:=by rw[Ez];omega
 clear a c
 go_enter Tryz.func126,Tryz.ntmps126
 go_wp2
 go_end0
 exact⟨rfl,rfl⟩
theorem zt3(w:World)(b g c:Nat)(n m:Nat)(x:UInt8)(a:Qg w b #[Qs g 0 (m+1) c,Qi n] 220)
 (k:Qc w g m (.int .u8 (x.toNat:Int))) (h:w.frozen? ⟨g,m,none⟩=false) (q:g≠b) (i:m<1152921504606846976) (d:n%8≠0) (u:n<1152921504606846976) :
 Qk 126 #[Qp b 0,.bool true] w λe f=>e=.returned (.tuple #[])/\f=((w.setCell ⟨g,m,none⟩ (.int .u8 (bits BinOp.or IntKind.u8 (x.toNat:Int) (128 / 2 ^ (n%8))))).setCell ⟨b,1,none⟩ (Qi ((n:Int)+1))).drew:=by
 have l:Qc w b 0 (Qs g 0 (m+1) c):=Ae a 0;have o:Qc w b 1 (Qi n):=Ae a 1;have p:=Ah a 1;have j:(((n:Int)%8)==0)=false:=by rw[Ez];omega
 clear a d
 go_enter Tryz.func126,Tryz.ntmps126
 go_wp2
 have v:IntKind.i64.wrap (m:Int)=m:=AU _ Q0
 have y:(n:Int).tmod 8=(n:Int)%8:=KE Q0
 have r:(m:Int)<(m:Int)+1:=Q0
 have s:0<=(n:Int)%8:=Q0
 have t:((n:Int)%8).toNat=n%8:=Q0
 go_still_tail 20,Q2
 go_wp2
 go_end0
 exact⟨rfl,rfl⟩
def zBo(w:World)(b:Nat)(v:Value)(n m:Nat)(c:Bool)(h:List Value)(e:Ending)(f:World):Prop :=
 e=.returned (.tuple #[])/\
  ∃g d a,(w.alloc (.cells #[.int .u8 0] 5)).grownBy a v.ownBlock/\a.ownsRow (b+1) 5 1 (Qs g 0 (m+1) d) (m+1) (h++[.int .u8 0])/\
   f=(if c then(((a.setCell ⟨b,0,none⟩ (Qs g 0 (m+1) d)).setCell ⟨g,m,none⟩ (.int .u8 128)).setCell ⟨b,1,none⟩ (Qi ((n:Int)+1))).drew
    else(a.setCell ⟨b,0,none⟩ (Qs g 0 (m+1) d)).setCell ⟨b,1,none⟩ (Qi ((n:Int)+1)))
theorem zx7(w:World)(b:Nat)(v:Value)(n m:Nat)(c:Bool)(l:List Value)(f:Qg w b #[v,Qi n] 220)
 (q:w.ownsRow (b+1) 5 1 v m l) (U:m<140737488355328) (x:n%8=0) (a2:n<1152921504606846976) :
 Qk 126 #[Qp b 0,.bool c] w (zBo w b v n m c l):=by
 obtain⟨G,E,K,L,M⟩:=Ie TT;have H:=Aj f;have X:Qc w b 0 v:=Ae f 0;have Y:Qc w b 1 (Qi n):=Ae f 1;have Z:=Ah f 1;have V:(((n:Int)%8)==0)=true:=by rw[FQ];omega
 have D:=Aa x;have C:=Aa f;clear f x
 go_enter Tryz.func126,Tryz.ntmps126
 have J:∀k,v.ownBlock=some k->b<k:=λk F=>(q.lt k F).1
 go_wp2_with
  (at_builtin
   refine wpList_append_own _ rfl _ _ 89 rfl (b+1) 5 G (.int .u8 0) 1 1 Lt E K L M rfl Q5 v m l rfl (q.alloc _) ⟨w.heap.size,0,none⟩ 1 1 [.int .u8 0] rfl rfl (cell_one_new _ _ _) (by simp[Value.oneCell']) (by simp only[maxLen];omega) Q0 Q4 ?_
   intro W a h r _;obtain⟨g,d,rfl⟩:=ownsRow_succ h;have j:Qg a b #[v,Qi n] 220:=(r.block b Q4 (λe=>Nat.lt_irrefl b (J b e.symm))).trans ((GV w _ b H).trans C.out)
   have I:¬ g=b:=by have:=(h.lt g rfl).1;omega
   have y:Qc a b 0 v:=Ae j 0;have z:Qc a b 1 (Qi n):=Ae j 1;have s:∀i,a.frozen? ⟨b,i,none⟩=false:=Ah j;have p:l.length=m:=by have:=q.1;omega
   have t:Qc a g m (.int .u8 0):=by rw[h.cellAt m Q0,<-p];simp
   have A:a.frozen? ⟨g,m,none⟩=false:=h.frozenAt m;have a5:=Aa j;have N:=Aa p;clear j p)
 ·have a3:IntKind.i64.wrap (m:Int)=m:=AU _ Q0
  have a4:(n:Int).tmod 8=(n:Int)%8:=KE Q0
  have a0:(m:Int)<(m:Int)+1:=Q0
  have a1:(n:Int)%8=0:=by have:=D.out;omega
  have P:Qc (a.setCell ⟨b,0,none⟩ (Qs g 0 (m+1) d)) b 0 (Qs g 0 (m+1) d):=World.cell?_setCell_same _ _ _ y;have Q:Qc (a.setCell ⟨b,0,none⟩ (Qs g 0 (m+1) d)) b 1 (Qi n):=(SI _ _ _ _ (λe=>by injection e with _ e _;cases e)).trans z
  have R:Qc (a.setCell ⟨b,0,none⟩ (Qs g 0 (m+1) d)) g m (.int .u8 0):=(SI _ _ _ _ (λe=>by injection e with e _ _;exact I e.symm)).trans t
  have S:∀i,(a.setCell ⟨b,0,none⟩ (Qs g 0 (m+1) d)).frozen? ⟨b,i,none⟩=false:=by simp[s]
  have T:(a.setCell ⟨b,0,none⟩ (Qs g 0 (m+1) d)).frozen? ⟨g,m,none⟩=false:=by simp[A]
  clear y z t s A;generalize u:a.setCell ⟨b,0,none⟩ (Qs g 0 (m+1) d)=O at*
  have B:=Aa u;clear u
  go_still_tail 20,Q2
  go_wp2
  go_end0
  have o:c=true:=Q3
  subst o;refine⟨rfl,g,d,a,r,h,?_⟩;rw[B.out,if_pos rfl,show bits BinOp.or IntKind.u8 0 128=128 by decide]
 ·go_end0
  have o:c=false:=Q3
  subst o;exact⟨rfl,g,d,a,r,h,rfl⟩
theorem zzn(x:UInt8)(r:Nat)(a:r<8):bits BinOp.or IntKind.u8 (x.toNat:Int) (128 / 2 ^ r)=((x |||UInt8.ofNat (128 >>> r)).toNat:Int):=by
 have h:∀(x:Fin 256)(r:Fin 8),bits BinOp.or IntKind.u8 (x.val:Int) (128 / 2 ^ r.val)=((UInt8.ofNat x.val |||UInt8.ofNat (128 >>> r.val)).toNat:Int):=by decide+kernel
 have:=h ⟨x.toNat,x.toNat_lt⟩ ⟨r,a⟩;simpa using this
theorem Yj(s:List UInt8)(k:Nat)(x:UInt8)(a:s.length=k+1)(m:UInt8)(b:s[k]?=some x) :
 byteCells (B.setLast s m)=(byteCells s).set k (.int .u8 ((x |||m).toNat:Int)):=by
 unfold byteCells B.setLast;apply KF
 intro i;simp only[EA,List.getElem?_modify,a,Mm,P7,Da]
 by_cases h:k=i
 ·subst h;rw[b];simp
 ·cases hs:s[i]?<;>simp[h]
theorem Yi(s t:List UInt8):byteCells (s++t)=byteCells s++byteCells t:=by simp[byteCells]
theorem getElem?_byteCells(s:List UInt8)(i:Nat)(x:UInt8)(h:s[i]?=some x):(byteCells s)[i]?=some (.int .u8 (x.toNat:Int)):=by
 simp[byteCells,h]
theorem Wr.lt(h:Wr w n D):n<w.heap.size:=by
 obtain⟨v,a,_⟩:=h;exact Aj a
def Bw(b:Nat)(w d:World):Prop:=∀k a t c,k≠b->t≠5->Qh w k (.cells a t c)->Qh d k (.cells a t c)
theorem Bw.refl(b:Nat)(w:World):Bw b w w:=λ_ _ _ _ _ _ h=>h
theorem Bw.trans(h:Bw n w v)(k:Bw n v u):Bw n w u:=λi a t b c d e=>k i a t b c d (h i a t b c d e)
theorem Bw.alloc(h:Bw n w v)(o:Obj):Bw n w (v.alloc o):=λi a t b c d e=>by
 have:=h i a t b c d e;exact(GV v o i (Aj this)).trans this
theorem Bw.drew(h:Bw n w v):Bw n w v.drew:=h
theorem Bw.own(h:Bw n w v)(i:Nat)(u:Value):Bw n w (v.setCell ⟨n,i,none⟩ u):=λk b t c a d e=>by
 exact(Bg v ⟨n,i,none⟩ u k a).trans (h k b t c a d e)
theorem Bw.far(c:Bw n w v){g:Nat}{h:Array Value}{f:Nat × Nat}(o:Qh v g (.cells h 5 f))(i:Nat)(u:Value):Bw n w (v.setCell ⟨g,i,none⟩ u):=λk d t j l b m=>by
 have a:=c k d t j l b m;refine(Bg v ⟨g,i,none⟩ u k (λe=>?_)).trans a;subst e;rw[o] at a;injection a with a
 injection a with _ p
 exact b p.symm
theorem Bw.grown(h:Bw n w v){x:Value}{m k:Nat}{s:List Value}(p:v.ownsRow m 5 1 x k s)(o:v.grownBy u x.ownBlock):Bw n w u:=λb f t g i d j=>by
 have a:=h b f t g i d j;refine(o.block b (Aj a) (λe=>?_)).trans a;obtain⟨c,l⟩:=Gr p e.symm;rw[l] at a;injection a with a
 injection a with _ q
 exact d q.symm
theorem zpT(w:World)(b:Nat)(l:List Bool)(c:Bool)(h:Wr w b l)(Q:l.length<562949953421312) :
 Qk 126 #[Qp b 0,.bool c] w λe o=>e=.returned (.tuple #[])/\Wr o b (l++[c])/\Below b w o/\Bw b w o:=by
 obtain⟨v,i,d⟩:=h;have R:=B.length_pack l;have O:=Aj i
 by_cases m:l.length%8=0
 ·refine(zx7 w b v l.length _ c _ i d Q0 m Q0).mono λe o h=>?_
  obtain⟨rfl,g,f,q,s,E,rfl⟩:=h;have J:∀k,v.ownBlock=some k->b<k:=λk j=>(d.lt k j).1;have L:Qg q b #[v,Qi l.length] 220:=(s.block b Q4 (λe=>Nat.lt_irrefl b (J b e.symm))).trans ((GV w _ b O).trans i)
  have N:=(E.lt g rfl).1;have C:Below b w q:=((Ag b w).alloc Q0 _).grown s Q4 (λk j=>by have:=J k j;omega)
  have D:Bw b w q:=((Bw.refl b w).alloc _).grown (d.alloc _) s;have G:=Ak L 0 (Qs g 0 ((B.pack l).length+1) f);have r:(B.pack l++[0]).length=(B.pack l).length+1:=by simp
  have H:B.grow (B.pack l) l.length=B.pack l++[0]:=by unfold B.grow;rw[if_pos m]
  have I:q.ownsRow (b+1) 5 1 (Qs g 0 ((B.pack l).length+1) f) (B.pack l++[0]).length (byteCells (B.pack l++[0])):=by rw[r,Yi];exact E
  cases c with
  | false =>
    rw[if_neg Q6]
    have n:B.pack (l++[false])=B.pack l++[0]:=by rw[B.pack_snoc];unfold B.step;rw[if_neg Q6,H]
    refine⟨rfl,⟨Qs g 0 ((B.pack l).length+1) f,?_,?_⟩,(C.setCell (p:=⟨b,0,none⟩) (Af _) _).setCell (p:=⟨b,1,none⟩) (Af _) _,(D.own 0 _).own 1 _⟩
    ·have:=Ak G 1 (Qi ((l.length:Int)+1))
     simpa using this
    ·rw[n]
     exact Na (Na I Q6 _) Q6 _
  | true =>
    rw[if_pos rfl]
    have n:B.pack (l++[true])=B.setLast (B.pack l++[0]) 128:=by
     rw[B.pack_snoc];unfold B.step;rw[if_pos rfl,H,m];rfl
    have u:=Yj (B.pack l++[0]) (B.pack l).length 0 r 128 Q6
    have z:=I;rw[r] at z;have A:=((Na (a:=⟨b,0,none⟩) z Q6 (Qs g 0 ((B.pack l).length+1) f)).stored (B.pack l).length (.int .u8 128)).1
    have t:=(Bg (q.setCell ⟨b,0,none⟩ (Qs g 0 ((B.pack l).length+1) f)) ⟨g,(B.pack l).length,none⟩ (.int .u8 128) b Q4).trans G
    obtain⟨K,y⟩:=Gr (Na (a:=⟨b,0,none⟩) z Q6 (Qs g 0 ((B.pack l).length+1) f)) (g:=g) rfl
    refine⟨rfl,⟨Qs g 0 ((B.pack l).length+1) f,?_,?_⟩,(((C.setCell (p:=⟨b,0,none⟩) (Af _) _).setCell (p:=⟨g,_,none⟩) Q4 _).setCell (p:=⟨b,1,none⟩) (Af _) _).drew,(((D.own 0 _).far y _ _).own 1 _).drew⟩
    ·have:=Ak t 1 (Qi ((l.length:Int)+1))
     simpa [World.drew] using this
    ·rw[n,B.length_setLast,u,r]
     exact(Na A (a:=⟨b,1,none⟩) Q6 _).drew
 ·cases c with
  | false =>
    refine(zsZ w b v l.length i m Q0).mono λe o h=>?_
    obtain⟨rfl,rfl⟩:=h;have n:B.pack (l++[false])=B.pack l:=by rw[B.pack_snoc];unfold B.step B.grow;rw[if_neg Q6,if_neg m]
    refine⟨rfl,⟨v,?_,?_⟩,(Ag b w).setCell (p:=⟨b,1,none⟩) (Af _) _,(Bw.refl b w).own 1 _⟩
    ·have:=Ak i 1 (Qi ((l.length:Int)+1))
     simpa using this
    ·rw[n]
     exact Na d Q6 _
  | true =>
    obtain⟨k,j⟩:∃k,(B.pack l).length=k+1:=⟨(B.pack l).length-1,Q0⟩
    rw[j] at d;obtain⟨g,f,rfl⟩:=ownsRow_succ d;obtain⟨x,F⟩:∃x,(B.pack l)[k]?=some x:=⟨_,Az Q0⟩
    have N:=(d.lt g rfl).1;have M:Qc w g k (.int .u8 (x.toNat:Int)):=by rw[d.cellAt k Q0];exact getElem?_byteCells _ _ _ F
    refine(zt3 w b g f l.length k x i M (d.frozenAt k) Q0 Q0 m Q0).mono λe o h=>?_
    obtain⟨rfl,rfl⟩:=h
    have n:B.pack (l++[true])=B.setLast (B.pack l) (UInt8.ofNat (128 >>> (l.length%8))):=by
     rw[B.pack_snoc];unfold B.step B.grow;rw[if_pos rfl,if_neg m]
    have u:=Yj (B.pack l) k x j (UInt8.ofNat (128 >>> (l.length%8))) F;have P:=zzn x (l.length%8) (F8 _ Q0)
    rw[P];have A:=(d.stored k (.int .u8 ((x |||UInt8.ofNat (128 >>> (l.length%8))).toNat:Int))).1;have t:=(Bg w ⟨g,k,none⟩ (.int .u8 ((x |||UInt8.ofNat (128 >>> (l.length%8))).toNat:Int)) b Q4).trans i
    obtain⟨K,y⟩:=Gr d (g:=g) rfl;refine⟨rfl,⟨Qs g 0 (k+1) f,?_,?_⟩,(((Ag b w).setCell (p:=⟨g,k,none⟩) Q4 _).setCell (p:=⟨b,1,none⟩) (Af _) _).drew,(((Bw.refl b w).far y _ _).own 1 _).drew⟩
    ·have:=Ak t 1 (Qi ((l.length:Int)+1))
     simpa [World.drew] using this
    ·rw[n,B.length_setLast,u,j]
     exact(Na A (a:=⟨b,1,none⟩) Q6 _).drew
def Rm(w:World)(b:Nat)(l:Option (List Bool))(e:Ending)(a:World):Prop :=
 Below b w a/\match l with
  |some l=>e=.returned (.tuple #[])/\Wr a b l
  |none=>e=.panicked [{ v:=.iface 218 (.agg #[]),recovered:=false }]
theorem X7(v k:Nat)(c:v<18446744073709551616):(bits BinOp.and IntKind.u64 ((v:Int)/ 2 ^ k) 1 ==1)=v.testBit k:=by
 have a:((v:Int)/ 2 ^ k)=((v / 2 ^ k:Nat):Int):=by push_cast;rfl
 have b:v / 2 ^ k<18446744073709551616:=Nat.lt_of_le_of_lt (Nat.div_le_self _ _) c;rw[a,show(1:Int)=((1:Nat):Int) from rfl,u64_and_nat _ _ b Q5,Nat.and_one_is_mod,QO]
 rw[Ki];simp only[FQ,Fj];omega
theorem zkc(w:World)(b:Nat)(l:List Bool)(v:Nat)(n:Int)(h:Wr w b l)(p:v<18446744073709551616)(u:l.length<562949953421248) :
 Qk 67 #[Qp b 0,.int .u64 v,Qi n] w (Rm w b (if 0<=n/\n<=64 then some (l++B.low v n.toNat) else none)):=by
 by_cases a:0<=n/\n<=64
 ·rw[if_pos a]
  obtain⟨o,s⟩:=a;obtain⟨n,rfl⟩:=Mf o;rw[EM]
  go_enter Tryz.func67,Tryz.ntmps67
  go_wp2
  go_loopw [6] (λi wr=>∃k:Nat,k<=n/\i=Qi ((k:Int)-1)/\Below b w wr/\∃m,m.length+k=l.length+n/\Wr wr b m/\m++B.low v k=l++B.low v n) (λi _=>(intOf i+1).toNat)
  case atStart=>exact⟨n,Af _,rfl,Ag _ _,l,rfl,h,rfl⟩
  case round =>
   obtain⟨k,t,rfl,d,m,x,f,c⟩:=hrel;rcases IP k with g|g
   ·subst g
    go_wp2
    go_end0
    refine⟨d,rfl,?_⟩;rw[B.low_zero,Eu] at c;rw[<-c];exact f
   ·obtain⟨k,rfl⟩:∃j,k=j+1:=⟨k-1,Q0⟩
    have z:=X7 v k p
    go_wp2_with (go_at_call 126;refine(zpT _ b m (v.testBit k) f Q0).mono ?_;rintro e y ⟨rfl,r,q,_⟩)
    go_roundw
    case rel=>exact⟨k,Q0,rfl,d.trans q,m++[v.testBit k],Q4,r,by rw[<-c,B.low_succ,BN];rfl⟩
    case measure=>simp[intOf]
 ·rw[if_neg a]
  go_enter Tryz.func67,Tryz.ntmps67
  go_wp2
  all_goals exact⟨rfl,Ag _ _,rfl⟩
theorem Wr.above(h:Wr w n D)(i:Qb w v)(j:Below w.heap.size v u):Wr u n D:=by
 obtain⟨e,b,d⟩:=h;have a:∀k,k<w.heap.size->u.heap[k]?=w.heap[k]?:=λk a=>(j.block k a).trans (i.block k a)
 exact⟨e,(a n (Aj b)).trans b,d.1,by
  rcases d.2 with f|⟨g,o,p,m,l,c,r⟩
  ·exact .inl f
  ·exact .inr ⟨g,o,p,m,l,(a g (Aj c)).trans c,r⟩⟩
theorem zpZ(w:World)(b:Nat)(l:List Bool)(s:ByteArray)(n:Int)(h:Wr w b l)(K:l.length+8*s.size<562949953421312)(p:-9223372036854775808<=n)(u:n<=9223372036854775807) :
 Qk 66 #[Qp b 0,.agg #[.string s,Qi n]] w (Rm w b (if Ih s.data.toList n then some (l++B.slice s.data.toList 0 n.toNat) else none)):=by
 have j:s.size<=281474976710656:=Q0
 have M:=h.lt;cases hr:Ih s.data.toList n with
 | false =>
   rw[if_neg Q6]
   have a:=λW=>znD s n W j p u;rw[hr] at a;clear hr;have g:=Aa a;clear a
   go_enter Tryz.func66,Tryz.ntmps66
   go_wp2_with (go_at_call 125;refine(g.out _).mono ?_;rintro e r ⟨rfl,d⟩)
   exact⟨rfl,((Ag b w).alloc Q0 _).trans (d.mono Q4),rfl⟩
 | true =>
   rw[if_pos rfl];have a:=λW=>znD s n W j p u;rw[hr] at a;have g:=Aa a;clear a
   obtain⟨n,rfl,O⟩:∃m:Nat,n=m/\m<=8*s.size:=by
    unfold Ih at hr;simp only[GP,Fj] at hr;obtain⟨⟨H,I⟩,_⟩:=hr;have:s.data.toList.length=s.size:=by simp
    exact⟨n.toNat,Q0,Q0⟩
   rw[EM];clear hr
   go_enter Tryz.func66,Tryz.ntmps66
   go_wp2_with
    (go_at_call 125
     refine(g.out _).mono ?_;rintro e f ⟨rfl,c⟩;obtain⟨D,E⟩:=zA7 c;have P:w.heap.size+1<=f.heap.size:=by have:=c.size;simpa using this)
   have v:Qg f w.heap.size #[.string s,Qi n] 50:=(c.block _ Q6).trans (Lw w _)
   have t:Wr f b l:=h.above ((Ag w.heap.size w).alloc (Af _) _) (c.mono Q6)
   have A:Below b w f:=((Ag b w).alloc Q0 _).trans (c.mono Q4)
   clear D E;have G:=Aa v;have x:=Aa t;clear v t c
   go_loopw [12] (λi wr=>∃k:Nat,k<=n/\i=Qi k/\Below b w wr/\Qg wr w.heap.size #[.string s,Qi n] 50/\Wr wr b (l++B.slice s.data.toList 0 k)) (λi _=>n-(intOf i).toNat)
   case atStart=>exact⟨0,BI _,rfl,A,G.out,by simpa [B.slice] using x.out⟩
   case round =>
    obtain⟨k,J,rfl,d,o,q⟩:=hrel;have L:Qc wr w.heap.size 0 (.string s):=Ae o 0;have y:=Aa o;clear o
    by_cases N:k<n
    ·go_wp2_with (first
      |(go_at_call 127;refine(X6 _ _ _ Q0 Q0 j).mono ?_;rintro e r ⟨rfl,rfl⟩)
      |(go_at_call 126;refine(zpT _ b _ (B.bitAt s.data.toList k) q (by rw[AJ,B.length_slice];omega)).mono ?_;rintro e r ⟨rfl,F,z,C⟩))
     go_roundw
     case rel=>exact⟨k+1,Q0,by go_num,d.trans z,C _ _ _ _ Q0 Q5 y.out,by rw[B.slice_succ,<-BN,DC];exact F⟩
     case measure=>simp[intOf];omega
    ·go_wp2
     obtain rfl:k=n:=Q0
     go_end0
     exact⟨d,rfl,q⟩
theorem zrc(p q:Addr)(w:World) :
 CallsD Tryz.prog 124 #[.pointer (some p),.pointer (some q)] .returning w λe c d=>e=.returned (.tuple #[])/\c = .returning/\d=w:=by
 refine Rk Tryz.func124 rfl λb g a=>?_;apply wpS_seq
 apply wpS_region
 simp[wpOpsS,go_sem,recoverD,a,Tryz.ntmps124,Exit.thenS];refine wpS_of_wp ?_
 go_wp2
 obtain⟨i,l,k,h,f,j⟩:=b;obtain rfl:f=_:=a;simp[bodyPostS,results,Tryz.results124]
theorem Ir:∀w,(Instr.typeAssert (.iface 218 (.agg #[])) 20 218 true).run Tryz.prog w=.ok (.tuple #[.agg #[],.bool true]) w:=λ_=>by kernel_rfl
theorem zoD(b g:Nat)(s:ByteArray)(n z:Int)(w:World)(u:¬ b=g)(y:¬ g=b)(a:Qg w b #[.string s,Qi n] 50)(c:Qg w g #[Qi z] 25) :
 CallsD Tryz.prog 124 #[.pointer (some ⟨b,0,none⟩),.pointer (some ⟨g,0,none⟩)] (.panicking [{ v:=.iface 218 (.agg #[]),recovered:=false }]) w λe h i=>e=.returned (.tuple #[])/\h = .panicking [{ v:=.iface 218 (.agg #[]),recovered:=true }]/\i=(((w.setCell ⟨b,0,none⟩ (.string ⟨#[]⟩)).setCell ⟨b,1,none⟩ (Qi 0)).setCell ⟨g,0,none⟩ (Qi 1)).alloc (.cells #[] 218):=by
 have Ir:=Ir;have k:Qc w b 0 (.string s):=Ae a 0;have l:Qc w b 1 (Qi n):=Ae a 1;have m:Qc w g 0 (Qi z):=Ae c 0;have p:=Ah a;have q:=Ah c;have x:=Aj a;have A:=Aj c;refine Rk Tryz.func124 rfl λf o d=>?_;apply wpS_seq
 apply wpS_region
 simp[wpOpsS,go_sem,recoverD,d,Tryz.ntmps124,Exit.thenS];refine wpS_of_wp ?_
 go_wp2
 obtain⟨t,D,C,r,j,B⟩:=f;obtain rfl:j=_:=d;simp[bodyPostS,results,Tryz.results124]
def OW(l:List Bool):Value:=.agg #[.string ⟨(B.pack l).toArray⟩,Qi (l.length:Nat)]
def MK:Option (List Bool)->Value
 |some l=>.tuple #[OW l,Qi 0]
 |none=>.tuple #[.agg #[.string ⟨#[]⟩,Qi 0],Qi 1]
theorem zqF(w:World)(k:Nat)(D:Array Value)(q:Option (List Bool))(J:Enters Tryz.prog k)
 (H:∀(W:World)(b:Nat),Qb w W->w.heap.size<=b->Wr W b []->Qk k (#[.pointer (some ⟨b,0,none⟩)]++D) W (Rm W b q)) :
 Qk 64 #[.func (.func k) #[] D] w λe O=>e=.returned (MK q)/\Qb w O:=by
 have Cw:=Cw;have P:=Aa H;clear H
 go_enter_defers Tryz.func64,Tryz.ntmps64
 have x:∀(W:World),Wr ((W.alloc (.cells #[.slice none 0 0,Qi 0] 220))) W.heap.size []:=λW =>
  ⟨.slice none 0 0,Lw W _,GU _ _ _ _⟩
 obtain⟨c,g⟩:∃c,c=((w.alloc (.cells #[.string ⟨#[]⟩,Qi 0] 50)).alloc (.cells #[Qi 0] 25)).alloc (.cells #[.slice none 0 0,Qi 0] 220):=⟨_,rfl⟩;have R:w.heap.size+3=c.heap.size:=by rw[g];simp
 have r:Qb w c:=by rw[g];exact(((Ag _ _).alloc (Af _) _).alloc Q6 _).alloc Q4 _
 have E:Wr c (w.heap.size+1+1) []:=by rw[g];have:=x ((w.alloc (.cells #[.string ⟨#[]⟩,Qi 0] 50)).alloc (.cells #[Qi 0] 25));simpa using this
 have F:Qg c w.heap.size #[.string ⟨#[]⟩,Qi 0] 50:=by
  rw[g,GV _ _ _ Q4,GV _ _ _ Q6]
  exact Lw w _
 have G:Qg c (w.heap.size+1) #[Qi 0] 25:=by
  rw[g,GV _ _ _ Q6]
  have:=Lw (w.alloc (.cells #[.string ⟨#[]⟩,Qi 0] 50)) (.cells #[Qi 0] 25);simpa using this
 have B:=Aa g;clear g x;have C:=Aa (P.out c _ r Q0 E)
 have I:=J;unfold Enters at I
 go_wp2_with fail
 rw[<-B.out];refine C.out.mono ?_;rintro e a ⟨j,u⟩;have d:=(j.block w.heap.size Q0).trans F
 have h:=(j.block (w.heap.size+1) Q0).trans G
 have a3:w.heap.size+3<=a.heap.size:=by have:=j.size;omega
 have t:=r.trans (j.mono Q0)
 clear F G E r R B C I;cases q with
 | none =>
   obtain rfl:=u
   go_wp2
   refine Oz (f:=124) (args:=#[.pointer (some ⟨w.heap.size,0,none⟩),.pointer (some ⟨w.heap.size+1,0,none⟩)]) Q6 (by simp[go_sem]) ?_
   refine(zoD w.heap.size (w.heap.size+1) _ _ _ a Q0 Q0 d h).mono ?_
   rintro e N S ⟨rfl,rfl,rfl⟩;have K:=Ak (Ak d 0 (.string ⟨#[]⟩)) 1 (Qi 0);have L:=((Bg _ ⟨w.heap.size,1,none⟩ (Qi 0) (w.heap.size+1) Q6).trans (Bg a ⟨w.heap.size,0,none⟩ (.string ⟨#[]⟩) (w.heap.size+1) Q6)).trans h
   have y:=Ak L 0 (Qi 1);have z:=(Bg _ ⟨w.heap.size+1,0,none⟩ (Qi 1) w.heap.size Q6).trans K
   have A:=(GV _ (.cells #[] 218) _ (Aj z)).trans z;have M:=(GV _ (.cells #[] 218) _ (Aj y)).trans y
   have Q:Qb w ((((a.setCell ⟨w.heap.size,0,none⟩ (.string ⟨#[]⟩)).setCell ⟨w.heap.size,1,none⟩ (Qi 0)).setCell ⟨w.heap.size+1,0,none⟩ (Qi 1)).alloc (.cells #[] 218)) :=
    (((t.setCell (p:=⟨w.heap.size,0,none⟩) (Af _) _).setCell (p:=⟨w.heap.size,1,none⟩) (Af _) _).setCell (p:=⟨w.heap.size+1,0,none⟩) Q6 _).alloc Q4 _
   generalize((((a.setCell ⟨w.heap.size,0,none⟩ (.string ⟨#[]⟩)).setCell ⟨w.heap.size,1,none⟩ (Qi 0)).setCell ⟨w.heap.size+1,0,none⟩ (Qi 1)).alloc (.cells #[] 218))=W at*
   have m:Qc W w.heap.size 0 (.string ⟨#[]⟩):=Ae A 0;have n:Qc W w.heap.size 1 (Qi 0):=Ae A 1;have o:Qc W (w.heap.size+1) 0 (Qi 1):=Ae M 0;simp[Leaves,settle,results,Tryz.results64,go_sem,m,n,o,MK];exact Q
 | some l =>
   obtain⟨rfl,v,i,s⟩:=u;have a2:=M8 _ s;have m:Qc a w.heap.size 0 (.string ⟨#[]⟩):=Ae d 0;have n:Qc a w.heap.size 1 (Qi 0):=Ae d 1;have o:Qc a (w.heap.size+1) 0 (Qi 0):=Ae h 0;have U:Qc a (w.heap.size+1+1) 0 v:=Ae i 0;have V:Qc a (w.heap.size+1+1) 1 (Qi l.length):=Ae i 1;have X:=Ah d;have Y:=Ah h;have Z:=Ah i;have a4:=Aa s;have a0:=Aa d;have a1:=Aa h;have T:=Aa i;clear s d h i
   go_wp2
   refine Oz (f:=124) (args:=#[.pointer (some ⟨w.heap.size,0,none⟩),.pointer (some ⟨w.heap.size+1,0,none⟩)]) Q6 (by simp[go_sem]) ?_
   refine(zrc _ _ _).mono ?_;rintro e N S ⟨rfl,rfl,rfl⟩;simp[Leaves,settle,results,Tryz.results64,go_sem,m,n,o,MK];exact⟨rfl,((t.setCell (p:=⟨w.heap.size,0,none⟩) (Af _) _).setCell (p:=⟨w.heap.size,1,none⟩) (Af _) _).setCell (p:=⟨w.heap.size+1,0,none⟩) Q6 _⟩
end Go.Proofs.YtoejfkeofbdalaaGreatDoor
namespace Go.Proofs.YtoejfkeofbdalaaGreatDoor
def Dx:List Nat->List Nat->Bool
 | [],_=>true
 |_::_,[]=>false
 |a::x,b::y=>decide (a<b) ||(a ==b && Dx x y)
theorem Ub(x:List Nat):Dx x x=true:=by
 induction x with
 |nil=>rfl
 |cons a x b=>simp[Dx,b]
theorem Tx:∀x y:List Nat,Dx x y=true->Dx y x=true->x=y
 | [],[],_,_=>rfl
 | [],_::_,_,h=>by simp[Dx] at h
 |_::_,[],h,_=>by simp[Dx] at h
 | a::x,b::y,h,g=>by
   simp only[Dx,J5,Fj,GP,FQ] at h g;rcases h with h|⟨rfl,h⟩
   ·rcases g with g|⟨rfl,g⟩<;>omega
   ·rcases g with g|⟨_,g⟩
    ·omega
    ·rw[Tx x y h g]
theorem Z9:∀x y:List Nat,Dx x y=true\/Dx y x=true
 | [],_=>.inl rfl
 |_::_,[]=>.inr rfl
 | a::x,b::y=>by
   simp only[Dx,J5,Fj,GP,FQ];rcases KJ a b with h|rfl|h
   ·exact .inl (.inl h)
   ·rcases Z9 x y with h|h
    ·exact .inl (.inr ⟨rfl,h⟩)
    ·exact .inr (.inr ⟨rfl,h⟩)
   ·exact .inr (.inl h)
theorem Ua:∀x y z:List Nat,Dx x y=true->Dx y z=true->Dx x z=true
 | [],_,_,_,_=>rfl
 |_::_,[],_,h,_=>by simp[Dx] at h
 |_::_,_::_,[],_,h=>by simp[Dx] at h
 | a::x,b::y,c::z,h,g=>by
   simp only[Dx,J5,Fj,GP,FQ] at h g |-;rcases h with h|⟨rfl,h⟩
   ·rcases g with g|⟨rfl,g⟩
    ·exact .inl Q0
    ·exact .inl h
   ·rcases g with g|⟨rfl,g⟩
    ·exact .inl g
    ·exact .inr ⟨rfl,Ua x y z h g⟩
theorem VX:∀x y u v:List Nat,x.length=y.length->Dx (x++u) (y++v)=true->Dx x y=true
 | [],[],_,_,_,_=>rfl
 | [],_::_,_,_,h,_=>by simp at h
 |_::_,[],_,_,h,_=>by simp at h
 | a::x,b::y,u,v,hl,h=>by
   simp only[Di,Dx,J5,Fj,GP,FQ] at h |-;rcases h with h|⟨rfl,h⟩
   ·exact .inl h
   ·exact .inr ⟨rfl,VX x y u v (by simpa using hl) h⟩
def OY(l:List (List Nat)):Prop:=l.Pairwise λx y=>Dx x y=true
theorem Y6:∀l m:List (List Nat),l.Perm m->OY l->OY m->l=m
 | [],m,h,_,_=>(List.nil_perm.1 h).symm
 |a::l,[],h,_,_=>by simp at h
 | a::l,b::m,h,hl,hm=>by
   have d:=IM.1 hl;have f:=IM.1 hm
   have g:a=b:=by
    rcases CZ.1 (h.mem_iff.1 (Jh ..)) with e|e
    ·exact e
    ·rcases CZ.1 (h.mem_iff.2 (Jh ..)) with c|c
     ·exact c.symm
     ·exact Tx a b (d.1 b c) (f.1 a e)
   subst g;rw[Y6 l m h.cons_inv d.2 f.2]
def Dg(S:List Nat)(k:Nat):List Nat:=S.drop k++S.take k
theorem Ry(S:List Nat)(k:Nat):(Dg S k).length=S.length:=by simp[Dg];omega
theorem zmn(S:List Nat):Dg S 0=S:=by simp[Dg]
def FE(n k:Nat):Nat:=if k=0 then n-1 else k-1
theorem Xp{n m:Nat}(h:m<n):FE n m<n:=by unfold FE;split<;>omega
theorem zsw(n:Nat):((List.range n).map (FE n)).Perm (List.range n):=by
 cases n with
 |zero=>exact KL _
 | succ m =>
   rw[Vq,Dz,Gq]
   have e:(List.range m).map (FE (m+1)∘ Nat.succ)=List.range m:=by
    conv=>rhs;rw[<-Mx (List.range m)]
    exact Gl λk a=>by simp[FE]
   rw[e,show FE (m+1) 0=m by simp[FE]]
   rw[<-Vq,Fh];exact(MW (l₁:=[m]) (l₂:=List.range m))
theorem zvq(S:List Nat)(k:Nat)(b:k<S.length):Dg S (FE S.length k)=S[FE S.length k]?.getD 0::(Dg S k).dropLast:=by
 unfold FE
 by_cases h:k=0
 ·subst h
  rw[if_pos rfl,zmn];unfold Dg
  have a:S.drop (S.length-1)=[S[S.length-1]?.getD 0]:=by
   rw[IJ Q0,Az Q0,show S.length-1+1=S.length by omega,List.drop_length]
   rfl
  rw[a,List.dropLast_eq_take];rfl
 ·rw[if_neg h]
  unfold Dg
  have a:S.drop (k-1)=S[k-1]?.getD 0::S.drop k:=by
   rw[IJ Q0,Az Q0,show k-1+1=k by omega]
   rfl
  rw[a,Di];congr 1
  rw[show S.take k=S.take (k-1)++[S[k-1]?.getD 0] by
   rw[Az Q0]
   conv=>lhs;rw[show k=k-1+1 by omega]
   exact Ep Q0]
  rw[<-BN,List.dropLast_concat]
def DY(S o:List Nat):List Nat:=o.map λk=>S[FE S.length k]?.getD 0
def Ex(L:List Nat):List Nat:=(List.range 256).flatMap λc=>(List.range L.length).filter λi=>L[i]? ==some c
theorem Qo(L:List Nat)(a:∀x∈L,x<256)(i:Nat):i∈Ex L↔i<L.length:=by
 unfold Ex;simp only[SB,EB,Lu,FQ]
 constructor
 ·rintro⟨c,_,h,_⟩;exact h
 ·intro h
  exact⟨L[i],a _ (Et h),h,Az h⟩
theorem Zk(L:List Nat):(Ex L).Pairwise λi j=>L[i]?.getD 0<L[j]?.getD 0\/L[i]?.getD 0=L[j]?.getD 0/\i<j:=by
 unfold Ex;rw[List.pairwise_flatMap];refine⟨λc _=>?_,?_⟩
 ·refine List.Pairwise.imp_of_mem ?_ (List.Pairwise.filter _ Vr)
  intro i j a b f;simp only[Lu,FQ] at a b;rw[a.2,b.2];exact .inr ⟨rfl,f⟩
 ·refine List.Pairwise.imp ?_ Vr
  intro c d e i a j b;simp only[Lu,FQ] at a b;rw[a.2,b.2];exact .inl e
theorem zkh(L:List Nat):(Ex L).Nodup:=by
 refine List.Pairwise.imp ?_ (Zk L);intro i j h e;subst e;omega
theorem znQ(L:List Nat)(a:∀x∈L,x<256):(Ex L).Perm (List.range L.length):=by
 refine(List.perm_ext_iff_of_nodup (zkh L) QS).2 λi=>?_;rw[Qo L a,EB]
theorem TF(L:List Nat)(a:∀x∈L,x<256):(Ex L).length=L.length:=by rw[(znQ L a).length_eq,Gn]
def KT(v:List Nat):Nat->Nat->Nat
 |0,j=>j
 |k+1,j=>KT v k (v[j]?.getD 0)
theorem zxj(S o:List Nat)(y:∀x∈S,x<256)(f:o.Perm (List.range S.length))(p:OY (o.map (Dg S))) :
 o.map (Dg S)=(Ex (DY S o)).map λi=>(DY S o)[i]?.getD 0::(Dg S (o[i]?.getD 0)).dropLast:=by
 have E:o.length=S.length:=by rw[f.length_eq,Gn]
 have v:∀k∈o,k<S.length:=λk m=>EB.1 (f.mem_iff.1 m);have s:(DY S o).length=o.length:=by simp[DY]
 have r:∀x∈DY S o,x<256:=λx b=>by
  simp only[DY,C8] at b;obtain⟨k,m,rfl⟩:=b;have c:=Xp (v k m);rw[Az c];exact y _ (Et c)
 have C:∀i,i<o.length->(DY S o)[i]?.getD 0::(Dg S (o[i]?.getD 0)).dropLast=Dg S (FE S.length (o[i]?.getD 0)):=λi a=>by
  have c:o[i]?=some o[i]:=Az a;rw[zvq S _ (by rw[c];exact v _ (Et a))]
  congr 1
  simp[DY,c]
 have q:=znQ (DY S o) r;refine Y6 _ _ ?_ p ?_
 ·
  have n:((Ex (DY S o)).map λi=>(DY S o)[i]?.getD 0::(Dg S (o[i]?.getD 0)).dropLast).Perm ((List.range o.length).map λi=>Dg S (FE S.length (o[i]?.getD 0))):=by
   rw[s] at q;refine(q.map _).trans ?_;rw[Gl λi a=>C i (EB.1 a)]
  have w:((List.range o.length).map λi=>Dg S (FE S.length (o[i]?.getD 0)))=(o.map (FE S.length)).map (Dg S):=by
   rw[Gq];apply KF
   intro i;simp only[EA]
   by_cases a:i<o.length
   ·simp[Ji a,Az a]
   ·rw[EU (by simpa using a),EU (by simpa using a)]
    rfl
  rw[w] at n;refine Vj ?_ n.symm;refine List.Perm.map _ ?_;exact f.trans ((zsw S.length).symm.trans (f.symm.map _))
 ·
  unfold OY;rw[List.pairwise_map];refine List.Pairwise.imp_of_mem ?_ (Zk (DY S o));intro i j a l z;rw[Qo _ r,s] at a l;simp only[Dx,J5,Fj,GP,FQ];rcases z with h|⟨h,B⟩
  ·exact .inl h
  ·refine .inr ⟨h,?_⟩
   have g:=Oe.1 p i j (by simpa using a) (by simpa using l) B
   simp only[Vp] at g;rw[Az a,Az l];simp only[Es];have t:=Ry S o[i];have u:=Ry S o[j];have D:0<S.length:=Q0
   have d:∀x:List Nat,x.length=S.length->x.dropLast++[x[S.length-1]?.getD 0]=x:=λx b=>by
    have A:x≠[]:=by intro e;rw[e] at b;simp at b;omega
    conv=>rhs;rw[<-Vg A]
    congr 1
    rw[SL,Az Q0]
    simp[b]
   rw[<-d _ t,<-d _ u] at g;exact VX _ _ _ _ (by simp[t,u]) g
theorem zuS(S o:List Nat)(f:∀x∈S,x<256)(d:o.Perm (List.range S.length))(i:OY (o.map (Dg S))) :
 ∀k j,k<S.length->j<S.length->(Dg S (o[j]?.getD 0))[k]?=some ((DY S o)[KT (Ex (DY S o)) (k+1) j]?.getD 0):=by
 have s:o.length=S.length:=by rw[d.length_eq,Gn]
 have n:∀k∈o,k<S.length:=λk b=>EB.1 (d.mem_iff.1 b);have r:(DY S o).length=o.length:=by simp[DY]
 have h:∀x∈DY S o,x<256:=λx g=>by
  simp only[DY,C8] at g;obtain⟨k,b,rfl⟩:=g;have a:=Xp (n k b);rw[Az a];exact f _ (Et a)
 have t:=TF (DY S o) h;have q:=zxj S o f d i
 have c:∀j,j<S.length->Dg S (o[j]?.getD 0)=(DY S o)[(Ex (DY S o))[j]?.getD 0]?.getD 0::(Dg S (o[(Ex (DY S o))[j]?.getD 0]?.getD 0)).dropLast:=λj c=>by
  have a:=Co (λl=>l[j]?) q;simp only[EA] at a;rw[Az Q0,Az (by omega:j<(Ex (DY S o)).length)] at a
  simp only[Iz,Om] at a;rw[Az Q0,Az (by omega:j<(Ex (DY S o)).length)]
  exact a
 intro k
 induction k with
 | zero =>
   intro j _ e;rw[c j e];rfl
 | succ k m =>
   intro j b e
   have p:(Ex (DY S o))[j]?.getD 0<S.length:=by
    rw[Az (by omega:j<(Ex (DY S o)).length)]
    have:=(Qo _ h _).1 (Et (by omega:j<(Ex (DY S o)).length))
    simp only[Es];omega
   rw[c j e,Me,List.getElem?_dropLast,if_pos (by rw[Ry];omega),m _ Q0 p]
   rfl
theorem zwG(S o:List Nat)(g:Nat)(d:∀x∈S,x<256)(c:o.Perm (List.range S.length))(e:OY (o.map (Dg S)))(b:o[g]?=some 0) :
 ((List.range S.length).map λk=>(DY S o)[KT (Ex (DY S o)) (k+1) g]?.getD 0)=S:=by
 have f:=(Cc.1 b).1;have h:o.length=S.length:=by rw[c.length_eq,Gn]
 apply KF
 intro k;rw[EA]
 by_cases a:k<S.length
 ·rw[Ji a]
  have:=zuS S o d c e k g a Q0
  rw[b] at this;simp only[Es,zmn] at this;rw[this];rfl
 ·rw[EU (by simpa using a),EU Q0]
  rfl
