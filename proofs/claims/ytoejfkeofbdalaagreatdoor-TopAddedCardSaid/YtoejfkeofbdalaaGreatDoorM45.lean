import Derived.Test.YtoejfkeofbdalaaGreatDoorM22
import Derived.LaidEql
import Derived.Stop.Asserts
import Derived.RowKitTokens
set_option linter.all false
set_option maxRecDepth 100000
set_option maxHeartbeats 8000000
namespace Go.Proofs.YtoejfkeofbdalaaGreatDoor
def IA:Nat->Nat->List UInt8
 |0,_=>[]
 |k+1,n=>IA k (n / 256)++[UInt8.ofNat n]
theorem IV:∀k n,(IA k n).length=k
 |0,n=>rfl
 |k+1,n=>by rw[IA,AJ,IV k];rfl
theorem zs8(K d n:Nat)(h:d<K):IA (d+1) (n / 256 ^ (K-1-d))=IA d (n / 256 ^ (K-d))++[UInt8.ofNat (n / 256 ^ (K-1-d))]:=by
 rw[IA,Nat.div_div_eq_div_mul];rw[show 256 ^ (K-1-d)*256=256 ^ (K-d) by rw[<-Jk];congr 1;omega]
def zBz(l:List UInt8):Nat:=l.foldl (λv b=>v*256+b.toNat) 0
theorem zmE(l:List UInt8)(b:UInt8):zBz (l++[b])=zBz l*256+b.toNat:=by simp[zBz]
theorem zBE(l:List UInt8):zBz l<256 ^ l.length:=by
 have h:∀(n:Nat)(l:List UInt8),l.length=n->zBz l<256 ^ n:=by
  intro n
  induction n with
  |zero=>intro l h;rw[Ey h];decide
  | succ n c =>
    intro l h;have a:l≠[]:=by intro e;subst e;simp at h
    have b:l=l.dropLast++[l.getLast a]:=(Vg a).symm;have d:=c l.dropLast (by simp[h])
    have f:=(l.getLast a).toNat_lt;rw[b,zmE,Jk];omega
 exact h _ l rfl
theorem Gy:∀(k n:Nat),n<256 ^ k->zBz (IA k n)=n
 |0,n,h=>by simp at h;subst h;rfl
 | k+1,n,h=>by
   rw[IA,zmE,Gy k (n / 256) (by rw[Jk] at h;omega),Ms]
   omega
theorem MP(k n:Nat)(rest:List UInt8):(IA k n++rest).take k=IA k n:=by
 rw[QN (by rw[IV];exact Af _),BR (by rw[IV];exact Af _)]
theorem Z7(k n:Nat)(rest:List UInt8):(IA k n++rest).drop k=rest:=by
 rw[Pt (by rw[IV];exact Af _),Gm (by rw[IV];exact Af _),C6]
theorem zBG(v b:Nat)(a:b<256):(v*256) |||b=v*256+b:=by
 have h:=Nat.two_pow_add_eq_or_of_lt (i:=8) a v;rw[show v*256=2 ^ 8*v by omega,<-h]
end Go.Proofs.YtoejfkeofbdalaaGreatDoor
namespace Go.Proofs.YtoejfkeofbdalaaGreatDoor
open Go.RowKit Go.Extern.Stop Go.Stop Go.Extern
theorem zA9(v:Value)(w:World):(Extern.ReflectliteType.typeOf #[.iface 96 v]).run Tryz.prog w=.ok (.iface 317 (.agg #[Qp 9 96])) w:=Q2
theorem zBr(v:Value)(w:World):(Go.method 624 317 v "Comparable").run Tryz.prog w=.ok (389,v) w:=Q2
theorem zBO(v:Value)(w:World):(Go.method 624 96 v "Is").run Tryz.prog w=.ok (383,v) w:=Q2
theorem zBQ(v:Value)(w:World):(Go.method 624 98 v "Unwrap").run Tryz.prog w=.ok (385,v) w:=Q2
theorem zBK(v:Value)(a:TypeId)(w:World):(Instr.typeAssert (.iface 98 v) a 319 true).run Tryz.prog w=.ok (.tuple #[.nilIface,.bool false]) w:=run_typeAssert_lacksB Tryz.underlying319 Q2 Q2 v a w
theorem zBA(v:Value)(a:TypeId)(w:World):(Instr.typeAssert (.iface 96 v) a 319 true).run Tryz.prog w=.ok (.tuple #[.iface 96 v,.bool true]) w:=run_typeAssert_hasB Tryz.underlying319 Q2 v a w
theorem zBt(v:Value)(a:TypeId)(w:World):(Instr.typeAssert (.iface 98 v) a 322 true).run Tryz.prog w=.ok (.tuple #[.iface 98 v,.bool true]) w:=run_typeAssert_hasB Tryz.underlying322 Q2 v a w
theorem zBL(v:Value)(a:TypeId)(w:World):(Instr.typeAssert (.iface 96 v) a 322 true).run Tryz.prog w=.ok (.tuple #[.nilIface,.bool false]) w:=run_typeAssert_lacksB Tryz.underlying322 Q2 Q2 v a w
theorem zBq(v:Value)(a:TypeId)(w:World):(Instr.typeAssert (.iface 96 v) a 324 true).run Tryz.prog w=.ok (.tuple #[.nilIface,.bool false]) w:=run_typeAssert_lacksB Tryz.underlying324 Q2 Q2 v a w
theorem zBD(w:World)(a b:Int) :
 Qk 383 #[Qi a,.iface 96 (Qi b)] w λe c=>e=.returned (.bool (a ==b))/\c=w:=by
 have d:∀W:World,(Instr.typeAssert (.iface 96 (Qi b)) 93 96 true).run Tryz.prog W=.ok (.tuple #[Qi b,.bool true]) W:=λW=>by kernel_rfl
 go_enter Tryz.func383,Tryz.ntmps383
 go_wp2
 go_ret
 exact⟨rfl,rfl⟩
theorem zBM(w:World)(s E:Value) :
 Qk 385 #[.agg #[s,E]] w λe a=>e=.returned E/\Qb w a:=by
 go_enter Tryz.func385,Tryz.ntmps385
 go_wp2
 go_ret
 exact⟨rfl,Ay (Ag _ _) _⟩
theorem zBT(W:World):(binOp .eql 93 (.iface 96 (Qi 7)) (.iface 96 (Qi 2))).run Tryz.prog W=.ok (.bool false) W:=Q2
theorem zB0(W:World):(binOp .eql 93 (.iface 96 (Qi 7)) (.iface 96 (Qi 3))).run Tryz.prog W=.ok (.bool false) W:=Q2
theorem zBY(W:World):(binOp .eql 93 (.iface 96 (Qi 7)) (.iface 96 (Qi 7))).run Tryz.prog W=.ok (.bool true) W:=Q2
def zBS:Array Value->Sem Value:=Extern.ReflectliteType.method λt=>do Extern.Rtype.noPackHeld "Comparable" t;pure (.bool (<-typeInfo t).comparable)
theorem zBW(a:Array Value)(w:World):(callFunc 151 a).run Tryz.prog w=((Extern.ReflectliteType.typeOf a).run Tryz.prog w).andThen λv b=>.ok (.value v) b :=
 run_callFunc_extern Tryz.func151 Q2 Q2 Q2 Q2 a w
theorem zBN(a:Array Value)(w:World):(callFunc 389 a).run Tryz.prog w=((zBS a).run Tryz.prog w).andThen λv b=>.ok (.value v) b :=
 run_callFunc_extern Tryz.func389 Q2 Q2 Q2 Q2 a w
theorem zBJ(w:World):(zBS #[.agg #[Qp 9 96]]).run Tryz.prog w=.ok (.bool true) w:=Q2
set_option maxRecDepth 1000000 in
theorem zBv(w:World)(T:ByteArray)(c:Int)(b:Bool)(a:(c ==7)=b)(d:c=2\/c=3\/c=7) :
 Qk 152 #[.iface 98 (.agg #[.string T,.iface 96 (Qi 7)]),.iface 96 (Qi c),.bool true] w λe k=>e=.returned (.bool b)/\Qb w k:=by
 have f:=Aa (λW=>zBD W 7 c);have g:=Aa zBM;have l:=zBO;have m:=zBQ;have n:=zBK;have o:=zBA;have p:=zBt;have q:=zBL;have r:=zBq;have s:∀(W:World)(X:Value),(binOp .eql 93 (.iface 98 X) (.iface 96 (Qi c))).run Tryz.prog W=.ok (.bool false) W:=λW X=>run_eql_iface_types (P:=Tryz.prog) 98 96 X (Qi c) Tryz.underlying93 Q5 W
 have t:∀(W:World),(binOp .eql 93 (.iface 96 (Qi 7)) (.iface 96 (Qi c))).run Tryz.prog W=.ok (.bool b) W:=by
  intro W;rcases d with rfl|rfl|rfl
  ·rw[<-a];exact zBT W
  ·rw[<-a];exact zB0 W
  ·rw[<-a];exact zBY W
 have i:((7:Int)==c)=b:=by rw[<-a];rcases d with rfl|rfl|rfl<;>rfl
 rw[i] at f;clear d a i
 go_enter Tryz.func152,Tryz.ntmps152
 go_wp2_with fail
 refine wp_loop_rounds 2 ?_;rw[Oy]
 go_wp2_with fail
 refine(g _ _ _).mono ?_;rintro e u ⟨rfl,j⟩;have h:=Aa j;clear j g
 go_wp2_with fail
 rw[Oy];cases b with
 | true =>
   go_wp2_with fail
   go_ret
   exact⟨rfl,h⟩
 | false =>
   go_wp2_with fail
   refine(f _).mono ?_;rintro e v ⟨rfl,rfl⟩
   go_wp2_with fail
   go_ret
   exact⟨rfl,h⟩
set_option maxRecDepth 1000000 in
theorem zvE(w:World)(T:ByteArray)(c:Int)(b:Bool)(d:(c ==7)=b)(f:c=2\/c=3\/c=7) :
 Qk 104 #[.iface 98 (.agg #[.string T,.iface 96 (Qi 7)]),.iface 96 (Qi c)] w λe i=>e=.returned (.bool b)/\Qb w i:=by
 have g:=Aa (zBv w T c b d f);have k:=zBW;have o:=zBN;have m:=zA9;have j:=zBJ;have l:=zBr;clear d f
 go_enter Tryz.func104,Tryz.ntmps104
 go_wp2_with fail
 refine g.mono ?_;rintro e n ⟨rfl,a⟩;have h:=Aa a;clear a
 go_wp2_with fail
 go_ret
 exact⟨rfl,h⟩
theorem zBZ(W:World):(Instr.index 179 (.agg #[Qi 2,Qi 3,Qi 7]) (Qi 0)).run Tryz.prog W=.ok (Qi 2) W:=Q2
theorem zBV(W:World):(Instr.index 179 (.agg #[Qi 2,Qi 3,Qi 7]) (Qi 1)).run Tryz.prog W=.ok (Qi 3) W:=Q2
theorem zBU(W:World):(Instr.index 179 (.agg #[Qi 2,Qi 3,Qi 7]) (Qi 2)).run Tryz.prog W=.ok (Qi 7) W:=Q2
set_option maxRecDepth 1000000 in
theorem zBn(w:World)(T:ByteArray) :
 Qk 45 #[.iface 98 (.agg #[.string T,.iface 96 (Qi 7)])] w λe h=>e=.returned (Qi 7)/\Qb w h:=by
 have j:∀W:World,(Instr.index 179 (.agg #[Qi 2,Qi 3,Qi 7]) (Qi 0)).run Tryz.prog W=.ok (Qi 2) W:=zBZ;have k:∀W:World,(Instr.index 179 (.agg #[Qi 2,Qi 3,Qi 7]) (Qi 1)).run Tryz.prog W=.ok (Qi 3) W:=zBV;have l:∀W:World,(Instr.index 179 (.agg #[Qi 2,Qi 3,Qi 7]) (Qi 2)).run Tryz.prog W=.ok (Qi 7) W:=zBU;have b:=Aa (λW=>zvE W T 2 false rfl (.inl rfl));have c:=Aa (λW=>zvE W T 3 false rfl (.inr (.inl rfl)));have d:=Aa (λW=>zvE W T 7 true rfl (.inr (.inr rfl)))
 go_enter Tryz.func45,Tryz.ntmps45
 go_wp2_with fail
 refine wp_loop_rounds 3 ?_;rw[Oy]
 go_wp2_with fail
 refine(b _).mono ?_;rintro e m ⟨rfl,a⟩;have f:=Aa a;clear a b
 go_wp2_with fail
 rw[Oy]
 go_wp2_with fail
 refine(c _).mono ?_;rintro e n ⟨rfl,a⟩;have g:=Aa (A9 a f);clear a c f
 go_wp2_with fail
 rw[Oy]
 go_wp2_with fail
 refine(d _).mono ?_;rintro e o ⟨rfl,a⟩;have i:=Aa (A9 a g);clear a d g
 go_wp2_with fail
 go_ret
 exact⟨rfl,i⟩
end Go.Proofs.YtoejfkeofbdalaaGreatDoor
namespace Go.Proofs.YtoejfkeofbdalaaGreatDoor
open Go.RowKit
variable {m n:Nat} {v w:World} {x:Value}
theorem u8_elem:Dh 89 5 (.int .u8 0) 1 1:=⟨Lt,Q2,rfl,Q5⟩
theorem Jt(b:List UInt8)(a:Nat):byteCells (b++[UInt8.ofNat a])=byteCells b++[.int .u8 ((a%256:Nat):Int)]:=by simp[byteCells]
theorem LV(v j:Nat):((v:Int)/ 2 ^ (8*j))=((v / 256 ^ j:Nat):Int):=by
 rw[show(256:Nat)^ j=2 ^ (8*j) by rw[Nat.pow_mul]]
 push_cast
 rfl
def KeptU(w b:World):Prop:=∀(k:Nat)(a:Array Value)(t:TypeId),t≠5->Qg w k a t->Qg b k a t
theorem KeptU.refl(w:World):KeptU w w:=λ_ _ _ _ h=>h
theorem KeptU.trans{u:World}(h:KeptU w v)(g:KeptU v u):KeptU w u:=λk a t b c=>g k a t b (h k a t b c)
theorem KeptU.bel(h:Qb w v):KeptU w v:=λk b t _ a=>(h.block k (Aj a)).trans a
theorem zuY{s:List Value}(d:w.ownsRow n 5 1 x m s)(c:w.grownBy v x.ownBlock):KeptU w v:=λk g t f b=>by
 refine(c.block k (Aj b) (λe=>?_)).trans b;obtain⟨h,a⟩:=Gr d e.symm;rw[b] at a;injection a with a
 injection a with _ a
 exact f a
def BRow(d:Nat)(w:World)(v:Value)(n:Nat)(a:List UInt8):Prop :=
 w.ownsRow d 5 1 v n (byteCells a)\/∃g b c,v=Qs g 0 n n/\Qh w g (.cells b 5 c)/\b.toList=byteCells a/\a.length=n
theorem BRow.bel{f:List UInt8}(h:BRow n w x m f)(b:Qb w v):BRow n v x m f:=by
 rcases h with h|⟨g,c,d,e,a,i⟩
 ·exact .inl (Cd h b)
 ·exact .inr ⟨g,c,d,e,(b.block g (Aj a)).trans a,i⟩
theorem KU{N:Array Oper}{rest:List Oper}{i:Oper}{o:Act}{Q:Exit->Act->World->Prop}(K:i.guard=none)(s x:Operand)
 (F:i.op=.call { callee:=.builtin .append,args:=#[s,x],argTypes:=#[89,89] })
 (a:Nat) (v:Value) (n:Nat) (d:List UInt8) (G:o.eval s=v) (m:BRow a w v n d) (k:Nat) (b:Nat) (H:o.eval x=Qs k 0 1 1) (E:Qg w k #[.int .u8 ((b%256:Nat):Int)] 5)
 (hn:n<=1000000000) (t:a<=w.heap.size)
 (h:∀q c f,f.ownsRow a 5 1 (.slice q (n+1) c) (n+1) (byteCells (d++[UInt8.ofNat b]))->Below a w f->KeptU w f->wpList Tryz.prog N Q rest (o.put i.dst (.slice q (n+1) c)) f) :
 wpList Tryz.prog N Q (i::rest) o w:=by
 have U:Rd w w.heap.size 1 (Qs k 0 1 1) 1 [.int .u8 ((b%256:Nat):Int)]:=GX E rfl rfl (by simp[maxLen])
 rcases m with m|⟨g,cs,fr,rfl,S,W,Z⟩
 ·refine JC u8_elem K s x F a v n (byteCells d) G m w.heap.size 1 _ [.int .u8 ((b%256:Nat):Int)] H U (by intro c D;simp at D;subst D;rfl) Q0 Q0 t ?_
  intro q c f A B h3;rw[<-Jt] at A;exact h q c f A ((Ag a w).grown B t (λa6 e=>Dm m e)) (zuY m B)
 ·obtain⟨I,T,a0,l,a1⟩:=Ie u8_elem.info
  have r:(byteCells d).length=n*I.size:=by rw[l,PJ,<-Z];simp[byteCells]
  have a4:∀j u,(byteCells d)[j]?=some u->w.cell? ((⟨g,0,none⟩:Addr).add j)=some u:=λj u p=>by
   have:(⟨g,0,none⟩:Addr).add j=⟨g,j,none⟩:=by rw[Addr.add_lit,DC]
   rw[this]
   show(w.cell? ⟨g,j,none⟩)=_
   rw[World.cell?,S];rw[<-W,Lj] at p;simpa using p
  have a3:∀j u,[Value.int .u8 ((b%256:Nat):Int)][j]?=some u->w.cell? ((⟨k,0,none⟩:Addr).add j)=some u:=λj u p=>by
   have:(⟨k,0,none⟩:Addr).add j=⟨k,j,none⟩:=by rw[Addr.add_lit,DC]
   rw[this,Ae E j];simpa using p
  have z:=run_append_grow (P:=Tryz.prog) w 89 i.type 5 I (.int .u8 0) Lt T a0 ⟨g,0,none⟩ n n (byteCells d) r a4 ⟨k,0,none⟩ 1 1 [.int .u8 ((b%256:Nat):Int)] (by rw[l];rfl) a3 Q0 Q0 (growslice_fits Q0 (by rw[a1];omega))
  have L:=grownCap_ge w (n+1) n 5;have J:=grownCap_le_maxLen w (n+1) n 5 (by simp only[maxLen];omega)
  obtain⟨C,O⟩:=Qe (grownCap w (n+1) n 5);rw[O] at z L J;obtain⟨y,M⟩:=Qe ((Obj.cells ((byteCells d).toArray++[Value.int .u8 ((b%256:Nat):Int)].toArray++Builtin.zeroCells (Value.int .u8 0).cells (C-(n+1))) 5))
  have a2:(w.drew.alloc y).ownsRow a 5 1 (Qs w.heap.size 0 (n+1) C) (n+1) (byteCells (d++[UInt8.ofNat b])):=by
   rw[Jt];refine⟨by rw[AJ,r,l];simp,.inr ⟨w.heap.size,C,_,rfl,t,by rw[<-M];exact Lw w.drew _,L,J,?_,?_⟩⟩
   ·have Y:(Value.int .u8 0).cells.size=1:=rfl
    simp only[Array.size_append,F6,size_zeroCells,r,l,Y,Og];omega
   ·simp only[Array.toList_append,BN]
    rw[<-BN,List.take_left'];rw[AJ,r,l];simp
  have V:Below a w (w.drew.alloc y):=((Ag a w).drew).alloc (by simpa using t) _
  have X:KeptU w (w.drew.alloc y):=KeptU.bel (Ay (Cq (Ag w.heap.size w)) _);rw[M] at z;refine wpList_plain K λa5 R=>?_;unfold Oper.wp execOp;simp only[F,resolve,invoke,builtin,Ml,Mk,KH,MZ,Dz,Jl,G,H,z];exact R _ _ (h _ _ _ a2 V X)
theorem FI(w:World)(a n c K v:Nat)(q:Option Addr)(i:List UInt8)(F:BRow a w (.slice q n c) n i)(E:a<=w.heap.size)(hn:n<=100000000)(a0:K<=8)(P:v<9223372036854775808) :
 Qk 42 #[.slice q n c,Qi (v:Nat),Qi (K:Nat)] w λe p=>∃g f,e=.returned (.slice g (n+K) f)/\BRow a p (.slice g (n+K) f) (n+K) (i++IA K v)/\(0<K->p.ownsRow a 5 1 (.slice g (n+K) f) (n+K) (byteCells (i++IA K v)))/\Below a w p/\KeptU w p:=by
 have b:=Aa F;have N:=Aa P;have T:=Aa E;have w0:IntKind.i64.wrap ((K:Int)-1)=(K:Int)-1:=by rw[AU _ Q0]
 clear F E
 go_enter Tryz.func42,Tryz.ntmps42
 go_wp2_with fail
 go_loopw [0,7] (λbv y wr=>∃d:Nat,d<=K/\y=Qi ((K:Int)-1-(d:Int))/\∃g f,bv=.slice g (n+d) f/\Hid (BRow a wr bv (n+d) (i++IA d (v / 256 ^ (K-d))))/\Hid (0<d->wr.ownsRow a 5 1 bv (n+d) (byteCells (i++IA d (v / 256 ^ (K-d)))))/\Hid (Below a w wr/\KeptU w wr)) (λ_ y _=>(intOf y+1).toNat)
 case atStart =>
  refine⟨0,Q0,Q6,q,c,rfl,?_,Aa (λh=>absurd h Q0),Aa ⟨Ag _ _,KeptU.refl _⟩⟩
  show BRow _ _ _ _ _
  rw[IA,Eu];exact b
 case round =>
  clear b;obtain⟨d,hd,rfl,g,f,rfl,b,H,k⟩:=hrel
  by_cases Z:d<K
  ·obtain⟨j,u⟩:=Qe (K-1-d:Nat)
   have s:=zs8 K d v Z;rw[u] at s;have l:(K:Int)-1-(d:Int)=(j:Int):=Q0
   have C:(j:Int)-1=(K:Int)-1-((d+1:Nat):Int):=Q0
   have D:n+d+1=n+(d+1):=Q0
   rw[l];obtain⟨x,o⟩:=Qe (v / 256 ^ j);rw[o] at s;have s1:((v:Int)/ 2 ^ (8*j))=(x:Int):=by rw[LV,o]
   have s2:IntKind.u64.wrap (v:Int)=(v:Int):=by have:=N.out;exact P4 _ Q0
   have s3:IntKind.i64.wrap (8*(j:Int))=((8*j:Nat):Int):=by rw[AU _ Q0];omega
   have s4:IntKind.i64.wrap ((j:Int)-1)=(j:Int)-1:=by rw[AU _ Q0]
   have s5:IntKind.u8.wrap (x:Int)=((x%256:Nat):Int):=by simp[IntKind.wrap,IntKind.signed,IntKind.bits]
   have dj:decide ((j:Int)>=0)=true:=Bl Q0
   have X:=Aa s;have Y:Hid (v / 256 ^ (K-1-d)=x):=by rw[u];exact o
   have U:=Aa C;have r:=Aa D;have a2:=k.1.size;have a1:=T.out;obtain⟨z,Q⟩:=Qe wr.heap.size;have a3:j<8:=Q0
   have a4:n+d<=200000000:=Q0
   clear s l C D o u
   go_wp2_with
    (at_builtin
     refine KU Q7 _ _ Q7 a _ (n+d) (i++IA d (v / 256 ^ (K-d))) Q7 (b.bel (Ay (Ag wr.heap.size wr) _)) z x Q7 (Am _ _ _ Q.symm) Q0 Q4 ?_
     intro R O G L I J;have A:=Ay (Ag wr.heap.size wr) (.cells #[.int .u8 ((x%256:Nat):Int)] 5);have S:Hid (Below a w G/\KeptU w G):=⟨(k.1.trans (A.mono Q0)).trans I,k.2.trans ((KeptU.bel A).trans J)⟩
     have W:=Aa L;clear L I J A)
   go_roundw
   case rel =>
    have m:=W.out;rw[BN,<-X.out,r.out,<-Y.out] at m;rw[show K-1-d=K-(d+1) by omega] at m
    exact⟨d+1,Q0,by rw[<-U.out],R,O,by rw[<-r.out],Aa (.inl (by rw[r.out];exact m)),Aa (λ_=>by rw[r.out];exact m),S⟩
   case measure=>simp[intOf]
  ·obtain rfl:d=K:=Q0
   have l:(d:Int)-1-(d:Int)= -1:=Q0
   rw[l];have t:=b.out;have B:=H.out;rw[Ow,Nat.pow_zero,Nat.div_one] at t B;have M:=Aa t;have V:=Aa B;clear t B b H
   go_wp2_with fail
   go_ret
   exact⟨_,_,rfl,M,V,k.1,k.2⟩
theorem zry(w:World)(a n c K v:Nat)(q:Option Addr)(i:List UInt8)(F:BRow a w (.slice q n c) n i)(E:a<=w.heap.size)(hn:n<=100000000)(a0:K<=8)(P:v<4294967296) :
 Qk 43 #[.slice q n c,.int .u32 (v:Nat),Qi (K:Nat)] w λe p=>∃g f,e=.returned (.slice g (n+K) f)/\BRow a p (.slice g (n+K) f) (n+K) (i++IA K v)/\(0<K->p.ownsRow a 5 1 (.slice g (n+K) f) (n+K) (byteCells (i++IA K v)))/\Below a w p/\KeptU w p:=by
 have b:=Aa F;have N:=Aa P;have T:=Aa E;have w0:IntKind.i64.wrap ((K:Int)-1)=(K:Int)-1:=by rw[AU _ Q0]
 clear F E
 go_enter Tryz.func43,Tryz.ntmps43
 go_wp2_with fail
 go_loopw [0,7] (λbv y wr=>∃d:Nat,d<=K/\y=Qi ((K:Int)-1-(d:Int))/\∃g f,bv=.slice g (n+d) f/\Hid (BRow a wr bv (n+d) (i++IA d (v / 256 ^ (K-d))))/\Hid (0<d->wr.ownsRow a 5 1 bv (n+d) (byteCells (i++IA d (v / 256 ^ (K-d)))))/\Hid (Below a w wr/\KeptU w wr)) (λ_ y _=>(intOf y+1).toNat)
 case atStart =>
  refine⟨0,Q0,Q6,q,c,rfl,?_,Aa (λh=>absurd h Q0),Aa ⟨Ag _ _,KeptU.refl _⟩⟩
  show BRow _ _ _ _ _
  rw[IA,Eu];exact b
 case round =>
  clear b;obtain⟨d,hd,rfl,g,f,rfl,b,H,k⟩:=hrel
  by_cases Z:d<K
  ·obtain⟨j,u⟩:=Qe (K-1-d:Nat)
   have s:=zs8 K d v Z;rw[u] at s;have l:(K:Int)-1-(d:Int)=(j:Int):=Q0
   have C:(j:Int)-1=(K:Int)-1-((d+1:Nat):Int):=Q0
   have D:n+d+1=n+(d+1):=Q0
   rw[l];obtain⟨x,o⟩:=Qe (v / 256 ^ j);rw[o] at s;have s1:((v:Int)/ 2 ^ (8*j))=(x:Int):=by rw[LV,o]
   have s2:IntKind.u64.wrap (v:Int)=(v:Int):=by have:=N.out;exact P4 _ Q0
   have s3:IntKind.i64.wrap (8*(j:Int))=((8*j:Nat):Int):=by rw[AU _ Q0];omega
   have s4:IntKind.i64.wrap ((j:Int)-1)=(j:Int)-1:=by rw[AU _ Q0]
   have s5:IntKind.u8.wrap (x:Int)=((x%256:Nat):Int):=by simp[IntKind.wrap,IntKind.signed,IntKind.bits]
   have dj:decide ((j:Int)>=0)=true:=Bl Q0
   have X:=Aa s;have Y:Hid (v / 256 ^ (K-1-d)=x):=by rw[u];exact o
   have U:=Aa C;have r:=Aa D;have a2:=k.1.size;have a1:=T.out;obtain⟨z,Q⟩:=Qe wr.heap.size;have a3:j<8:=Q0
   have a4:n+d<=200000000:=Q0
   clear s l C D o u
   go_wp2_with
    (at_builtin
     refine KU Q7 _ _ Q7 a _ (n+d) (i++IA d (v / 256 ^ (K-d))) Q7 (b.bel (Ay (Ag wr.heap.size wr) _)) z x Q7 (Am _ _ _ Q.symm) Q0 Q4 ?_
     intro R O G L I J;have A:=Ay (Ag wr.heap.size wr) (.cells #[.int .u8 ((x%256:Nat):Int)] 5);have S:Hid (Below a w G/\KeptU w G):=⟨(k.1.trans (A.mono Q0)).trans I,k.2.trans ((KeptU.bel A).trans J)⟩
     have W:=Aa L;clear L I J A)
   go_roundw
   case rel =>
    have m:=W.out;rw[BN,<-X.out,r.out,<-Y.out] at m;rw[show K-1-d=K-(d+1) by omega] at m
    exact⟨d+1,Q0,by rw[<-U.out],R,O,by rw[<-r.out],Aa (.inl (by rw[r.out];exact m)),Aa (λ_=>by rw[r.out];exact m),S⟩
   case measure=>simp[intOf]
  ·obtain rfl:d=K:=Q0
   have l:(d:Int)-1-(d:Int)= -1:=Q0
   rw[l];have t:=b.out;have B:=H.out;rw[Ow,Nat.pow_zero,Nat.div_one] at t B;have M:=Aa t;have V:=Aa B;clear t B b H
   go_wp2_with fail
   go_ret
   exact⟨_,_,rfl,M,V,k.1,k.2⟩
theorem zAZ(x:Nat)(b:UInt8)(e:x<72057594037927936) :
 bits BinOp.or IntKind.u64 (IntKind.u64.wrap ((x:Int)*256)) (IntKind.u64.wrap (b.toNat:Int))=((x*256+b.toNat:Nat):Int):=by
 have a:IntKind.u64.wrap ((x:Int)*256)=((x*256:Nat):Int):=by rw[Nb];omega
 have d:=b.toNat_lt;have c:IntKind.u64.wrap (b.toNat:Int)=(b.toNat:Int):=by rw[Nb];omega
 rw[a,c,u64_or_nat _ _ Q0 Q0,zBG x b.toNat Q0]
theorem Zy(w:World)(b:Nat)(S:ByteArray)(K x:Nat)(a:Qg w b #[.string S,.bool false] 178)(E:K<=8)(F:K<=S.size)(H:S.size<=1000000000)(g:zBz (S.data.toList.take K)=x)(I:x<9223372036854775808) :
 Qk 103 #[Qp b 0,Qi (K:Nat)] w λe h=>e=.returned (Qi (x:Nat))/\Qg h b #[.string (S.extract K S.size),.bool false] 178/\Ab b w h:=by
 have v:Qc w b 0 (.string S):=Ae a 0;have z:Qc w b 1 (.bool false):=Ae a 1;have C:=Ah a 0;have D:=Ah a 1;have m:=Aa a;have n:=Aa g;clear a g
 go_enter Tryz.func103,Tryz.ntmps103
 go_wp2_with fail
 go_loopw [5,8] (λs f wr=>∃i:Nat,i<=K/\f=Qi (i:Nat)/\(∃y:Nat,s=.int .u64 (y:Nat)/\Hid (y=zBz (S.data.toList.take i)))/\wr=w) (λ_ f _=>K+1-(intOf f).toNat)
 case atStart=>exact⟨0,Q0,rfl,⟨0,rfl,Aa (by simp[zBz])⟩,rfl⟩
 case round =>
  obtain⟨i,G,rfl,⟨y,rfl,d⟩,rfl⟩:=hrel
  by_cases J:i<K
  ·have q:decide ((i:Int)<(K:Int))=true:=Bl Q0
   have j:i<S.size:=Q0
   have l:y<72057594037927936:=by
    have c:=zBE (S.data.toList.take i);rw[<-d.out,BO] at c;have o:256 ^ min i S.data.toList.length<=256 ^ 7:=Jj Q5 Q0
    exact Iy c (BU o Q5)
   obtain⟨p,r⟩:=Qe (S[i]'j);have k:S.data.toList.take (i+1)=S.data.toList.take i++[p]:=by rw[<-r];rw[Ep (by simpa using j)];rfl
   have u:=zAZ y p l;have t:=Aa k;clear k l
   go_wp2_with fail
   go_roundw
   case rel =>
    refine⟨i+1,Q0,by go_num,⟨y*256+p.toNat,by first|rfl|rw[u],?_⟩,trivial⟩
    show _=_
    rw[t.out,zmE,d.out]
   case measure=>simp[intOf];omega
  ·obtain rfl:i=K:=Q0
   have q:decide ((i:Int)<(i:Int))=false:=AV Q0
   obtain rfl:y=x:=d.trans n;have A:((y:Int)/ 9223372036854775808)=0:=Q0
   have B:IntKind.i64.wrap (y:Int)=(y:Int):=AU _ Q0
   go_wp2_with fail
   go_ret
   refine⟨rfl,?_,(((Ab.refl b wr).set 0 _).set 1 _)⟩;have c:=Ak (Ak m 0 (.string (S.extract i S.size))) 1 (.bool false);simpa using c
