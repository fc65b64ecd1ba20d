import Derived.Test.YtoejfkeofbdalaaGreatDoorProg
import Derived.WalkKit
import Derived.WalkSpells
import Derived.WalkLawsBesides
import Derived.Lib.Hide
import Derived.Maps.AppendAt
import Derived.RangeFuncBox
import Derived.Laws.OwnMore
import Derived.Deep.AppendLies
import Derived.OwnWalk
import Derived.Shelf.Abstract
import Derived.Deep.QuietTactic
import Derived.BigQuiet
set_option linter.unusedVariables false
set_option maxRecDepth 100000
set_option maxHeartbeats 8000000
namespace Go.Proofs.YtoejfkeofbdalaaGreatDoor
open Go.RowKit
def Rd (w:World) (B k:Nat) (v:Value) (n:Nat) (xs:List Value):Prop :=
  xs.length=n*k∧∃ A cap,v=.slice A n cap∧n≤cap∧cap≤maxLen ∧
    (0<n→∃ g o,A=some ⟨g,o,none⟩∧g<B∧∀ (i:Nat) (x:Value),xs[i]?=some x→w.cell? ⟨g,o+i,none⟩=some x)
theorem Rd.below {w w':World} {B B' k n:Nat} {v:Value} {xs:List Value} (h:Rd w B k v n xs) (hB:Below B' w w') (hle:B≤B'):Rd w' B k v n xs:=by
  obtain⟨h1,A,cap,hv,h2,h3,h4⟩:=h;refine⟨h1,A,cap,hv,h2,h3,fun hn=>?_⟩;obtain⟨g,o,hA,hg,hc⟩:=h4 hn;exact⟨g,o,hA,hg,fun i x hx=>(hB.cell (p:=⟨g,o+i,none⟩) (by simp;omega)).trans (hc i x hx)⟩
theorem Rd.mono {w:World} {B B' k n:Nat} {v:Value} {xs:List Value} (h:Rd w B k v n xs) (hle:B≤B'):Rd w B' k v n xs:=by
  obtain⟨h1,A,cap,hv,h2,h3,h4⟩:=h;refine⟨h1,A,cap,hv,h2,h3,fun hn=>?_⟩;obtain⟨g,o,hA,hg,hc⟩:=h4 hn;exact⟨g,o,hA,by omega,hc⟩
theorem Rd.keep {w w':World} {B k n:Nat} {v:Value} {xs:List Value} (h:Rd w B k v n xs) (hk:∀ j o,j<B→w'.cell? ⟨j,o,none⟩=w.cell? ⟨j,o,none⟩):Rd w' B k v n xs:=by
  obtain⟨h1,A,cap,hv,h2,h3,h4⟩:=h;refine⟨h1,A,cap,hv,h2,h3,fun hn=>?_⟩;obtain⟨g,o,hA,hg,hc⟩:=h4 hn;exact⟨g,o,hA,hg,fun i x hx=>(hk g (o+i) hg).trans (hc i x hx)⟩
theorem Rd.nil (w:World) (B k:Nat):Rd w B k (.slice none 0 0) 0 []:=⟨by simp,none,0,rfl,Nat.le_refl _,Nat.zero_le _,fun h=>absurd h (Nat.lt_irrefl _)⟩
theorem Rd.own {w:World} {base e k n:Nat} {v:Value} {xs:List Value} (h:w.ownsRow base e k v n xs):Rd w w.heap.size k v n xs:=by
  refine⟨h.1,?_⟩;rcases h.2 with ⟨rfl,rfl⟩ | ⟨g,cap,cur,rfl,hb,hg,hnc,hcm,hcs,htake⟩
  · exact⟨none,0,rfl,Nat.le_refl _,Nat.zero_le _,fun h=>absurd h (Nat.lt_irrefl _)⟩
  · refine⟨some ⟨g,0,none⟩,cap,rfl,hnc,hcm,fun _=>⟨g,0,rfl,?_,fun i x hx=>?_⟩⟩
    · rcases Nat.lt_or_ge g w.heap.size with hlt | hge
      · exact hlt
      · rw[Array.getElem?_eq_none hge] at hg;cases hg
    · have hc:w.cell? ⟨g,i,none⟩=cur[i]?:=by simp[World.cell?,hg]
      rw[Nat.zero_add,hc];rw[←htake,List.getElem?_take] at hx;split at hx
      · simpa using hx
      · cases hx
theorem Rd.new (w:World) (cs:Array Value) (t k n:Nat) (h:cs.size=n*k) (hn:n≤maxLen) :
    Rd (w.alloc (.cells cs t)) (w.heap.size+1) k (.slice (some ⟨w.heap.size,0,none⟩) n n) n cs.toList:=by
  refine⟨by simpa using h,_,n,rfl,Nat.le_refl _,hn,fun _=>⟨w.heap.size,0,rfl,Nat.lt_succ_self _,fun i x hx=>?_⟩⟩
  have:(w.alloc (.cells cs t)).heap[w.heap.size]?=some (.cells cs t (0,0)):=heap_alloc_new w _;simp only[World.cell?,this,Nat.zero_add];simpa using hx
theorem Rd.addr {w:World} {B k n:Nat} {A:Option Addr} {len cap:Nat} {xs:List Value} (h:Rd w B k (.slice A len cap) n xs) (hn:0<n) :
    ∃ g o,A=some ⟨g,o,none⟩∧g<B∧∀ (i:Nat) (x:Value),xs[i]?=some x→w.cell? ⟨g,o+i,none⟩=some x:=by
  obtain⟨h1,A',cap',hv,h2,h3,h4⟩:=h;injection hv with e1 e2 e3
  subst e1 e2 e3;exact h4 hn
theorem Rd.one {w:World} {B n:Nat} {A:Option Addr} {len cap:Nat} {xs:List Value} (h:Rd w B 1 (.slice A len cap) n xs) (i:Nat) (hi:i<n) :
    len=n∧∃ g o x,A=some ⟨g,o,none⟩∧g<B∧xs[i]?=some x∧w.cell? ⟨g,o+i,none⟩=some x:=by
  obtain⟨h1,A',cap',hv,h2,h3,h4⟩:=h;injection hv with e1 e2 e3
  subst e1 e2 e3;obtain⟨g,o,hA,hg,hc⟩:=h4 (by omega)
  have hx:xs[i]?=some (xs[i]'(by omega)):=List.getElem?_eq_getElem (by omega)
  exact⟨rfl,g,o,_,hA,hg,hx,hc i _ hx⟩
def zaj (xs:List Int):List Value:=xs.map (.int .i64)
theorem zak (xs:List Int):(zaj xs).length=xs.length:=by simp[zaj]
theorem getElem?_intCells (xs:List Int) (i:Nat):(zaj xs)[i]?=xs[i]?.map (.int .i64):=by simp[zaj]
theorem zcu (xs ys:List Int):zaj (xs++ys)=zaj xs++zaj ys:=by simp[zaj]
theorem zly (xs:List Int):∀ u∈zaj xs,u.oneCell'=true:=by
  intro u hu;simp only[zaj,List.mem_map] at hu;obtain⟨x,_,rfl⟩:=hu;rfl
def IsInts (w:World) (B:Nat) (v:Value) (xs:List Int):Prop:=Rd w B 1 v xs.length (zaj xs)
theorem IsInts.below {w w':World} {B B':Nat} {v:Value} {xs:List Int} (h:IsInts w B v xs) (hB:Below B' w w') (hle:B≤B'):IsInts w' B v xs:=Rd.below h hB hle
theorem IsInts.mono {w:World} {B B':Nat} {v:Value} {xs:List Int} (h:IsInts w B v xs) (hle:B≤B'):IsInts w B' v xs:=Rd.mono h hle
theorem IsInts.shape {w:World} {B:Nat} {v:Value} {xs:List Int} (h:IsInts w B v xs):∃ A cap,v=.slice A xs.length cap∧xs.length≤cap∧cap≤maxLen:=by
  obtain⟨_,A,cap,hv,h2,h3,_⟩:=h;exact⟨A,cap,hv,h2,h3⟩
theorem IsInts.at {w:World} {B:Nat} {A:Option Addr} {len cap:Nat} {xs:List Int} (h:IsInts w B (.slice A len cap) xs) (i:Nat) (hi:i<xs.length) :
    ∃ g o,A=some ⟨g,o,none⟩∧g<B∧w.cell? ⟨g,o+i,none⟩=some (.int .i64 (xs[i]?.getD 0)):=by
  obtain⟨_,g,o,x,hA,hg,hx,hc⟩:=Rd.one h i hi;rw[getElem?_intCells] at hx;refine⟨g,o,hA,hg,?_⟩;rw[hc,←hx,List.getElem?_eq_getElem hi];rfl
theorem zva {n:Int} (h:(Lit.int .i64 n).wf=true):-9223372036854775808≤n∧n≤9223372036854775807:=by
  simpa [Lit.wf,IntKind.min,IntKind.max,IntKind.signed,IntKind.bits] using h
def I64s (xs:List Int):Prop:=∀ x∈xs,-9223372036854775808≤x∧x≤9223372036854775807
theorem I64s.take {xs:List Int} (h:I64s xs) (n:Nat):I64s (xs.take n):=fun x hx=>h x (List.mem_of_mem_take hx)
theorem zbU {k:IntKind} {a b:Int} (h:a=b):Ending.returned (.int k a) = .returned (.int k b):=by rw[h]
theorem zfy {a b:Bool} (h:a=b):Ending.returned (.bool a) = .returned (.bool b):=by rw[h]
theorem zvO {W w1:World} (hb:Below W.heap.size W w1):(∀ b o,b<W.heap.size→w1.cell? ⟨b,o,none⟩=W.cell? ⟨b,o,none⟩)∧(∀ b o,b<W.heap.size→w1.frozen? ⟨b,o,none⟩=W.frozen? ⟨b,o,none⟩) :=
  ⟨fun b o h=>hb.cell (p:=⟨b,o,none⟩) h,fun b o h=>hb.frozen (p:=⟨b,o,none⟩) h⟩
theorem zaa {w:World} {b:Nat} {cs:Array Value} {t:TypeId} (h:w.heap[b]?=some (.cells cs t (0,0))) (i:Nat):w.cell? ⟨b,i,none⟩=cs[i]?:=by
  simp[World.cell?,h]
theorem zac {w:World} {b:Nat} {cs:Array Value} {t:TypeId} (h:w.heap[b]?=some (.cells cs t (0,0))) (i:Nat):w.frozen? ⟨b,i,none⟩=false:=by
  simp[World.frozen?,h]
theorem zab {w:World} {b:Nat} {o:Obj} (h:w.heap[b]?=some o):b<w.heap.size:=by
  rcases Nat.lt_or_ge b w.heap.size with hlt | hge
  · exact hlt
  · rw[Array.getElem?_eq_none hge] at h;cases h
theorem zaf {w:World} {b:Nat} {cs:Array Value} {t:TypeId} (h:w.heap[b]?=some (.cells cs t (0,0))) (i:Nat) (u:Value) :
    (w.setCell ⟨b,i,none⟩ u).heap[b]?=some (.cells (cs.setIfInBounds i u) t (0,0)):=by
  simp[World.setCell,Array.getElem?_modify,h]
theorem zaN {w:World} {base:Nat} {e:TypeId} {size n:Nat} {v:Value} {xs:List Value} {g:Nat} (h:w.ownsRow base e size v n xs) (hg:v.ownBlock=some g):∃ c,w.heap[g]?=some (.cells c e (0,0)):=by
  rcases h.2 with ⟨rfl,_⟩ | ⟨g',cap,cur,rfl,_,hh,_⟩
  · simp[Value.ownBlock] at hg
  · have:g'=g:=by simpa [Value.ownBlock] using hg
    subst this;exact⟨_,hh⟩
theorem zah {w:World} {k:Nat} {o:Obj} (o':Obj) (h:w.heap[k]?=some o):(w.alloc o').heap[k]?=some o:=(Below.heap_alloc w o' k (zab h)).trans h
theorem zae (w:World) (o:Obj) (k:Nat) (h:k=w.heap.size):(w.alloc o).heap[k]?=some o:=by subst h;exact heap_alloc_new w o
theorem hmf:∀ (fn:Fn) (first cap:Array Value) (w:World),(Instr.makeFunc fn first cap).run Tryz.prog w=.ok (.func fn first cap) w:=fun _ _ _ _=>rfl
theorem zcq:(Tryz.prog.info? 3).map (fun i=>(i.zero,i.size,i.bytes))=some (some (.int .i64 0),1,8):=by kernel_rfl
theorem zcF {W:World} {base b2:Nat} {e:TypeId} {size:Nat} {v:Value} {k:Nat} {xs:List Value} (h:W.ownsRow base e size v k xs) (hb:b2≤base):W.ownsRow b2 e size v k xs:=by
  refine⟨h.1,?_⟩;rcases h.2 with h0 | ⟨g,cap,cur,e1,e2,e3⟩
  · exact .inl h0
  · exact .inr ⟨g,cap,cur,e1,by omega,e3⟩
theorem zco (w:World) (t:TypeId) (v:Value) (k:Nat) (h:k=w.heap.size):Boxed (w.alloc (.cells #[v] t)) k t v:=by subst h;exact Boxed.new w t v
theorem zh9 {W w1:World} {base B:Nat} {t e:TypeId} {size:Nat} {v v':Value} {k m:Nat} {xs ys:List Value} {tmp:Obj}
    (hv:Boxed W B t v) (hte:t≠e) (hrow:W.ownsRow base e size v k xs) (hbase:base≤W.heap.size)
    (hown':w1.ownsRow base e size v' m ys) (hgrow:(W.alloc tmp).grownBy w1 v.ownBlock) :
    Boxed w1 B t v∧Boxed (w1.setCell ⟨B,0,none⟩ v') B t v'∧(w1.setCell ⟨B,0,none⟩ v').ownsRow base e size v' m ys∧KeepsOthers W (w1.setCell ⟨B,0,none⟩ v')∧(∀ b,b<base→b≠B→(w1.setCell ⟨B,0,none⟩ v').heap[b]?=W.heap[b]?)∧(∀ n₀,n₀≤base→n₀≤B→Below n₀ W (w1.setCell ⟨B,0,none⟩ v')):=by
  have hrow':=hrow.2
  have hblk:∀ j,v.ownBlock=some j→base≤j:=fun j ej=>by
    rcases hrow' with ⟨rfl,_⟩ | ⟨g,cap,cur,rfl,hb,_,_⟩
    · simp[Value.ownBlock] at ej
    · obtain rfl:g=j:=by simpa [Value.ownBlock] using ej
      exact hb
  have hv1:Boxed w1 B t v:=(hv.alloc tmp).kept hgrow (hv.not_row hte hrow);refine⟨hv1,hv1.set v',hown'.kept (grownBy_setCell' w1 B v') (.inr (hv1.not_row hte hown').symm),?_,?_,?_⟩
  · refine ((KeepsOthers.alloc W tmp).trans (KeepsOthers.of_grownBy hgrow fun j o ej hj=>?_)).trans (KeepsOthers.setCell _ _ _)
    rcases (hrow.alloc tmp).2 with ⟨rfl,_⟩ | ⟨g,cap,cur,rfl,_,hgb,_⟩
    · simp[Value.ownBlock] at ej
    · obtain rfl:g=j:=by simpa [Value.ownBlock] using ej
      rw[hgb] at hj;cases hj;rfl
  · intro b hb hne
    rw[Below.heap_setCell _ _ _ _ hne];rw[hgrow.block b (by simp;omega) (fun e=>by have:=hblk b e.symm;omega)]
    exact Below.heap_alloc _ _ _ (by omega)
  · intro n₀ h1 h2
    exact (((Below.refl n₀ W).alloc (by omega) tmp).grown hgrow (by simp;omega) fun j ej=>by have:=hblk j ej;omega).setCell (p:=⟨B,0,none⟩) h2 v'
theorem zbH {fn:Func} {p:Tmp} {ty:TypeId} (h:fn.results=#[.cell p ty]) (tmps:Array Value) (P:Program) (w:World) (a:Addr) (v:Value) (hp:tmps.getD p undef=.pointer (some a)) (hl:(loadVar ty a).run P w=.ok v w):(results fn tmps).run P w=.ok v w:=by
  have hp':tmps[p]?.getD undef=.pointer (some a):=by simpa using hp
  simp[results,h,hp',asAddr,hl]
theorem zag {W W':World} {base e size k:Nat} {v:Value} {xs:List Value} (h:W.ownsRow base e size v k xs) (hB:Below W.heap.size W W'):W'.ownsRow base e size v k xs:=by
  refine⟨h.1,?_⟩;rcases h.2 with h0 | ⟨g,cap,cur,e1,e2,e3,e4⟩
  · exact .inl h0
  · exact .inr ⟨g,cap,cur,e1,e2,(hB.block g (zab e3)).trans e3,e4⟩
theorem zgS {W:World} {base e:Nat} {v:Value} {k:Nat} {xs:List Value} (h:W.ownsRow base e 1 v k xs):∃ q c,v=.slice q k c:=by
  rcases h.2 with ⟨rfl,rfl⟩ | ⟨g,cap,cur,rfl,_⟩
  · exact⟨_,_,rfl⟩
  · exact⟨_,_,rfl⟩
theorem zaF {W:World} {base e size k j:Nat} {v:Value} {xs:List Value} (h:W.ownsRow base e size v k xs) (ej:v.ownBlock=some j):base≤j:=by
  rcases h.2 with ⟨rfl,_⟩ | ⟨g,cap,cur,rfl,hb,_⟩
  · simp[Value.ownBlock] at ej
  · obtain rfl:g=j:=by simpa [Value.ownBlock] using ej
    exact hb
def ints (l:List Nat):List Int:=l.map fun a:Nat=>(a:Int)
theorem zad (l:List Nat):(ints l).length=l.length:=by simp[ints]
def OwnInts (w:World) (base:Nat) (v:Value) (xs:List Int):Prop:=w.ownsRow base 3 1 v xs.length (zaj xs)
theorem OwnInts.nil (w:World) (base:Nat):OwnInts w base (.slice none 0 0) []:=World.ownsRow_nil _ _ _ _
theorem OwnInts.is {w:World} {base:Nat} {v:Value} {xs:List Int} (h:OwnInts w base v xs):IsInts w w.heap.size v xs:=Rd.own h
theorem OwnInts.below {w w':World} {base:Nat} {v:Value} {xs:List Int} (h:OwnInts w base v xs) (hB:Below w.heap.size w w'):OwnInts w' base v xs:=zag h hB
theorem OwnInts.mono {w:World} {base b2:Nat} {v:Value} {xs:List Int} (h:OwnInts w base v xs) (hb:b2≤base):OwnInts w b2 v xs:=zcF h hb
theorem OwnInts.shape {w:World} {base:Nat} {v:Value} {xs:List Int} (h:OwnInts w base v xs):∃ q c,v=.slice q xs.length c:=zgS h
theorem OwnInts.alloc {w:World} {base:Nat} {v:Value} {xs:List Int} (h:OwnInts w base v xs) (o:Obj):OwnInts (w.alloc o) base v xs:=World.ownsRow.alloc h o
theorem IsInts.nil (w:World) (B:Nat):IsInts w B (.slice none 0 0) []:=Rd.nil w B 1
theorem IsInts.keep {w w':World} {B:Nat} {v:Value} {xs:List Int} (h:IsInts w B v xs) (hk:∀ j o,j<B→w'.cell? ⟨j,o,none⟩=w.cell? ⟨j,o,none⟩):IsInts w' B v xs:=Rd.keep h hk
theorem IsInts.new (w:World) (xs:List Int) (cs:Array Value) (k n:Nat) (hk:k=w.heap.size) (hn:n=xs.length) (h:cs.toList=zaj xs) (hl:xs.length≤maxLen) :
    IsInts (w.alloc (.cells cs 3)) (w.heap.size+1) (.slice (some ⟨k,0,none⟩) n n) xs:=by
  subst hk hn;have hs:cs.size=xs.length*1:=by rw[←Array.length_toList,h,zak];omega
  have:=Rd.new w cs 3 1 xs.length hs hl;rw[h] at this;exact this
theorem zbN {P:Program} (w:World) (base:Nat) (t ty e:TypeId) (i:TypeInfo) (z:Value) (size bytes:Nat) (ht:P.underlying t=some (.slice e)) (hi:P.info? e=some i) (hz:i.zero=some z)
    (hsize:i.size=size) (hby:i.bytes=bytes) (hzs:z.cells.size=size) (hsz:0<size)
    (v:Value) (n:Nat) (xs:List Value) (hown:w.ownsRow base e size v n xs)
    (B m:Nat) (u:Value) (news:List Value) (hr:Rd w B size u m news) (h1:∀ c∈news,c.oneCell'=true)
    (h63:n+m≤maxLen) (hbytes:(n+m)*bytes≤140737488355328) (hbase:base≤w.heap.size) :
    ∃ v' w',(Builtin.append_ #[t,t] ty #[v,u]).run P w=.ok v' w'∧w'.ownsRow base e size v' (n+m) (xs++news)∧w.grownBy w' v.ownBlock∧(v'.ownBlock=v.ownBlock∨v'.ownBlock=some w.heap.size):=by
  obtain⟨hl,A,cap,rfl,hc1,hc2,hc3⟩:=hr;cases A with
  | none =>
    have hm:m=0:=by
      rcases Nat.eq_zero_or_pos m with h0 | h0
      · exact h0
      · obtain⟨g,o,hq,_⟩:=hc3 h0;cases hq
    subst hm;have hn:news=[]:=List.eq_nil_of_length_eq_zero (by simpa using hl)
    subst hn;refine⟨v,w,?_,by simpa using hown,World.grownBy.refl w _,.inl rfl⟩
    rcases hown.2 with ⟨rfl,rfl⟩ | ⟨g,cp,cur,rfl,_,_,hnc,_⟩
    · simp[Builtin.append_,run_underlying ht,sizeOf,typeInfo,hi,Builtin.lenOf,Builtin.firstCells]
    · simp[Builtin.append_,run_underlying ht,sizeOf,typeInfo,hi,Builtin.lenOf,Builtin.firstCells,hnc,storeCells]
  | some ad =>
    have hcells:∀ j c,news[j]?=some c→w.cell? (ad.add j)=some c:=by
      intro j c hj;rcases Nat.eq_zero_or_pos m with h0 | h0
      · subst h0
        have hn:news=[]:=List.eq_nil_of_length_eq_zero (by simpa using hl)
        subst hn;simp at hj
      · obtain⟨g,o,hq,_,hc⟩:=hc3 h0
        injection hq with hq
        subst hq;rw[show (⟨g,o,none⟩:Addr).add j=⟨g,o+j,none⟩ by unfold Addr.add;split <;> simp_all]
        exact hc j c hj
    obtain⟨v',w',hrun,h2,h3,_,h5⟩:=run_append_own_at (P:=P) w base t ty e i z size bytes ht hi hz hsize hby hzs hsz v n xs hown ad m cap news hl hcells h1 h63 hbytes hbase;exact⟨v',w',hrun,h2,h3,h5⟩
theorem zb6 {P:Program} {w:World} {ops:Array Oper} {rest:List Oper} {o:Oper} {a:Act} {Q:Exit→Act→World→Prop} (hgd:o.guard=none) (s x:Operand) (t:TypeId)
    (ho:o.op=.call { callee:=.builtin .append,args:=#[s,x],argTypes:=#[t,t] })
    (base:Nat) (e:TypeId) (i:TypeInfo) (z:Value) (size bytes:Nat) (ht:P.underlying t=some (.slice e)) (hi:P.info? e=some i) (hz:i.zero=some z)
    (hsize:i.size=size) (hby:i.bytes=bytes) (hzs:z.cells.size=size) (hsz:0<size)
    (v:Value) (n:Nat) (xs:List Value) (hs:a.eval s=v) (hown:w.ownsRow base e size v n xs)
    (B m:Nat) (u:Value) (news:List Value) (hx:a.eval x=u) (hr:Rd w B size u m news) (h1:∀ c∈news,c.oneCell'=true)
    (h63:n+m≤maxLen) (hbytes:(n+m)*bytes≤140737488355328) (hbase:base≤w.heap.size)
    (h:∀ v' w',w'.ownsRow base e size v' (n+m) (xs++news)→w.grownBy w' v.ownBlock→(v'.ownBlock=v.ownBlock∨v'.ownBlock=some w.heap.size)→wpList P ops Q rest (a.put o.dst v') w') :
    wpList P ops Q (o::rest) a w:=by
  refine wpList_plain hgd fun K hK=>?_;obtain⟨v',w',hrun,h2,h3,h4⟩:=zbN (P:=P) w base t o.type e i z size bytes ht hi hz hsize hby hzs hsz v n xs hown B m u news hr h1 h63 hbytes hbase;unfold Oper.wp execOp;simp only[ho,resolve,invoke,builtin,Sem.run_bind,Sem.run_pure,Result.andThen_ok,List.map_toArray,List.map_cons,List.map_nil,hs,hx,hrun];exact hK _ _ (h v' w' h2 h3 h4)
theorem zar {w:World} {ops:Array Oper} {rest:List Oper} {o:Oper} {a:Act} {Q:Exit→Act→World→Prop} (hgd:o.guard=none) (s x:Operand)
    (ho:o.op=.call { callee:=.builtin .append,args:=#[s,x],argTypes:=#[67,67] })
    (base:Nat) (v:Value) (xs:List Int) (hs:a.eval s=v) (hown:OwnInts w base v xs)
    (B:Nat) (u:Value) (ys:List Int) (hx:a.eval x=u) (hr:IsInts w B u ys)
    (hlen:xs.length+ys.length≤17592186044416) (hbase:base≤w.heap.size)
    (h:∀ q c w',OwnInts w' base (.slice q (xs.length+ys.length) c) (xs++ys)→w.grownBy w' v.ownBlock→((Value.slice q (xs.length+ys.length) c).ownBlock=v.ownBlock∨(Value.slice q (xs.length+ys.length) c).ownBlock=some w.heap.size)→wpList Tryz.prog ops Q rest (a.put o.dst (.slice q (xs.length+ys.length) c)) w') :
    wpList Tryz.prog ops Q (o::rest) a w:=by
  obtain⟨i0,hi,hz0,hz1,hz2⟩:=info_parts zcq;refine zb6 hgd s x 67 ho base 3 i0 (.int .i64 0) 1 8 Tryz.underlying67 hi hz0 hz1 hz2 rfl (by decide) v xs.length (zaj xs) hs hown B ys.length u (zaj ys) hx hr (zly ys) (by unfold maxLen;omega) (by omega) hbase ?_
  intro v' w' h2 h3 h4
  have h5:OwnInts w' base v' (xs++ys):=by
    unfold OwnInts;rw[List.length_append,zcu];exact h2
  obtain⟨q,c,rfl⟩:=h5.shape;rw[List.length_append] at *
  exact h q c w' h5 h3 h4
theorem zgQ (g o k:Nat):(⟨g,o,none⟩:Addr).add k=⟨g,o+k,none⟩:=by unfold Addr.add;split <;> simp_all
theorem Rd.cut {w:World} {B k n l h cap:Nat} {A:Option Addr} {xs:List Value} (hr:Rd w B k (.slice A n cap) n xs) (h1:l≤h) (h2:h≤n) :
    Rd w B k (sliced A l h cap k) (h-l) ((xs.take (h*k)).drop (l*k)):=by
  obtain⟨e1,A',cap',hv,e2,e3,e4⟩:=hr;injection hv with a1 a2 a3
  subst a1 a3;have hle:l*k≤h*k:=Nat.mul_le_mul_right k h1;have hle2:h*k≤n*k:=Nat.mul_le_mul_right k h2;refine⟨by rw[List.length_drop,List.length_take,e1,Nat.sub_mul];omega,_,_,rfl,by omega,by omega,fun hn=>?_⟩
  obtain⟨g,o,rfl,hg,hc⟩:=e4 (by omega)
  refine⟨g,o+l*k,?_,hg,fun i x hx=>?_⟩
  · rw[if_neg (by omega),Option.map_some,zgQ]
  · rw[List.getElem?_drop,List.getElem?_take] at hx
    split at hx
    · rw[show o+l*k+i=o+(l*k+i) by omega];exact hc _ x hx
    · simp at hx
theorem zdF:Tryz.prog.elem 67=3:=by kernel_rfl
theorem zea (w:World):(sizeOf 3).run Tryz.prog w=.ok 1 w:=by
  obtain⟨i0,hi,_,hz1,_⟩:=info_parts zcq;simp[sizeOf,typeInfo,hi,hz1]
theorem zcY:Tryz.prog.underlying 67=some (.slice (Tryz.prog.elem 67)):=by rw[zdF];exact Tryz.underlying67
theorem IsInts.cut {w:World} {B n cap:Nat} {A:Option Addr} {xs:List Int} (hv:IsInts w B (.slice A n cap) xs) (l h:Nat) (h1:l≤h) (h2:h≤n) :
    ∃ v,IsInts w B v ((xs.take h).drop l)∧(∃ q c,v=.slice q (h-l) c)∧(∀ W,(Instr.slice 67 (.slice A n cap) (some (.int .i64 (l:Int))) (some (.int .i64 (h:Int))) none).run Tryz.prog W=.ok v W) ∧
      (h=n→∀ W,(Instr.slice 67 (.slice A n cap) (some (.int .i64 (l:Int))) none none).run Tryz.prog W=.ok v W)∧(l=0→∀ W,(Instr.slice 67 (.slice A n cap) none (some (.int .i64 (h:Int))) none).run Tryz.prog W=.ok v W):=by
  obtain⟨q,c,e,hc1,hc2⟩:=hv.shape;injection e with e1 e2 e3
  subst e1 e2 e3;refine⟨sliced A l h cap 1,?_,⟨_,_,rfl⟩,fun W=>?_,fun e W=>?_,fun e W=>?_⟩
  · have hr:=Rd.cut (l:=l) (h:=h) (show Rd w B 1 (.slice A xs.length cap) xs.length (zaj xs) from hv) h1 h2
    unfold IsInts;have e5:((zaj xs).take (h*1)).drop (l*1)=zaj ((xs.take h).drop l):=by simp[zaj]
    have e6:((xs.take h).drop l).length=h-l:=by rw[List.length_drop,List.length_take];omega
    rw[e5] at hr;rw[e6];exact hr
  · rw[run_slice_lh W _ _ _ _ zcY _ _ _ _ (by omega) (by omega) (by omega),zdF,zea];rfl
  · subst e
    rw[run_slice_l W _ _ _ _ zcY _ _ (by omega) (by omega),zdF,zea];rfl
  · subst e
    rw[run_slice_h W _ _ _ _ zcY _ _ (by omega) (by omega),zdF,zea];rfl
theorem OwnInts.new (w:World) (base:Nat) (xs:List Int) (cs:Array Value) (k n:Nat) (hk:k=w.heap.size) (hn:n=xs.length) (h:cs.toList=zaj xs) (hl:xs.length≤maxLen) (hb:base≤w.heap.size) :
    OwnInts (w.alloc (.cells cs 3)) base (.slice (some ⟨k,0,none⟩) n n) xs:=by
  subst hk hn;have hs:cs.size=xs.length:=by rw[←Array.length_toList,h,zak]
  refine⟨by rw[zak];omega,.inr ⟨w.heap.size,xs.length,cs,rfl,hb,heap_alloc_new w _,Nat.le_refl _,hl,by omega,?_⟩⟩
  rw[h,List.take_of_length_le (by rw[zak];omega)]
theorem za2 (n:Nat) (hn:n≤17592186044416):∃ cs:Array Value,cs.toList=zaj (List.replicate n 0)∧∀ W,(Instr.makeSlice 67 (.int .i64 (n:Int)) (.int .i64 (n:Int))).run Tryz.prog W=.ok (.slice (some ⟨W.heap.size,0,none⟩) n n) (W.alloc (.cells cs 3)):=by
  obtain⟨i0,hi,hz0,hz1,hz2⟩:=info_parts zcq;refine⟨madeCells #[.int .i64 0] (n*1),?_,fun W=>?_⟩
  · rw[toList_madeCells_one,Nat.mul_one];simp[zaj]
  · have:=run_make (P:=Tryz.prog) W 67 3 i0 (.int .i64 0) Tryz.underlying67 hi hz0 .i64 .i64 n n (by omega) (by omega) (by rw[hz2];omega) (by omega)
    rw[hz1,Int.toNat_natCast] at this;exact this
def Live (w0 W:World) (l:List (Value × List Int)):Prop:=Below w0.heap.size w0 W∧∀ p∈l,IsInts W W.heap.size p.1 p.2
theorem Live.nil (w:World):Live w w []:=⟨Below.refl _ _,fun p hp=>by simp at hp⟩
theorem Live.bel {w0 W:World} {l:List (Value × List Int)} (h:Live w0 W l):Below w0.heap.size w0 W:=h.1
theorem Live.step {w0 W W':World} {l:List (Value × List Int)} (h:Live w0 W l) (hB:Below W.heap.size W W'):Live w0 W' l :=
  ⟨h.1.trans (hB.mono h.1.size),fun p hp=>((h.2 p hp).below hB (Nat.le_refl _)).mono hB.size⟩
theorem Live.add {w0 W:World} {l:List (Value × List Int)} {v:Value} {xs:List Int} (h:Live w0 W l) (hv:IsInts W W.heap.size v xs):Live w0 W ((v,xs)::l) :=
  ⟨h.1,fun p hp=>by
    rcases List.mem_cons.1 hp with rfl | hp
    · exact hv
    · exact h.2 p hp⟩
theorem Live.get {w0 W:World} {l:List (Value × List Int)} {v:Value} {xs:List Int} (h:Live w0 W l) (i:Nat) (hi:l[i]?=some (v,xs)):IsInts W W.heap.size v xs:=h.2 (v,xs) (List.mem_of_getElem? hi)
theorem Live.drew {w0 W:World} {l:List (Value × List Int)} (h:Live w0 W l):Live w0 W.drew l:=h.step (Below.refl _ W).drew
theorem Live.alloc {w0 W:World} {l:List (Value × List Int)} (h:Live w0 W l) (o:Obj):Live w0 (W.alloc o) l:=h.step ((Below.refl _ W).alloc (Nat.le_refl _) o)
theorem Live.drop {w0 W:World} {l m:List (Value × List Int)} (h:Live w0 W l) (hm:∀ p∈m,p∈l):Live w0 W m:=⟨h.1,fun p hp=>h.2 p (hm p hp)⟩
theorem Live.lit {w0 W:World} {l:List (Value × List Int)} (h:Live w0 W l) (xs:List Int) (cs:Array Value) (k:Nat) (hk:k=W.heap.size) (hcs:cs.toList=zaj xs) (hl:xs.length≤maxLen) :
    Live w0 (W.alloc (.cells cs 3)) ((.slice (some ⟨k,0,none⟩) xs.length xs.length,xs)::l) :=
  (h.alloc _).add (by have:=IsInts.new W xs cs k xs.length hk rfl hcs hl;exact this.mono (by simp))
theorem Live.old {w0 W:World} {l:List (Value × List Int)} {v:Value} {xs:List Int} (h:Live w0 W l) (hv:IsInts w0 w0.heap.size v xs):IsInts W W.heap.size v xs:=(hv.below h.1 (Nat.le_refl _)).mono h.1.size
theorem Live.size {w0 W:World} {l:List (Value × List Int)} (h:Live w0 W l):w0.heap.size≤W.heap.size:=h.1.size
end Go.Proofs.YtoejfkeofbdalaaGreatDoor
namespace Go.Proofs.YtoejfkeofbdalaaGreatDoor.B
theorem snocRec {α:Type} {motive:List α→Prop} (nil:motive []) (snoc:∀ l b,motive l→motive (l++[b])) (l:List α):motive l:=by
  rw[←List.reverse_reverse l];generalize l.reverse=m
  induction m with
  | nil=>exact nil
  | cons b m ih=>rw[List.reverse_cons];exact snoc _ _ ih
def bitAt (s:List UInt8) (i:Nat):Bool:=(s.getD (i / 8) 0).toNat.testBit (7-i % 8)
def num (l:List Bool):Nat:=l.foldl (fun a b=>2*a+b.toNat) 0
def slice (s:List UInt8) (at_ n:Nat):List Bool:=(List.range n).map fun i=>bitAt s (at_+i)
def low (v n:Nat):List Bool:=(List.range n).map fun i=>v.testBit (n-1-i)
def setLast (s:List UInt8) (m:UInt8):List UInt8:=s.modify (s.length-1) (· ||| m)
def grow (s:List UInt8) (n:Nat):List UInt8:=if n % 8=0 then s++[0] else s
def step (s:List UInt8) (n:Nat) (b:Bool):List UInt8 :=
  if b then setLast (grow s n) (UInt8.ofNat (128 >>> (n % 8))) else grow s n
def zkP (l:List Bool):List UInt8 × Nat:=l.foldl (fun p b=>(step p.1 p.2 b,p.2+1)) ([],0)
def pack (l:List Bool):List UInt8:=(zkP l).1
theorem zpz (l:List Bool):(zkP l).2=l.length:=by
  unfold zkP
  suffices h:∀ (l:List Bool) (p:List UInt8 × Nat),(l.foldl (fun p b=>(step p.1 p.2 b,p.2+1)) p).2=p.2+l.length by simpa using h l ([],0)
  intro l
  induction l with
  | nil=>intro p;simp
  | cons b l ih=>intro p;simp[ih];omega
theorem ztu:pack []=[]:=rfl
theorem pack_snoc (l:List Bool) (b:Bool):pack (l++[b])=step (pack l) l.length b:=by
  unfold pack;have:zkP (l++[b])=(step (zkP l).1 (zkP l).2 b,(zkP l).2+1):=by simp[zkP]
  rw[this,zpz]
theorem length_setLast (s:List UInt8) (m:UInt8):(setLast s m).length=s.length:=by simp[setLast]
theorem zeD (s:List UInt8) (n:Nat):(grow s n).length=s.length+if n % 8=0 then 1 else 0:=by
  unfold grow;split <;> simp
theorem zmA (s:List UInt8) (n:Nat) (b:Bool):(step s n b).length=s.length+if n % 8=0 then 1 else 0:=by
  unfold step;split
  · rw[length_setLast,zeD]
  · rw[zeD]
theorem length_pack (l:List Bool):(pack l).length=(l.length+7) / 8:=by
  induction l using snocRec with
  | nil=>rfl
  | snoc l b ih =>
    rw[pack_snoc,zmA,ih];simp only[List.length_append,List.length_cons,List.length_nil];split <;> omega
theorem zgs (s:List UInt8) (j:Nat):(s++[0]).getD j 0=s.getD j 0:=by
  simp only[List.getD_eq_getElem?_getD,List.getElem?_append];split
  · rfl
  · rename_i h
    rw[List.getElem?_eq_none (l:=s) (by omega)]
    by_cases hj:j-s.length=0
    · rw[hj];rfl
    · rw[List.getElem?_eq_none (by simp;omega)]
theorem zix (s:List UInt8) (n i:Nat):bitAt (grow s n) i=bitAt s i:=by
  unfold grow bitAt;split
  · rw[zgs]
  · rfl
theorem zn6 (r:Nat) (h:r<8):(UInt8.ofNat (128 >>> r)).toNat=2 ^ (7-r):=by
  have:∀ r:Fin 8,(UInt8.ofNat (128 >>> r.val)).toNat=2 ^ (7-r.val):=by decide +kernel
  exact this ⟨r,h⟩
theorem zjG (s:List UInt8) (n i:Nat) (hl:s.length=n / 8+1) :
    bitAt (setLast s (UInt8.ofNat (128 >>> (n % 8)))) i=(bitAt s i || decide (i=n)):=by
  unfold setLast bitAt;simp only[List.getD_eq_getElem?_getD,List.getElem?_modify,hl,Nat.add_sub_cancel]
  by_cases h:n / 8=i / 8
  · have hi:s[i / 8]?=some (s[i / 8]'(by omega)):=List.getElem?_eq_getElem (by omega)
    rw[hi];simp only[Option.map_eq_map,if_pos h,Option.map_some,Option.getD_some,UInt8.toNat_or,Nat.testBit_or,zn6 _ (Nat.mod_lt n (by omega):n % 8<8),Nat.testBit_two_pow]
    congr 1
    rw[Bool.eq_iff_iff];simp only[decide_eq_true_eq];have:=Nat.mod_lt n (show 8 > 0 by omega)
    have:=Nat.mod_lt i (show 8 > 0 by omega)
    omega
  · have:decide (i=n)=false:=by simp;omega
    rw[this,Bool.or_false];simp only[if_neg h];cases s[i / 8]? <;> rfl
theorem znV (s:List UInt8) (n i:Nat) (b:Bool) (hl:s.length=(n+7) / 8) (hc:bitAt s n=false) :
    bitAt (step s n b) i=if i=n then b else bitAt s i:=by
  unfold step;have hg:(grow s n).length=n / 8+1:=by rw[zeD,hl];split <;> omega
  cases b with
  | true =>
    rw[if_pos rfl,zjG _ _ _ hg,zix]
    by_cases h:i=n <;> simp[h]
  | false =>
    rw[if_neg (by simp),zix]
    by_cases h:i=n
    · subst h;simp[hc]
    · simp[h]
theorem bitAt_pack (l:List Bool) (i:Nat):bitAt (pack l) i=l.getD i false:=by
  induction l using snocRec generalizing i with
  | nil=>simp[ztu,bitAt]
  | snoc l b ih =>
    rw[pack_snoc,znV _ _ _ _ (length_pack l) (by rw[ih];simp)]
    simp only[List.getD_eq_getElem?_getD,List.getElem?_append]
    by_cases h:i=l.length
    · subst h;simp
    · rw[if_neg h,ih]
      split
      · simp[List.getD_eq_getElem?_getD]
      · simp only[List.getD_eq_getElem?_getD]
        rw[List.getElem?_eq_none (l:=l) (by omega),List.getElem?_eq_none (by simp;omega)]
theorem byte_ext (a b:UInt8) (h:∀ j,j<8→a.toNat.testBit j=b.toNat.testBit j):a=b:=by
  apply UInt8.toNat_inj.1
  apply Nat.eq_of_testBit_eq
  intro j
  by_cases hj:j<8
  · exact h j hj
  · rw[Nat.testBit_lt_two_pow (Nat.lt_of_lt_of_le a.toNat_lt (Nat.pow_le_pow_right (by omega) (show 8≤j by omega))),Nat.testBit_lt_two_pow (Nat.lt_of_lt_of_le b.toNat_lt (Nat.pow_le_pow_right (by omega) (show 8≤j by omega)))]
theorem ztp (s t:List UInt8) (hl:s.length=t.length) (h:∀ i,i<8*s.length→bitAt s i=bitAt t i):s=t:=by
  apply List.ext_getElem hl
  intro k h1 h2;apply byte_ext
  intro j hj;have:=h (8*k+(7-j)) (by omega)
  unfold bitAt at this;rw[show (8*k+(7-j)) / 8=k by omega,show 7-(8*k+(7-j)) % 8=j by omega] at this
  simpa [List.getD_eq_getElem?_getD,List.getElem?_eq_getElem h1,List.getElem?_eq_getElem h2] using this
def Right (s:List UInt8) (n:Nat):Prop:=s.length=(n+7) / 8∧∀ i,n≤i→i<8*s.length→bitAt s i=false
theorem length_slice (s:List UInt8) (a n:Nat):(slice s a n).length=n:=by simp[slice]
theorem getD_slice (s:List UInt8) (a n i:Nat) (h:i<n):(slice s a n).getD i false=bitAt s (a+i):=by
  simp[slice,List.getD_eq_getElem?_getD,h]
theorem right_pack (l:List Bool):Right (pack l) l.length :=
  ⟨length_pack l,fun i h _=>by rw[bitAt_pack,List.getD_eq_getElem?_getD,List.getElem?_eq_none h];rfl⟩
theorem pack_slice {s:List UInt8} {n:Nat} (h:Right s n):pack (slice s 0 n)=s:=by
  apply ztp
  · rw[length_pack,length_slice,h.1]
  · intro i hi
    rw[length_pack,length_slice,←h.1] at hi;rw[bitAt_pack]
    by_cases hin:i<n
    · rw[getD_slice _ _ _ _ hin,Nat.zero_add]
    · rw[List.getD_eq_getElem?_getD,List.getElem?_eq_none (by rw[length_slice];omega),h.2 i (by omega) hi];rfl
theorem slice_pack (l:List Bool):slice (pack l) 0 l.length=l:=by
  apply List.ext_getElem (length_slice _ _ _)
  intro i h1 h2;have:=getD_slice (pack l) 0 l.length i h2;rw[bitAt_pack,Nat.zero_add,List.getD_eq_getElem?_getD,List.getD_eq_getElem?_getD,List.getElem?_eq_getElem h1,List.getElem?_eq_getElem h2] at this;simpa using this
theorem num_nil:num []=0:=rfl
theorem num_snoc (l:List Bool) (b:Bool):num (l++[b])=2*num l+b.toNat:=by simp[num]
theorem num_lt (l:List Bool):num l<2 ^ l.length:=by
  induction l using snocRec with
  | nil=>simp[num]
  | snoc l b ih =>
    rw[num_snoc,List.length_append,List.length_singleton,Nat.pow_succ];cases b <;> simp <;> omega
theorem num_append (l m:List Bool):num (l++m)=num l*2 ^ m.length+num m:=by
  induction m using snocRec with
  | nil=>simp[num_nil]
  | snoc m b ih =>
    rw[←List.append_assoc,num_snoc,ih,num_snoc,List.length_append,List.length_singleton,Nat.pow_succ];have:2*(num l*2 ^ m.length)=num l*(2 ^ m.length*2):=by rw[Nat.mul_comm 2,Nat.mul_assoc]
    omega
theorem length_low (v n:Nat):(low v n).length=n:=by simp[low]
theorem low_zero (v:Nat):low v 0=[]:=rfl
theorem low_succ (v n:Nat):low v (n+1)=v.testBit n::low v n:=by
  unfold low;rw[List.range_succ_eq_map,List.map_cons,List.map_map];congr 1
  apply List.map_congr_left
  intro i _;simp only[Function.comp];congr 1
  omega
theorem num_low (v n:Nat):num (low v n)=v % 2 ^ n:=by
  induction n with
  | zero=>simp[low,num_nil,Nat.mod_one]
  | succ n ih =>
    rw[low_succ,show v.testBit n::low v n=[v.testBit n]++low v n from rfl,num_append,ih,length_low]
    have h2:v % 2 ^ (n+1)=v % 2 ^ n+2 ^ n*(v / 2 ^ n % 2):=by rw[Nat.pow_succ,Nat.mod_mul]
    have h3:num [v.testBit n]=v / 2 ^ n % 2:=by
      simp only[num,List.foldl_cons,List.foldl_nil,Nat.mul_zero,Nat.zero_add,Nat.testBit_eq_decide_div_mod_eq];rcases Nat.mod_two_eq_zero_or_one (v / 2 ^ n) with h | h <;> simp[h]
    rw[h2,h3,Nat.mul_comm,Nat.add_comm]
theorem slice_succ (s:List UInt8) (a n:Nat):slice s a (n+1)=slice s a n++[bitAt s (a+n)]:=by
  unfold slice;rw[List.range_succ,List.map_append];rfl
theorem slice_append (s:List UInt8) (a n m:Nat):slice s a (n+m)=slice s a n++slice s (a+n) m:=by
  unfold slice;rw[List.range_add,List.map_append,List.map_map];congr 1
  apply List.map_congr_left
  intro i _;simp[Nat.add_assoc]
theorem low_num (l:List Bool):low (num l) l.length=l:=by
  induction l with
  | nil=>simp[low]
  | cons b l ih =>
    rw[List.length_cons,low_succ]
    have h:num (b::l)=b.toNat*2 ^ l.length+num l:=by
      have:=num_append [b] l;simpa [num] using this
    have hlt:=num_lt l;congr 1
    · rw[h,Nat.testBit_eq_decide_div_mod_eq,Nat.add_comm,Nat.add_mul_div_right _ _ (Nat.two_pow_pos _),Nat.div_eq_of_lt hlt]
      cases b <;> simp
    · have e:low (num (b::l)) l.length=low (num l) l.length:=by
        unfold low;apply List.map_congr_left
        intro i hi;rw[List.mem_range] at hi;rw[h];rw[Nat.add_comm,Nat.testBit_eq_decide_div_mod_eq,Nat.testBit_eq_decide_div_mod_eq];congr 2
        obtain⟨d,hd⟩:∃ d,l.length=(l.length-1-i)+(d+1):=⟨i,by omega⟩
        generalize l.length-1-i=j at *
        rw[hd,Nat.pow_add,Nat.pow_succ,show b.toNat*(2 ^ j*(2 ^ d*2))=(b.toNat*2 ^ d*2)*2 ^ j by simp only[Nat.mul_comm,Nat.mul_left_comm,Nat.mul_assoc],Nat.add_mul_div_right _ _ (Nat.two_pow_pos _)]
        omega
      rw[e,ih]
end Go.Proofs.YtoejfkeofbdalaaGreatDoor.B
namespace Go.Proofs.YtoejfkeofbdalaaGreatDoor
def Halved (p:Nat→Bool) (i0 j0 i j:Nat):Prop:=i0≤i∧i≤j∧j≤j0∧(i=i0∨p (i-1)=true)∧(j=j0∨p j=false)
theorem Halved.start (p:Nat→Bool) {i0 j0:Nat} (h:i0≤j0):Halved p i0 j0 i0 j0:=⟨Nat.le_refl _,h,Nat.le_refl _,.inl rfl,.inl rfl⟩
theorem Halved.up {p:Nat→Bool} {i0 j0 i j h:Nat} (H:Halved p i0 j0 i j) (h1:i≤h) (h2:h<j) (hp:p h=true):Halved p i0 j0 (h+1) j:=by
  obtain⟨a,b,c,d,e⟩:=H;exact⟨by omega,by omega,c,.inr (by rwa [Nat.add_sub_cancel]),e⟩
theorem Halved.down {p:Nat→Bool} {i0 j0 i j h:Nat} (H:Halved p i0 j0 i j) (h1:i≤h) (h2:h<j) (hp:p h=false):Halved p i0 j0 i h:=by
  obtain⟨a,b,c,d,e⟩:=H;exact⟨a,h1,by omega,d,.inr hp⟩
section
variable {α:Type} (R:α→α→Prop)
theorem zeb (ht:∀ x y z,R x y→R y z→R x z) {l m:List α} (hl:l.Pairwise R) (hm:m.Pairwise R)
    (h:∀ (hl0:l≠[]) (hm0:m≠[]),R (l.getLast hl0) (m.head hm0)):∀ x∈l,∀ y∈m,R x y:=by
  intro x hx y hy;have hl0:l≠[]:=List.ne_nil_of_mem hx;have hm0:m≠[]:=List.ne_nil_of_mem hy;have h0:=h hl0 hm0
  have hx':x=l.getLast hl0∨R x (l.getLast hl0):=by
    have e:=List.dropLast_concat_getLast hl0;rw[←e] at hl hx;rcases List.mem_append.1 hx with hx | hx
    · exact .inr ((List.pairwise_append.1 hl).2.2 x hx _ (by simp))
    · exact .inl (by simpa using hx)
  have hy':y=m.head hm0∨R (m.head hm0) y:=by
    cases m with
    | nil=>exact absurd rfl hm0
    | cons b m =>
      rcases List.mem_cons.1 hy with rfl | hy
      · exact .inl rfl
      · exact .inr ((List.pairwise_cons.1 hm).1 y hy)
  rcases hx' with rfl | hx' <;> rcases hy' with rfl | hy'
  · exact h0
  · exact ht _ _ _ h0 hy'
  · exact ht _ _ _ hx' h0
  · exact ht _ _ _ (ht _ _ _ hx' h0) hy'
theorem zqa (ht:∀ x y z,R x y→R y z→R x z) (lt:α→α→Bool) {U V:List α} {a m b s:Nat} {mid:Nat} (hmid:mid=(a+b) / 2) (hU:a+U.length=m) (hV:m+V.length=b)
    (hpU:U.Pairwise R) (hpV:V.Pairwise R) (hc:∀ x∈U,∀ y∈V,(lt y x=true→R y x)∧(lt y x=false→R x y))
    (at_:Nat→α) (hat:∀ i (h:i<(U++V).length),at_ (a+i)=(U++V)[i])
    (lo hi:Nat) (hlo:lo=if mid<m then mid+m-b else a) (hhi:hi=if mid<m then mid else m)
    (hs:Halved (fun c=>!lt (at_ (mid+m-1-c)) (at_ c)) lo hi s s) (hUl:0<U.length) (hVl:0<V.length) :
    a≤s∧s≤m∧m≤mid+m-s∧mid+m-s≤b ∧
    (∀ x∈U.take (s-a),∀ y∈V.drop (mid-s),R x y)∧(∀ y∈V.take (mid-s),∀ x∈U.drop (s-a),R y x)∧s≤mid:=by
  obtain⟨h1,_,h2,h3,h4⟩:=hs;have hs1:a≤s:=by rw[hlo] at h1;split at h1 <;> omega
  have hs2:s≤m:=by rw[hhi] at h2;split at h2 <;> omega
  have hs3:s≤mid:=by rw[hhi] at h2;split at h2 <;> omega
  have hs4:mid+m-s≤b:=by rw[hlo] at h1;split at h1 <;> omega
  have hlen:(U++V).length=b-a:=by simp;omega
  have gU:∀ i,(hi:i<U.length)→at_ (a+i)=U[i]:=fun i hi=>by rw[hat i (by simp;omega),List.getElem_append_left hi]
  have gV:∀ i,(hi:i<V.length)→at_ (m+i)=V[i]:=fun i hi=>by
    have:=hat (U.length+i) (by simp;omega)
    rw[List.getElem_append_right (by omega)] at this
    rw[show m+i=a+(U.length+i) by omega,this]
    congr 1;omega
  refine⟨hs1,hs2,by omega,hs4,?_,?_,hs3⟩
  ·
    refine zeb R ht (hpU.sublist (List.take_sublist _ _)) (hpV.sublist (List.drop_sublist _ _)) fun hl0 hm0=>?_
    have hsa:0<s-a:=by
      rcases Nat.eq_zero_or_pos (s-a) with h | h
      · rw[h] at hl0;simp at hl0
      · exact h
    have hms:mid-s<V.length:=by
      rcases Nat.lt_or_ge (mid-s) V.length with h | h
      · exact h
      · exact absurd (List.drop_eq_nil_of_le h) hm0
    rcases h3 with h3 | h3
    · exfalso
      rw[hlo] at h3;split at h3 <;> omega
    · have e1:at_ (s-1)=(U.take (s-a)).getLast hl0:=by
        rw[List.getLast_eq_getElem,List.getElem_take];have:=gU (s-1-a) (by omega)
        rw[show a+(s-1-a)=s-1 by omega] at this
        rw[this];congr 1
        simp;omega
      have e2:at_ (mid+m-1-(s-1))=(V.drop (mid-s)).head hm0:=by
        rw[List.head_drop];have:=gV (mid-s) hms;rw[show m+(mid-s)=mid+m-1-(s-1) by omega] at this
        exact this
      simp only[e1,e2,Bool.not_eq_true'] at h3;exact (hc _ (List.mem_of_mem_take (List.getLast_mem _)) _ (List.mem_of_mem_drop (List.head_mem _))).2 h3
  · refine zeb R ht (hpV.sublist (List.take_sublist _ _)) (hpU.sublist (List.drop_sublist _ _)) fun hl0 hm0=>?_
    have hms:0<mid-s:=by
      rcases Nat.eq_zero_or_pos (mid-s) with h | h
      · rw[h] at hl0;simp at hl0
      · exact h
    have hsa:s-a<U.length:=by
      rcases Nat.lt_or_ge (s-a) U.length with h | h
      · exact h
      · exact absurd (List.drop_eq_nil_of_le h) hm0
    have hvl:mid-s≤V.length:=by omega
    rcases h4 with h4 | h4
    · exfalso
      rw[hhi] at h4;split at h4 <;> omega
    · have e1:at_ (mid+m-1-s)=(V.take (mid-s)).getLast hl0:=by
        rw[List.getLast_eq_getElem,List.getElem_take];have:=gV (mid-s-1) (by omega)
        rw[show m+(mid-s-1)=mid+m-1-s by omega] at this
        rw[this];congr 1
        simp;omega
      have e2:at_ s=(U.drop (s-a)).head hm0:=by
        rw[List.head_drop];have:=gU (s-a) hsa;rw[show a+(s-a)=s by omega] at this
        exact this
      simp only[e1,e2,Bool.not_eq_false'] at h4;exact (hc _ (List.mem_of_mem_drop (List.head_mem _)) _ (List.mem_of_mem_take (List.getLast_mem _))).1 h4
theorem zsM {U1 U2 V1 V2 M1 M2:List α} (h1:M1.Perm (U1++V1)) (h2:M2.Perm (U2++V2)) (p1:M1.Pairwise R) (p2:M2.Pairwise R)
    (hU:(U1++U2).Pairwise R) (hV:(V1++V2).Pairwise R) (h12:∀ x∈U1,∀ y∈V2,R x y) (h21:∀ y∈V1,∀ x∈U2,R y x) :
    (M1++M2).Perm ((U1++U2)++(V1++V2))∧(M1++M2).Pairwise R:=by
  refine⟨(h1.append h2).trans ?_,List.pairwise_append.2 ⟨p1,p2,fun x hx y hy=>?_⟩⟩
  · have:(U1++V1++(U2++V2)).Perm (U1++U2++(V1++V2)):=by
      simp only[List.append_assoc];refine List.Perm.append_left _ ?_;rw[←List.append_assoc,←List.append_assoc];exact List.Perm.append_right _ List.perm_append_comm
    exact this
  · have hx:=(h1.mem_iff).1 hx
    have hy:=(h2.mem_iff).1 hy;rcases List.mem_append.1 hx with hx | hx <;> rcases List.mem_append.1 hy with hy | hy
    · exact (List.pairwise_append.1 hU).2.2 x hx y hy
    · exact h12 x hx y hy
    · exact h21 x hx y hy
    · exact (List.pairwise_append.1 hV).2.2 x hx y hy
theorem zki (ht:∀ x y z,R x y→R y z→R x z) (lt:α→α→Bool) {u:α} {V:List α} {m k:Nat} (hpV:V.Pairwise R)
    (hc:∀ y∈V,(lt y u=true→R y u)∧(lt y u=false→R u y)) (at_:Nat→α) (hat:∀ i (h:i<V.length),at_ (m+i)=V[i])
    (hs:Halved (fun c=>lt (at_ c) u) m (m+V.length) k k) :
    m≤k∧k-m≤V.length∧(V.take (k-m)++u::V.drop (k-m)).Perm (u::V)∧(V.take (k-m)++u::V.drop (k-m)).Pairwise R:=by
  obtain⟨h1,_,h2,h3,h4⟩:=hs;refine⟨h1,by omega,?_,?_⟩
  · refine List.perm_middle.trans ?_
    rw[List.take_append_drop]
  · have hb:∀ x∈V.take (k-m),∀ y∈[u],R x y:=by
      refine zeb R ht (hpV.sublist (List.take_sublist _ _)) (List.pairwise_singleton _ _) fun hl0 hm0=>?_
      have hk:0<k-m:=by
        rcases Nat.eq_zero_or_pos (k-m) with h | h
        · rw[h] at hl0;simp at hl0
        · exact h
      rcases h3 with h3 | h3
      · omega
      · have e1:at_ (k-1)=(V.take (k-m)).getLast hl0:=by
          rw[List.getLast_eq_getElem,List.getElem_take];have:=hat (k-1-m) (by omega)
          rw[show m+(k-1-m)=k-1 by omega] at this
          rw[this];congr 1
          simp;omega
        simp only[e1] at h3;exact (hc _ (List.mem_of_mem_take (List.getLast_mem _))).1 h3
    have ha:∀ x∈[u],∀ y∈V.drop (k-m),R x y:=by
      refine zeb R ht (List.pairwise_singleton _ _) (hpV.sublist (List.drop_sublist _ _)) fun hl0 hm0=>?_
      have hk:k-m<V.length:=by
        rcases Nat.lt_or_ge (k-m) V.length with h | h
        · exact h
        · exact absurd (List.drop_eq_nil_of_le h) hm0
      rcases h4 with h4 | h4
      · omega
      · have e2:at_ k=(V.drop (k-m)).head hm0:=by
          rw[List.head_drop];have:=hat (k-m) hk;rw[show m+(k-m)=k by omega] at this
          exact this
        simp only[e2] at h4;exact (hc _ (List.mem_of_mem_drop (List.head_mem _))).2 h4
    refine List.pairwise_append.2 ⟨hpV.sublist (List.take_sublist _ _),List.pairwise_cons.2 ⟨fun y hy=>ha u (by simp) y hy,hpV.sublist (List.drop_sublist _ _)⟩,fun x hx y hy=>?_⟩
    rcases List.mem_cons.1 hy with rfl | hy
    · exact hb x hx _ (by simp)
    · exact ht _ _ _ (hb x hx u (by simp)) (ha u (by simp) y hy)
theorem zsP (ht:∀ x y z,R x y→R y z→R x z) (lt:α→α→Bool) {v:α} {U:List α} {a k:Nat} (hpU:U.Pairwise R)
    (hc:∀ x∈U,(lt v x=true→R v x)∧(lt v x=false→R x v)) (at_:Nat→α) (hat:∀ i (h:i<U.length),at_ (a+i)=U[i])
    (hs:Halved (fun c=>!lt v (at_ c)) a (a+U.length) k k) :
    a≤k∧k-a≤U.length∧(U.take (k-a)++v::U.drop (k-a)).Perm (U++[v])∧(U.take (k-a)++v::U.drop (k-a)).Pairwise R:=by
  have h:=zki R ht (fun y u=>!lt u y) (u:=v) (V:=U) (m:=a) (k:=k) hpU (fun y hy=>⟨fun h=>(hc y hy).2 (by simpa using h),fun h=>(hc y hy).1 (by simpa using h)⟩) at_ hat hs
  exact⟨h.1,h.2.1,h.2.2.1.trans (by simpa using List.perm_append_comm (l₁:=[v]) (l₂:=U)),h.2.2.2⟩
end
end Go.Proofs.YtoejfkeofbdalaaGreatDoor
