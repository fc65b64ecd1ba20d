import Derived.Test.YtoejfkeofbdalaaGreatDoorM07
import Derived.Maps.OwnSet
import Derived.StringKeys
set_option linter.unusedVariables false
set_option maxRecDepth 100000
set_option maxHeartbeats 8000000
namespace Go.Proofs.YtoejfkeofbdalaaGreatDoor
open Go.RowKit
open Go.Maps (Keyed)
section
variable {P:Program} {ops:Array Oper} {Q:Exit→Act→World→Prop} {md:Region.Mode}
theorem zqP (Inv:Nat→Array Bool→Act→World→Prop) (step:∀ m listed a w i,Inv (m+1) listed a w→i∈Region.ready md ops listed→wpOp P ops Q i (Inv m (listed.setIfInBounds i true)) a w)
    (zero:∀ listed a w,Inv 0 listed a w→Region.ready md ops listed=[]) (done:∀ m listed a w,Inv m listed a w→Region.ready md ops listed=[]→Q .normal a w) :
    ∀ (m:Nat) (listed:Array Bool) (a:Act) (w:World),Inv m listed a w→wpAny P md ops Q m listed a w
  | 0,listed,a,w,h=>⟨zero listed a w h,done _ _ _ _ h (zero listed a w h)⟩
  | m+1,listed,a,w,h=>⟨fun h0=>done _ _ _ _ h h0,fun i hi=>wpOp_mono (fun a' w' h'=>zqP Inv step zero done m _ a' w' h') (step m listed a w i h hi)⟩
theorem zv2 (i:Nat) {oi:Oper} {v:Value} {fuel:Nat} {listed:Array Bool} {a:Act} {w:World} (hi:ops[i]?=some oi)
    (hc:(Region.noSelect ops && Region.free md ops listed i && (Region.ready md ops listed).contains i)=true)
    (hQ:∀ c a w,Q (.panic c) (a.put oi.dst v) w→Q (.panic c) a w) (hw:Region.wanted oi (yielded ops a.tmps)=true)
    (hv:∀ w,(execOp a.eval oi).run P w=.ok (.value v) w)
    (h:wpAny P md ops Q fuel (listed.setIfInBounds i true) (a.put oi.dst v) w):wpAny P md ops Q (fuel+1) listed a w:=by
  simp only[Bool.and_eq_true] at hc;exact wpAny_take hi hc.1.1 hc.1.2 hc.2 hQ (Or.inl ⟨hw,hv⟩) h
end
def znv (db:Nat):List (List UInt8 × Value):=[([112,97,99,107],.agg #[.string ⟨#[110,104]⟩,.func (.func 181) #[.pointer (some ⟨db,0,none⟩)] #[],.bool false]),([109,111,114,101],.agg #[.string ⟨#[110,104]⟩,.func (.func 182) #[.pointer (some ⟨db,0,none⟩)] #[],.bool false]),([116,117,114,110],.agg #[.string ⟨#[110]⟩,.func (.func 183) #[.pointer (some ⟨db,0,none⟩)] #[],.bool false]),([99,117,116],.agg #[.string ⟨#[110]⟩,.func (.func 184) #[.pointer (some ⟨db,0,none⟩)] #[],.bool false]),([98,121,116,101,115],.agg #[.string ⟨#[]⟩,.func (.func 185) #[.pointer (some ⟨db,0,none⟩)] #[],.bool false]),([115,97,121],.agg #[.string ⟨#[]⟩,.func (.func 186) #[.pointer (some ⟨db,0,none⟩)] #[],.bool false]),([105,110,100,101,120],.agg #[.string ⟨#[]⟩,.func (.func 187) #[.pointer (some ⟨db,0,none⟩)] #[],.bool false]),([115,97,118,101],.agg #[.string ⟨#[]⟩,.func (.func 188) #[.pointer (some ⟨db,0,none⟩)] #[],.bool false]),([111,112,101,110],.agg #[.string ⟨#[110,110]⟩,.func (.func 189) #[.pointer (some ⟨db,0,none⟩)] #[],.bool false]),([111,112,101,110,98,121],.agg #[.string ⟨#[110,110]⟩,.func (.func 190) #[.pointer (some ⟨db,0,none⟩)] #[],.bool false]),([114,101,97,100],.agg #[.string ⟨#[110,110,110]⟩,.func (.func 191) #[.pointer (some ⟨db,0,none⟩)] #[],.bool true]),([97,115,107],.agg #[.string ⟨#[110,110,110]⟩,.func (.func 192) #[.pointer (some ⟨db,0,none⟩)] #[],.bool true]),([115,116,101,112],.agg #[.string ⟨#[110]⟩,.func (.func 193) #[.pointer (some ⟨db,0,none⟩)] #[],.bool true]),([115,104,101,108,102],.agg #[.string ⟨#[]⟩,.func (.func 194) #[.pointer (some ⟨db,0,none⟩)] #[],.bool true]),([114,101,97,100,101,114,115],.agg #[.string ⟨#[]⟩,.func (.func 195) #[.pointer (some ⟨db,0,none⟩)] #[],.bool true])]
def zwt:List Nat:=[0,5,6,7,12,13,14,18,22,26,30,34,38,42,46,50,54,58,62,66,70,74,75,76]
def zwR (db:Nat):Array Value:=#[.pointer (some ⟨db,0,none⟩),undef,.map none,undef,.pointer (some ⟨db,0,none⟩),.pointer (some ⟨db,0,none⟩),.pointer (some ⟨db,0,none⟩),.pointer (some ⟨db,0,none⟩),undef,undef,.pointer (some ⟨db,0,none⟩),.pointer (some ⟨db,0,none⟩),.pointer (some ⟨db,0,none⟩),.pointer (some ⟨db,1,none⟩),undef,undef,.pointer (some ⟨db,0,none⟩),.func (.func 181) #[.pointer (some ⟨db,0,none⟩)] #[],.agg #[.string ⟨#[110,104]⟩,.func (.func 181) #[.pointer (some ⟨db,0,none⟩)] #[],.bool false],.pointer (some ⟨db,0,none⟩),.func (.func 182) #[.pointer (some ⟨db,0,none⟩)] #[],.agg #[.string ⟨#[110,104]⟩,.func (.func 182) #[.pointer (some ⟨db,0,none⟩)] #[],.bool false],.pointer (some ⟨db,0,none⟩),.func (.func 183) #[.pointer (some ⟨db,0,none⟩)] #[],.agg #[.string ⟨#[110]⟩,.func (.func 183) #[.pointer (some ⟨db,0,none⟩)] #[],.bool false],.pointer (some ⟨db,0,none⟩),.func (.func 184) #[.pointer (some ⟨db,0,none⟩)] #[],.agg #[.string ⟨#[110]⟩,.func (.func 184) #[.pointer (some ⟨db,0,none⟩)] #[],.bool false],.pointer (some ⟨db,0,none⟩),.func (.func 185) #[.pointer (some ⟨db,0,none⟩)] #[],.agg #[.string ⟨#[]⟩,.func (.func 185) #[.pointer (some ⟨db,0,none⟩)] #[],.bool false],.pointer (some ⟨db,0,none⟩),.func (.func 186) #[.pointer (some ⟨db,0,none⟩)] #[],.agg #[.string ⟨#[]⟩,.func (.func 186) #[.pointer (some ⟨db,0,none⟩)] #[],.bool false],.pointer (some ⟨db,0,none⟩),.func (.func 187) #[.pointer (some ⟨db,0,none⟩)] #[],.agg #[.string ⟨#[]⟩,.func (.func 187) #[.pointer (some ⟨db,0,none⟩)] #[],.bool false],.pointer (some ⟨db,0,none⟩),.func (.func 188) #[.pointer (some ⟨db,0,none⟩)] #[],.agg #[.string ⟨#[]⟩,.func (.func 188) #[.pointer (some ⟨db,0,none⟩)] #[],.bool false],.pointer (some ⟨db,0,none⟩),.func (.func 189) #[.pointer (some ⟨db,0,none⟩)] #[],.agg #[.string ⟨#[110,110]⟩,.func (.func 189) #[.pointer (some ⟨db,0,none⟩)] #[],.bool false],.pointer (some ⟨db,0,none⟩),.func (.func 190) #[.pointer (some ⟨db,0,none⟩)] #[],.agg #[.string ⟨#[110,110]⟩,.func (.func 190) #[.pointer (some ⟨db,0,none⟩)] #[],.bool false],.pointer (some ⟨db,0,none⟩),.func (.func 191) #[.pointer (some ⟨db,0,none⟩)] #[],.agg #[.string ⟨#[110,110,110]⟩,.func (.func 191) #[.pointer (some ⟨db,0,none⟩)] #[],.bool true],.pointer (some ⟨db,0,none⟩),.func (.func 192) #[.pointer (some ⟨db,0,none⟩)] #[],.agg #[.string ⟨#[110,110,110]⟩,.func (.func 192) #[.pointer (some ⟨db,0,none⟩)] #[],.bool true],.pointer (some ⟨db,0,none⟩),.func (.func 193) #[.pointer (some ⟨db,0,none⟩)] #[],.agg #[.string ⟨#[110]⟩,.func (.func 193) #[.pointer (some ⟨db,0,none⟩)] #[],.bool true],.pointer (some ⟨db,0,none⟩),.func (.func 194) #[.pointer (some ⟨db,0,none⟩)] #[],.agg #[.string ⟨#[]⟩,.func (.func 194) #[.pointer (some ⟨db,0,none⟩)] #[],.bool true],.pointer (some ⟨db,0,none⟩),.func (.func 195) #[.pointer (some ⟨db,0,none⟩)] #[],.agg #[.string ⟨#[]⟩,.func (.func 195) #[.pointer (some ⟨db,0,none⟩)] #[],.bool true],undef]
def zpm (v:Value):Option (DataW Value × List MemPlace):=some (.held v,[])
def zvH:List Bool→Nat
  | []=>0
  | b::l=>(if b then 0 else 1)+zvH l
theorem zwT:∀ (l:List Bool) (i:Nat),l[i]?=some false→zvH (l.set i true)+1=zvH l
  | [],i,h=>by simp at h
  | b::l,0,h=>by
    simp at h;subst h;simp[zvH];omega
  | b::l,i+1,h=>by
    simp at h;have:=zwT l i (by simpa using h)
    simp only[List.set_cons_succ,zvH];omega
theorem zwy:∀ (l:List Bool) (i:Nat),l[i]?=some false→0<zvH l
  | [],i,h=>by simp at h
  | b::l,0,h=>by
    simp at h;subst h;simp[zvH];omega
  | b::l,i+1,h=>by
    simp at h;have:=zwy l i (by simpa using h)
    simp only[zvH];omega
theorem zwK {l:Array Bool} {i:Nat} (h:l.getD i true=false):i<l.size∧l.toList[i]?=some false:=by
  by_cases hi:i<l.size
  · refine⟨hi,?_⟩
    simp[Array.getD,hi] at h;simp[hi,h]
  · simp[Array.getD,hi] at h
theorem zwY (l:Array Bool) (i j:Nat) (hi:i<l.size):(l.setIfInBounds i true).getD j false=if i=j then true else l.getD j false:=by
  by_cases h:i=j
  · subst h
    simp[Array.getD,hi]
  · rw[if_neg h]
    simp only[Array.getD,Array.size_setIfInBounds];split
    · rename_i hj
      exact Array.getElem_setIfInBounds_ne hj h
    · rfl
theorem zwq {md:Region.Mode} {ops:Array Oper} {listed:Array Bool} {i:Nat} (h:i∈Region.ready md ops listed) :
    i<ops.size∧listed.getD i true=false∧∀ o,ops[i]?=some o→∀ e∈o.after,Region.binds md e=true→listed.getD e.on false=true:=by
  unfold Region.ready at h;obtain⟨h1,h2⟩:=List.mem_filter.1 h;rw[List.mem_range] at h1;simp only[Bool.and_eq_true,Bool.not_eq_true'] at h2;refine⟨h1,h2.1,fun o ho e he hb=>?_⟩;have h3:=h2.2;rw[ho] at h3;simp only[Option.map_some,Option.getD_some] at h3;have h4:=(Array.all_eq_true_iff_forall_mem.1 h3) e he;rw[hb] at h4;simpa using h4
structure RInv (db:Nat) (w0:World) (m:Nat) (listed:Array Bool) (a:Act) (w:World):Prop where
  defers:a.defers=[]
  size:a.tmps.size=62
  lsize:listed.size=77
  unl:zvH listed.toList=m
  fr:∀ k,k ∉ [2,3,8,9,14,15,61]→a.tmps[k]?=(zwR db)[k]?
  pure:∀ j,j<77→j ∉ zwt→listed.getD j false=true
  bel:Below w0.heap.size w0 w
  c8:listed.getD 5 false=true→∃ fn x y,a.tmps[8]?=some (.func fn x y)
  c9:listed.getD 6 false=true→∃ v,a.tmps[9]?=some v
  c14:listed.getD 12 false=true→∃ fn x y,a.tmps[14]?=some (.func fn x y)
  c15:listed.getD 13 false=true→∃ v,a.tmps[15]?=some v
  mp:listed.getD 0 false=true→∃ mb n D,a.tmps[3]?=some (.map (some mb))∧w0.heap.size≤mb∧n+m≤77∧w.ownsMap Tryz.prog 9 zpm mb n D∧∀ r,r<15→listed.getD (18+4*r) false=true→∀ p,(znv db)[r]?=some p→Maps.has D (.string p.1)=true∧∀ z,D.atKey (.string p.1) z=.held p.2
  o0:∀ r,r<15→listed.getD (18+4*r) false=true→listed.getD 0 false=true
  t61:listed.getD 75 false=true→listed.getD 0 false=true∧a.tmps[61]?=a.tmps[3]?
  t2:listed.getD 76 false=true→listed.getD 0 false=true∧a.tmps[2]?=a.tmps[3]?
theorem zw4 (a:Act) (d k:Nat) (v:Value) (hd:d<a.tmps.size):(a.put (some d) v).tmps[k]?=if d=k then some v else a.tmps[k]?:=by
  simp only[Act.put]
  by_cases h:d=k
  · subst h;simp[hd]
  · simp[h]
theorem RInv.put {db m:Nat} {w0 w w':World} {listed:Array Bool} {a:Act} (h:RInv db w0 (m+1) listed a w) {i d:Nat} {v:Value} (hl:listed.getD i true=false) (hd:d∈[2,3,8,9,14,15,61]) (hB:Below w0.heap.size w0 w')
    (e5:i=5→d=8) (f8:d=8→∃ fn x y,v=.func fn x y) (e6:i=6→d=9) (e12:i=12→d=14) (f14:d=14→∃ fn x y,v=.func fn x y) (e13:i=13→d=15)
    (e0:i=0↔d=3) (m0:d=3→∃ mb,v=.map (some mb)∧w0.heap.size≤mb∧w'.ownsMap Tryz.prog 9 zpm mb 0 (.map []))
    (hm:d≠3→∀ mb n D,w.ownsMap Tryz.prog 9 zpm mb n D→w'.ownsMap Tryz.prog 9 zpm mb n D) (ini:∀ r,r<15→i≠18+4*r)
    (e75:i=75→d=61) (f61:d=61→listed.getD 0 false=true∧a.tmps[3]?=some v) (e76:i=76→d=2) (f2:d=2→listed.getD 0 false=true∧a.tmps[3]?=some v) :
    RInv db w0 m (listed.setIfInBounds i true) (a.put (some d) v) w':=by
  obtain⟨hi,hli⟩:=zwK hl
  have hd62:d<a.tmps.size:=by
    rw[h.size];simp at hd;omega
  have hli2:listed.getD i false=false:=by
    simp[Array.getD,hi] at hl ⊢;exact hl
  have G:∀ j,(listed.setIfInBounds i true).getD j false=if i=j then true else listed.getD j false:=fun j=>zwY listed i j hi
  have A:∀ k,(a.put (some d) v).tmps[k]?=if d=k then some v else a.tmps[k]?:=fun k=>zw4 a d k v hd62
  refine⟨h.defers,?_,by rw[Array.size_setIfInBounds];exact h.lsize,?_,?_,?_,hB,?_,?_,?_,?_,?_,?_,?_,?_⟩
  · simp only[Act.put,Array.size_setIfInBounds];exact h.size
  · have h1:=zwT _ i hli
    rw[h.unl] at h1;rw[Array.toList_setIfInBounds];omega
  · intro k hk
    rw[A,if_neg (fun e=>by subst e;exact hk hd)]
    exact h.fr k hk
  · intro j hj hjn
    rw[G];split
    · rfl
    · exact h.pure j hj hjn
  · intro h5
    rw[G] at h5;rw[A]
    by_cases hd8:d=8
    · obtain⟨fn,x,y,rfl⟩:=f8 hd8
      exact⟨fn,x,y,if_pos hd8⟩
    · rw[if_neg hd8]
      rw[if_neg (fun e=>hd8 (e5 e))] at h5;exact h.c8 h5
  · intro h5
    rw[G] at h5;rw[A]
    by_cases hd8:d=9
    · exact⟨v,if_pos hd8⟩
    · rw[if_neg hd8]
      rw[if_neg (fun e=>hd8 (e6 e))] at h5;exact h.c9 h5
  · intro h5
    rw[G] at h5;rw[A]
    by_cases hd8:d=14
    · obtain⟨fn,x,y,rfl⟩:=f14 hd8
      exact⟨fn,x,y,if_pos hd8⟩
    · rw[if_neg hd8]
      rw[if_neg (fun e=>hd8 (e12 e))] at h5;exact h.c14 h5
  · intro h5
    rw[G] at h5;rw[A]
    by_cases hd8:d=15
    · exact⟨v,if_pos hd8⟩
    · rw[if_neg hd8]
      rw[if_neg (fun e=>hd8 (e13 e))] at h5;exact h.c15 h5
  · intro h0
    rw[G] at h0
    by_cases hd3:d=3
    · obtain⟨mb,rfl,hmb,hown⟩:=m0 hd3
      refine⟨mb,0,.map [],by rw[A,if_pos hd3],hmb,?_,hown,?_⟩
      · have h1:=zwT _ i hli
        rw[h.unl] at h1
        have h2:zvH listed.toList≤77:=by
          have h3:∀ l:List Bool,zvH l≤l.length:=by
            intro l
            induction l with
            | nil=>exact Nat.le_refl _
            | cons b l ih=>simp only[zvH,List.length_cons];split <;> omega
          have h4:=h3 listed.toList;rw[Array.length_toList,h.lsize] at h4;exact h4
        rw[h.unl] at h2;omega
      · intro r hr hlr p hp
        rw[G,if_neg (ini r hr)] at hlr
        exact absurd hlr (by
          intro hlr;have:=h.o0 r hr hlr;rw[e0.2 hd3] at hli2;rw[this] at hli2;cases hli2)
    · rw[if_neg (fun e=>hd3 (e0.1 e))] at h0
      obtain⟨mb,n,D,h1,h2,h3,h4,h5⟩:=h.mp h0;refine⟨mb,n,D,by rw[A,if_neg hd3];exact h1,h2,by omega,hm hd3 _ _ _ h4,?_⟩
      intro r hr hlr p hp;rw[G,if_neg (ini r hr)] at hlr;exact h5 r hr hlr p hp
  · intro r hr hlr
    rw[G,if_neg (ini r hr)] at hlr;rw[G];split
    · rfl
    · exact h.o0 r hr hlr
  · intro h5
    rw[G] at h5
    by_cases hd6:d=61
    · obtain⟨h6,h7⟩:=f61 hd6
      have h3:d≠3:=by omega
      refine⟨by rw[G];split;rfl;exact h6,?_⟩
      rw[A,A,if_pos hd6,if_neg h3,h7]
    · rw[if_neg (fun e=>hd6 (e75 e))] at h5
      obtain⟨h6,h7⟩:=h.t61 h5;have h3:d≠3:=fun e=>by rw[e0.2 e,h6] at hli2;cases hli2
      refine⟨by rw[G];split;rfl;exact h6,?_⟩
      rw[A,A,if_neg hd6,if_neg h3,h7]
  · intro h5
    rw[G] at h5
    by_cases hd6:d=2
    · obtain⟨h6,h7⟩:=f2 hd6
      have h3:d≠3:=by omega
      refine⟨by rw[G];split;rfl;exact h6,?_⟩
      rw[A,A,if_pos hd6,if_neg h3,h7]
    · rw[if_neg (fun e=>hd6 (e76 e))] at h5
      obtain⟨h6,h7⟩:=h.t2 h5;have h3:d≠3:=fun e=>by rw[e0.2 e,h6] at hli2;cases hli2
      refine⟨by rw[G];split;rfl;exact h6,?_⟩
      rw[A,A,if_neg hd6,if_neg h3,h7]
theorem zwJ (db k o:Nat) (w:World):Calls Tryz.prog 180 #[.pointer (some ⟨db,0,none⟩),.pointer (some ⟨k,o,none⟩)] w fun e w'=>(∃ fn x y,e=.returned (.func fn x y))∧Below w.heap.size w w':=by
  have hmf:=hmf
  go_enter Tryz.func180,Tryz.ntmps180
  go_wp2
  go_ret
  exact⟨⟨_,_,_,rfl⟩,zk5 (Below.refl _ _) _⟩
theorem RInv.ins {db m:Nat} {w0 w w':World} {listed:Array Bool} {a:Act} (h:RInv db w0 (m+1) listed a w) {i:Nat} (hl:listed.getD i true=false) (hni:i ∉ [0,5,6,12,13,75,76]) (h0:listed.getD 0 false=true) {key:List UInt8} {v:Value}
    (hk:∀ r,r<15→∀ p,(znv db)[r]?=some p→(i=18+4*r→p=(key,v))∧(i≠18+4*r→p.1≠key))
    {mb n:Nat} {D:DataW Value} (h1:a.tmps[3]?=some (.map (some mb))) (h2:w0.heap.size≤mb) (h3:n+(m+1)≤77) (h4:w.ownsMap Tryz.prog 9 zpm mb n D)
    (h5:∀ r,r<15→listed.getD (18+4*r) false=true→∀ p,(znv db)[r]?=some p→Maps.has D (.string p.1)=true∧∀ z,D.atKey (.string p.1) z=.held p.2)
    (h6:w'.ownsMap Tryz.prog 9 zpm mb (n+1) (D.put (.string key) (.held v))) (h7:w.grownBy w' (some mb)) :
    RInv db w0 m (listed.setIfInBounds i true) a w':=by
  obtain⟨hi,hli⟩:=zwK hl;have G:∀ j,(listed.setIfInBounds i true).getD j false=if i=j then true else listed.getD j false:=fun j=>zwY listed i j hi
  have N:∀ j,j∈[0,5,6,12,13,75,76]→(listed.setIfInBounds i true).getD j false=listed.getD j false:=fun j hj=>by
    rw[G,if_neg (fun e=>by subst e;exact hni hj)]
  refine⟨h.defers,h.size,by rw[Array.size_setIfInBounds];exact h.lsize,?_,h.fr,?_,?_,?_,?_,?_,?_,?_,?_,?_,?_⟩
  · have h1:=zwT _ i hli
    rw[h.unl] at h1;rw[Array.toList_setIfInBounds];omega
  · intro j hj hjn
    rw[G];split
    · rfl
    · exact h.pure j hj hjn
  · exact h.bel.grown h7 h.bel.size (fun k hk=>by cases hk;exact h2)
  · rw[N 5 (by simp)];exact h.c8
  · rw[N 6 (by simp)];exact h.c9
  · rw[N 12 (by simp)];exact h.c14
  · rw[N 13 (by simp)];exact h.c15
  · intro _
    refine⟨mb,n+1,_,h1,h2,by omega,h6,?_⟩
    intro r hr hlr p hp;obtain⟨hk1,hk2⟩:=hk r hr p hp
    by_cases e:i=18+4*r
    · obtain rfl:=hk1 e
      exact⟨Maps.has_put_same h4.isMap (show WideAt.IsKeyLit (Lit.string key) from trivial) _,fun z=>Maps.atKey_put_same h4.isMap (show WideAt.IsKeyLit (Lit.string key) from trivial) _ z⟩
    · have hne:(Lit.string p.1)≠Lit.string key:=fun e2=>hk2 e (by injection e2)
      rw[G,if_neg e] at hlr;obtain⟨h8,h9⟩:=h5 r hr hlr p hp;exact⟨by rw[Maps.has_put_other hne];exact h8,fun z=>by rw[Maps.atKey_put_other hne];exact h9 z⟩
  · intro r hr hlr
    rw[N 0 (by simp)]
    exact h0
  · rw[N 75 (by simp),N 0 (by simp)];exact h.t61
  · rw[N 76 (by simp),N 0 (by simp)];exact h.t2
section
variable {ops:Array Oper} {Q:Exit→Act→World→Prop}
theorem zwk {W W':World} {row:Option Nat} (h:Below W.heap.size W W'):W.grownBy W' row:=⟨h.os,h.tape,h.output,h.size,fun k hk _=>h.block k hk⟩
theorem zws {P:Program} {i:Nat} {o:Oper} {K:Act→World→Prop} {a:Act} {w:World} (hi:ops[i]?=some o) (hg:o.guard=none) (h:o.wp P a w K Q):wpOp P ops Q i K a w:=by
  unfold wpOp;rw[hi];simp only[Region.wanted,hg,if_true];exact .inl h
structure RowsOps (db:Nat) (ops:Array Oper):Prop where
  size:ops.size=77
  mkm:∃ o,ops[0]?=some o∧o.guard=none∧o.dst=some 3∧o.op=.makeMap 237 none
  call1:∃ o,ops[5]?=some o∧o.guard=none∧o.dst=some 8∧o.op=.call { callee:=.value (.func 180),args:=#[.tmp 4,.tmp 7],argTypes:=#[232,299] }
  call2:∃ o,ops[12]?=some o∧o.guard=none∧o.dst=some 14∧o.op=.call { callee:=.value (.func 180),args:=#[.tmp 10,.tmp 13],argTypes:=#[232,299] }
  bld1:∃ o,ops[6]?=some o∧o.guard=none∧o.dst=some 9∧o.op=.build 235 #[(0,.const (.string ⟨#[104]⟩)),(1,.tmp 8),(2,.const (.bool false))]∧∃ e∈o.after,Region.binds .any e=true∧e.on=5
  bld2:∃ o,ops[13]?=some o∧o.guard=none∧o.dst=some 15∧o.op=.build 235 #[(0,.const (.string ⟨#[104]⟩)),(1,.tmp 14),(2,.const (.bool false))]∧∃ e∈o.after,Region.binds .any e=true∧e.on=12
  ins1:∃ o,ops[7]?=some o∧o.guard=none∧o.dst=none∧o.op=.insert 237 (.tmp 3) (.const (.string ⟨#[97,114,99,104,105,118,101]⟩)) (.tmp 9)∧(∃ e∈o.after,Region.binds .any e=true∧e.on=0)∧(∃ e∈o.after,Region.binds .any e=true∧e.on=6)
  ins2:∃ o,ops[14]?=some o∧o.guard=none∧o.dst=none∧o.op=.insert 237 (.tmp 3) (.const (.string ⟨#[115,105,100,101,99,97,114]⟩)) (.tmp 15)∧(∃ e∈o.after,Region.binds .any e=true∧e.on=0)∧(∃ e∈o.after,Region.binds .any e=true∧e.on=13)
  ins:∀ r,r<15→∀ p,(znv db)[r]?=some p→∃ o,ops[18+4*r]?=some o∧o.guard=none∧o.dst=none∧o.op=.insert 237 (.tmp 3) (.const (.string ⟨p.1.toArray⟩)) (.tmp (18+3*r))∧(∃ e∈o.after,Region.binds .any e=true∧e.on=0)
  mv:∃ o,ops[75]?=some o∧o.guard=none∧o.dst=some 61∧o.op=.move (.tmp 3)∧(∃ e∈o.after,Region.binds .any e=true∧e.on=0)
  asg:∃ o,ops[76]?=some o∧o.guard=none∧o.dst=some 2∧o.op=.assign (.tmp 61)∧(∃ e∈o.after,Region.binds .any e=true∧e.on=75)
theorem zwN (db r:Nat) (hr:r<15) (p:List UInt8 × Value) (hp:(znv db)[r]?=some p):(zwR db)[18+3*r]?=some p.2:=by
  have:r=0∨r=1∨r=2∨r=3∨r=4∨r=5∨r=6∨r=7∨r=8∨r=9∨r=10∨r=11∨r=12∨r=13∨r=14:=by omega
  rcases this with rfl | rfl | rfl | rfl | rfl | rfl | rfl | rfl | rfl | rfl | rfl | rfl | rfl | rfl | rfl <;> (cases hp;rfl)
def zwj:List (List UInt8):=(znv 0).map (·.1)
theorem zwC (db:Nat):(znv db).map (·.1)=zwj:=rfl
theorem zwA (db r:Nat) (p:List UInt8 × Value) (hp:(znv db)[r]?=some p):r<15:=(List.getElem?_eq_some_iff.1 hp).1
theorem zwB (db r:Nat) (p:List UInt8 × Value) (hp:(znv db)[r]?=some p):zwj[r]?=some p.1:=by
  rw[←zwC db,List.getElem?_map,hp];rfl
theorem zwG (db r:Nat) (p:List UInt8 × Value) (hp:(znv db)[r]?=some p):(⟨p.1.toArray⟩:ByteArray).size≤maxLen:=by
  have h1:=zwB db r p hp;have h2:∀ k∈zwj,k.length≤20:=by decide
  have h3:=h2 p.1 (List.mem_of_getElem? h1)
  show p.1.length≤maxLen
  unfold maxLen;omega
theorem zwP (db r r':Nat) (p p':List UInt8 × Value) (hp:(znv db)[r]?=some p) (hp':(znv db)[r']?=some p') (hne:r≠r'):p'.1≠p.1:=by
  have h1:=zwB db r p hp;have h2:=zwB db r' p' hp';have h3:∀ r<15,∀ r' < 15,r≠r'→zwj[r']?≠zwj[r]?:=by decide
  intro e;refine h3 r (zwA db r p hp) r' (zwA db r' p' hp') hne ?_;rw[h1,h2,e]
theorem zwI (db r:Nat) (p:List UInt8 × Value) (hp:(znv db)[r]?=some p):p.1≠[97,114,99,104,105,118,101]∧p.1≠[115,105,100,101,99,97,114]:=by
  have h2:∀ k∈zwj,k≠[97,114,99,104,105,118,101]∧k≠[115,105,100,101,99,97,114]:=by decide
  exact h2 p.1 (List.mem_of_getElem? (zwB db r p hp))
theorem zwz (a:Act) (k:Nat) (v:Value) (h:a.tmps[k]?=some v):a.eval (.tmp k)=v:=by
  simp[Act.eval,h]
theorem zwr {P:Program} {i s:Nat} {o:Oper} {K:Act→World→Prop} {a:Act} {w:World} {key:ByteArray} {v:Value} {mb n:Nat} {D:DataW Value} (hu:P.underlying 237=some (.map 9 235)) (hs:P.underlying 9=some .string) (hks:key.size≤maxLen)
    (hi:ops[i]?=some o) (hg:o.guard=none) (hd:o.dst=none) (ho:o.op=.insert 237 (.tmp 3) (.const (.string key)) (.tmp s)) (h3:a.tmps[3]?=some (.map (some mb))) (hv:a.tmps[s]?=some v)
    (hown:w.ownsMap P 9 zpm mb n D) (hn:n<100) (h:∀ w',w'.ownsMap P 9 zpm mb (n+1) (D.put (.string key.data.toList) (.held v))→w.grownBy w' (some mb)→K a w'):wpOp P ops Q i K a w:=by
  refine zws hi hg ?_;obtain⟨w',hrun,h1,h2⟩:=hown.update (t:=237) (e:=235) (Maps.string_keyed hs) hu (by unfold maxLen;omega) (WideMaps.keyOf_string_mk hs hks) (rfl:zpm v=some (.held v,[]))
  unfold Oper.wp execOp;simp only[ho,zwz a 3 _ h3,zwz a s _ hv];have e:a.eval (Operand.const (Value.string key)) = .string key:=rfl;rw[e,Sem.run_bind,hrun];simp only[Result.andThen,Sem.run_pure,Oper.upon,hd];exact h w' h1 h2
theorem zwi {P:Program} {i d:Nat} {o:Oper} {K:Act→World→Prop} {a:Act} {w w':World} {v:Value} (hi:ops[i]?=some o) (hg:o.guard=none) (hd:o.dst=some d) (hrun:(execOp a.eval o).run P w=.ok (.value v) w') (h:K (a.put (some d) v) w'):wpOp P ops Q i K a w:=by
  refine zws hi hg ?_;unfold Oper.wp;rw[hrun];simp only[Oper.upon,hd];exact h
theorem zwO {db m:Nat} {w0 w:World} {listed:Array Bool} {a:Act} (h:RInv db w0 m listed a w) {i:Nat} (hi:i<77) (hl:listed.getD i true=false):i∈zwt:=by
  by_cases hm:i∈zwt
  · exact hm
  · have h1:=h.pure i hi hm
    obtain⟨h2,-⟩:=zwK hl;simp[Array.getD,h2] at hl h1;rw[hl] at h1;cases h1
theorem zwH {db m:Nat} {w0:World} (hO:RowsOps db ops) (listed:Array Bool) (a:Act) (w:World) (i:Nat) (h:RInv db w0 (m+1) listed a w) (hi:i∈Region.ready .any ops listed) :
    wpOp Tryz.prog ops Q i (RInv db w0 m (listed.setIfInBounds i true)) a w:=by
  obtain⟨h1,hl,hedge⟩:=zwq hi;rw[hO.size] at h1;have hm:=zwO h h1 hl
  have E:∀ (o:Oper) (p:Nat),ops[i]?=some o→(∃ e∈o.after,Region.binds .any e=true∧e.on=p)→listed.getD p false=true:=fun o p ho ⟨e,he,hb,hp⟩=>by
    have:=hedge o ho e he hb;rw[hp] at this;exact this
  have hfr:=h.fr
  by_cases hins:∃ r,r<15∧i=18+4*r
  · obtain⟨r,hr,rfl⟩:=hins
    obtain⟨p,hp⟩:∃ p,(znv db)[r]?=some p:=⟨_,List.getElem?_eq_getElem (by show r<15;exact hr)⟩
    obtain⟨o,ho,hg,hd,hop,he0⟩:=hO.ins r hr p hp;have h0:=E o 0 ho he0;obtain⟨mb,n,D,h3,hmb,hn,hown,hfacts⟩:=h.mp h0
    have hv:a.tmps[18+3*r]?=some p.2:=by
      rw[h.fr (18+3*r) (by simp;omega)]
      exact zwN db r hr p hp
    refine zwr Tryz.underlying237 Tryz.underlying9 (zwG db r p hp) ho hg hd hop h3 hv hown (by omega) ?_
    intro w' hw1 hw2;refine h.ins hl (by simp;omega) h0 (key:=p.1) (v:=p.2) ?_ h3 hmb hn hown hfacts hw1 hw2
    intro r' hr' p' hp';refine⟨fun e=>?_,fun e=>?_⟩
    · have:r=r':=by omega
      subst this;rw[hp] at hp';cases hp'
      rfl
    · exact zwP db r r' p p' hp hp' (by omega)
  · have hc:i=0∨i=5∨i=6∨i=7∨i=12∨i=13∨i=14∨i=75∨i=76:=by
      have hr:∀ r,r<15→i≠18+4*r:=fun r hr e=>hins ⟨r,hr,e⟩;have h18:=hr 0 (by omega)
      have h22:=hr 1 (by omega)
      have h26:=hr 2 (by omega)
      have h30:=hr 3 (by omega)
      have h34:=hr 4 (by omega)
      have h38:=hr 5 (by omega)
      have h42:=hr 6 (by omega)
      have h46:=hr 7 (by omega)
      have h50:=hr 8 (by omega)
      have h54:=hr 9 (by omega)
      have h58:=hr 10 (by omega)
      have h62:=hr 11 (by omega)
      have h66:=hr 12 (by omega)
      have h70:=hr 13 (by omega)
      have h74:=hr 14 (by omega)
      simp only[zwt,List.mem_cons,List.mem_nil_iff,or_false] at hm;omega
    have hini:∀ r,r<15→i≠18+4*r:=fun r hr e=>hins ⟨r,hr,e⟩;rcases hc with rfl | rfl | rfl | rfl | rfl | rfl | rfl | rfl | rfl
    · obtain⟨o,ho,hg,hd,hop⟩:=hO.mkm
      refine zwi (v:=.map (some w.heap.size)) (w':=w.alloc (.map #[] 0)) ho hg hd ?_ ?_
      · unfold execOp
        simp only[hop];rfl
      · refine h.put hl (by simp) (h.bel.alloc h.bel.size _) (by omega) (by omega) (by omega) (by omega) (by omega) (by omega) (by omega) (fun _=>⟨_,rfl,h.bel.size,World.ownsMap_made w _ _ _⟩) (fun e=>absurd rfl e) hini (by omega) (by omega) (by omega) (by omega)
    · obtain⟨o,ho,hg,hd,hop⟩:=hO.call1
      refine zws ho hg ?_;have e4:a.tmps[4]?=some (.pointer (some ⟨db,0,none⟩)):=by rw[h.fr 4 (by simp)];rfl
      have e7:a.tmps[7]?=some (.pointer (some ⟨db,0,none⟩)):=by rw[h.fr 7 (by simp)];rfl
      unfold Oper.wp execOp;simp[hop,go_sem,resolve,invoke,e4,e7,hd];refine (zwJ db db 0 w).mono ?_;rintro e w' ⟨⟨fn,x,y,rfl⟩,hB⟩;exact h.put hl (by simp) (zvS hB h.bel) (by omega) (fun _=>⟨fn,x,y,rfl⟩) (by omega) (by omega) (fun _=>⟨fn,x,y,rfl⟩) (by omega) (by omega) (by omega) (fun _ mb n D hown=>hown.kept (row:=none) (zwk hB) (by simp)) hini (by omega) (by omega) (by omega) (by omega)
    · obtain⟨o,ho,hg,hd,hop,he⟩:=hO.bld1
      obtain⟨fn,x,y,h8⟩:=h.c8 (E o 5 ho he);refine zwi (v:=.agg #[.string ⟨#[104]⟩,.func fn x y,.bool false]) (w':=w) ho hg hd ?_ ?_
      · unfold execOp
        simp[hop,go_sem,h8]
      · exact h.put hl (by simp) h.bel (by omega) (by omega) (by omega) (by omega) (by omega) (by omega) (by omega) (by omega) (fun _ mb n D hown=>hown) hini (by omega) (by omega) (by omega) (by omega)
    · obtain⟨o,ho,hg,hd,hop,he0,he⟩:=hO.ins1
      have h0:=E o 0 ho he0;obtain⟨v,hv⟩:=h.c9 (E o 6 ho he);obtain⟨mb,n,D,h3,hmb,hn,hown,hfacts⟩:=h.mp h0;refine zwr Tryz.underlying237 Tryz.underlying9 (by show (7:Nat)≤maxLen;unfold maxLen;omega) ho hg hd hop h3 hv hown (by omega) ?_
      intro w' hw1 hw2;exact h.ins hl (by simp) h0 (key:=[97,114,99,104,105,118,101]) (v:=v) (fun r' hr' p' hp'=>⟨fun e=>absurd e (hini r' hr'),fun _=>(zwI db r' p' hp').1⟩) h3 hmb hn hown hfacts hw1 hw2
    · obtain⟨o,ho,hg,hd,hop⟩:=hO.call2
      refine zws ho hg ?_;have e10:a.tmps[10]?=some (.pointer (some ⟨db,0,none⟩)):=by rw[h.fr 10 (by simp)];rfl
      have e13:a.tmps[13]?=some (.pointer (some ⟨db,1,none⟩)):=by rw[h.fr 13 (by simp)];rfl
      unfold Oper.wp execOp;simp[hop,go_sem,resolve,invoke,e10,e13,hd];refine (zwJ db db 1 w).mono ?_;rintro e w' ⟨⟨fn,x,y,rfl⟩,hB⟩;exact h.put hl (by simp) (zvS hB h.bel) (by omega) (fun _=>⟨fn,x,y,rfl⟩) (by omega) (by omega) (fun _=>⟨fn,x,y,rfl⟩) (by omega) (by omega) (by omega) (fun _ mb n D hown=>hown.kept (row:=none) (zwk hB) (by simp)) hini (by omega) (by omega) (by omega) (by omega)
    · obtain⟨o,ho,hg,hd,hop,he⟩:=hO.bld2
      obtain⟨fn,x,y,h8⟩:=h.c14 (E o 12 ho he);refine zwi (v:=.agg #[.string ⟨#[104]⟩,.func fn x y,.bool false]) (w':=w) ho hg hd ?_ ?_
      · unfold execOp
        simp[hop,go_sem,h8]
      · exact h.put hl (by simp) h.bel (by omega) (by omega) (by omega) (by omega) (by omega) (by omega) (by omega) (by omega) (fun _ mb n D hown=>hown) hini (by omega) (by omega) (by omega) (by omega)
    · obtain⟨o,ho,hg,hd,hop,he0,he⟩:=hO.ins2
      have h0:=E o 0 ho he0;obtain⟨v,hv⟩:=h.c15 (E o 13 ho he);obtain⟨mb,n,D,h3,hmb,hn,hown,hfacts⟩:=h.mp h0;refine zwr Tryz.underlying237 Tryz.underlying9 (by show (7:Nat)≤maxLen;unfold maxLen;omega) ho hg hd hop h3 hv hown (by omega) ?_
      intro w' hw1 hw2;exact h.ins hl (by simp) h0 (key:=[115,105,100,101,99,97,114]) (v:=v) (fun r' hr' p' hp'=>⟨fun e=>absurd e (hini r' hr'),fun _=>(zwI db r' p' hp').2⟩) h3 hmb hn hown hfacts hw1 hw2
    · obtain⟨o,ho,hg,hd,hop,he0⟩:=hO.mv
      have h0:=E o 0 ho he0;obtain⟨mb,n,D,h3,hmb,hn,hown,hfacts⟩:=h.mp h0;refine zwi (v:=.map (some mb)) (w':=w) ho hg hd ?_ ?_
      · unfold execOp
        simp[hop,go_sem,h3]
      · exact h.put hl (by simp) h.bel (by omega) (by omega) (by omega) (by omega) (by omega) (by omega) (by omega) (by omega) (fun _ mb n D hown=>hown) hini (by omega) (fun _=>⟨h0,h3⟩) (by omega) (by omega)
    · obtain⟨o,ho,hg,hd,hop,he⟩:=hO.asg
      obtain⟨h0,h61⟩:=h.t61 (E o 75 ho he);obtain⟨mb,n,D,h3,hmb,hn,hown,hfacts⟩:=h.mp h0;rw[h3] at h61;refine zwi (v:=.map (some mb)) (w':=w) ho hg hd ?_ ?_
      · unfold execOp
        simp[hop,go_sem,h61]
      · exact h.put hl (by simp) h.bel (by omega) (by omega) (by omega) (by omega) (by omega) (by omega) (by omega) (by omega) (fun _ mb n D hown=>hown) hini (by omega) (by omega) (by omega) (fun _=>⟨h0,h3⟩)
def zwQ (ops:Array Oper):Bool:=(List.range ops.size).all fun i=>match ops[i]? with
  | some o=>o.after.all fun e=>!Region.binds .any e || decide (e.on<i)
  | none=>true
theorem zwE (hf:zwQ ops=true) {listed:Array Bool} (hsz:listed.size=ops.size) (h:Region.ready .any ops listed=[]):∀ i,i<ops.size→listed.getD i false=true:=by
  intro i
  induction i using Nat.strongRecOn with
  | ind i ih =>
    intro hi;cases hl:listed.getD i false with
    | true=>rfl
    | false =>
      exfalso
      have hm:i∈Region.ready .any ops listed:=by
        unfold Region.ready;rw[List.mem_filter,List.mem_range];refine⟨hi,?_⟩
        have hl2:listed.getD i true=false:=by
          simp[Array.getD,hsz,hi] at hl ⊢;exact hl
        rw[hl2,Array.getElem?_eq_getElem hi];simp only[Bool.not_false,Bool.true_and,Option.map_some,Option.getD_some];rw[Array.all_eq_true_iff_forall_mem];intro e he;have h1:=List.all_eq_true.1 hf i (List.mem_range.2 hi);rw[Array.getElem?_eq_getElem hi] at h1;have h2:=Array.all_eq_true_iff_forall_mem.1 h1 e he;simp only[Bool.or_eq_true,decide_eq_true_eq] at h2 ⊢;rcases h2 with h2 | h2
        · exact .inl h2
        · exact .inr (ih e.on h2 (by omega))
      rw[h] at hm;simp at hm
def zwu (db:Nat) (w0 w:World) (v:Value):Prop:=∃ mb n D,v=.map (some mb)∧w0.heap.size≤mb∧w.ownsMap Tryz.prog 9 zpm mb n D∧∀ p∈znv db,Maps.has D (.string p.1)=true∧∀ z,D.atKey (.string p.1) z=.held p.2
theorem zwF {db m:Nat} {w0:World} (hO:RowsOps db ops) (hf:zwQ ops=true) {listed:Array Bool} {a:Act} {w:World} (h:RInv db w0 m listed a w)
    (HQ:∀ a w,a.defers=[]→(∃ v,a.tmps[2]?=some v∧zwu db w0 w v)→Below w0.heap.size w0 w→Q .normal a w):wpAny Tryz.prog .any ops Q m listed a w:=by
  refine zqP (fun m l a w=>RInv db w0 m l a w) (fun m l a w i h hi=>zwH hO l a w i h hi) ?_ ?_ m listed a w h
  · intro listed a w h
    refine List.eq_nil_iff_forall_not_mem.2 fun i hi=>?_;obtain⟨-,hl,-⟩:=zwq hi;have h1:=zwy _ _ (zwK hl).2;rw[h.unl] at h1;omega
  · intro m listed a w h hr
    have hall:=zwE hf (by rw[h.lsize,hO.size]) hr
    rw[hO.size] at hall;obtain⟨mb,n,D,h1,h2,h3,h4,h5⟩:=h.mp (hall 0 (by omega))
    obtain⟨-,h6⟩:=h.t2 (hall 76 (by omega))
    refine HQ a w h.defers ⟨_,h6.trans h1,mb,n,D,rfl,h2,h4,fun p hp=>?_⟩ h.bel;obtain⟨r,hr⟩:=List.getElem?_of_mem hp;exact h5 r (zwA db r p hr) (hall _ (by have:=zwA db r p hr;omega)) p hr
end
theorem zwM (db:Nat) (w:World):Calls Tryz.prog 134 #[.pointer (some ⟨db,0,none⟩)] w fun e w'=>∃ v,e=.returned v∧zwu db w w' v∧Below w.heap.size w w':=by
  go_enter Tryz.func134,Tryz.ntmps134
  go_wp2_with fail
  simp only[List.append_eq,List.cons_append,List.nil_append];refine wp_region_noPanic ?_;refine wp_region_any (by kernel_rfl) ?_
  refine zv2 1 (by simp only[List.getElem?_toArray,List.getElem?_cons_succ,List.getElem?_cons_zero];rfl) (by kernel_rfl) (fun _ _ _ h=>h) (by rfl) (v:=?_) (fun w=>by go_simp;try with_reducible rfl) ?_
  try simp only[Act.put,List.setIfInBounds_toArray,List.set_cons_zero,List.set_cons_succ]
  refine zv2 2 (by simp only[List.getElem?_toArray,List.getElem?_cons_succ,List.getElem?_cons_zero];rfl) (by kernel_rfl) (fun _ _ _ h=>h) (by rfl) (v:=?_) (fun w=>by go_simp;try with_reducible rfl) ?_
  try simp only[Act.put,List.setIfInBounds_toArray,List.set_cons_zero,List.set_cons_succ]
  refine zv2 3 (by simp only[List.getElem?_toArray,List.getElem?_cons_succ,List.getElem?_cons_zero];rfl) (by kernel_rfl) (fun _ _ _ h=>h) (by rfl) (v:=?_) (fun w=>by go_simp;try with_reducible rfl) ?_
  try simp only[Act.put,List.setIfInBounds_toArray,List.set_cons_zero,List.set_cons_succ]
  refine zv2 4 (by simp only[List.getElem?_toArray,List.getElem?_cons_succ,List.getElem?_cons_zero];rfl) (by kernel_rfl) (fun _ _ _ h=>h) (by rfl) (v:=?_) (fun w=>by go_simp;try with_reducible rfl) ?_
  try simp only[Act.put,List.setIfInBounds_toArray,List.set_cons_zero,List.set_cons_succ]
  refine zv2 8 (by simp only[List.getElem?_toArray,List.getElem?_cons_succ,List.getElem?_cons_zero];rfl) (by kernel_rfl) (fun _ _ _ h=>h) (by rfl) (v:=?_) (fun w=>by go_simp;try with_reducible rfl) ?_
  try simp only[Act.put,List.setIfInBounds_toArray,List.set_cons_zero,List.set_cons_succ]
  refine zv2 9 (by simp only[List.getElem?_toArray,List.getElem?_cons_succ,List.getElem?_cons_zero];rfl) (by kernel_rfl) (fun _ _ _ h=>h) (by rfl) (v:=?_) (fun w=>by go_simp;try with_reducible rfl) ?_
  try simp only[Act.put,List.setIfInBounds_toArray,List.set_cons_zero,List.set_cons_succ]
  refine zv2 10 (by simp only[List.getElem?_toArray,List.getElem?_cons_succ,List.getElem?_cons_zero];rfl) (by kernel_rfl) (fun _ _ _ h=>h) (by rfl) (v:=?_) (fun w=>by go_simp;try with_reducible rfl) ?_
  try simp only[Act.put,List.setIfInBounds_toArray,List.set_cons_zero,List.set_cons_succ]
  refine zv2 11 (by simp only[List.getElem?_toArray,List.getElem?_cons_succ,List.getElem?_cons_zero];rfl) (by kernel_rfl) (fun _ _ _ h=>h) (by rfl) (v:=?_) (fun w=>by go_simp;try with_reducible rfl) ?_
  try simp only[Act.put,List.setIfInBounds_toArray,List.set_cons_zero,List.set_cons_succ]
  refine zv2 15 (by simp only[List.getElem?_toArray,List.getElem?_cons_succ,List.getElem?_cons_zero];rfl) (by kernel_rfl) (fun _ _ _ h=>h) (by rfl) (v:=?_) (fun w=>by go_simp;try with_reducible rfl) ?_
  try simp only[Act.put,List.setIfInBounds_toArray,List.set_cons_zero,List.set_cons_succ]
  refine zv2 16 (by simp only[List.getElem?_toArray,List.getElem?_cons_succ,List.getElem?_cons_zero];rfl) (by kernel_rfl) (fun _ _ _ h=>h) (by rfl) (v:=?_) (fun w=>by go_simp;try with_reducible rfl) ?_
  try simp only[Act.put,List.setIfInBounds_toArray,List.set_cons_zero,List.set_cons_succ]
  refine zv2 17 (by simp only[List.getElem?_toArray,List.getElem?_cons_succ,List.getElem?_cons_zero];rfl) (by kernel_rfl) (fun _ _ _ h=>h) (by rfl) (v:=?_) (fun w=>by go_simp;try with_reducible rfl) ?_
  try simp only[Act.put,List.setIfInBounds_toArray,List.set_cons_zero,List.set_cons_succ]
  refine zv2 19 (by simp only[List.getElem?_toArray,List.getElem?_cons_succ,List.getElem?_cons_zero];rfl) (by kernel_rfl) (fun _ _ _ h=>h) (by rfl) (v:=?_) (fun w=>by go_simp;try with_reducible rfl) ?_
  try simp only[Act.put,List.setIfInBounds_toArray,List.set_cons_zero,List.set_cons_succ]
  refine zv2 20 (by simp only[List.getElem?_toArray,List.getElem?_cons_succ,List.getElem?_cons_zero];rfl) (by kernel_rfl) (fun _ _ _ h=>h) (by rfl) (v:=?_) (fun w=>by go_simp;try with_reducible rfl) ?_
  try simp only[Act.put,List.setIfInBounds_toArray,List.set_cons_zero,List.set_cons_succ]
  refine zv2 21 (by simp only[List.getElem?_toArray,List.getElem?_cons_succ,List.getElem?_cons_zero];rfl) (by kernel_rfl) (fun _ _ _ h=>h) (by rfl) (v:=?_) (fun w=>by go_simp;try with_reducible rfl) ?_
  try simp only[Act.put,List.setIfInBounds_toArray,List.set_cons_zero,List.set_cons_succ]
  refine zv2 23 (by simp only[List.getElem?_toArray,List.getElem?_cons_succ,List.getElem?_cons_zero];rfl) (by kernel_rfl) (fun _ _ _ h=>h) (by rfl) (v:=?_) (fun w=>by go_simp;try with_reducible rfl) ?_
  try simp only[Act.put,List.setIfInBounds_toArray,List.set_cons_zero,List.set_cons_succ]
  refine zv2 24 (by simp only[List.getElem?_toArray,List.getElem?_cons_succ,List.getElem?_cons_zero];rfl) (by kernel_rfl) (fun _ _ _ h=>h) (by rfl) (v:=?_) (fun w=>by go_simp;try with_reducible rfl) ?_
  try simp only[Act.put,List.setIfInBounds_toArray,List.set_cons_zero,List.set_cons_succ]
  refine zv2 25 (by simp only[List.getElem?_toArray,List.getElem?_cons_succ,List.getElem?_cons_zero];rfl) (by kernel_rfl) (fun _ _ _ h=>h) (by rfl) (v:=?_) (fun w=>by go_simp;try with_reducible rfl) ?_
  try simp only[Act.put,List.setIfInBounds_toArray,List.set_cons_zero,List.set_cons_succ]
  refine zv2 27 (by simp only[List.getElem?_toArray,List.getElem?_cons_succ,List.getElem?_cons_zero];rfl) (by kernel_rfl) (fun _ _ _ h=>h) (by rfl) (v:=?_) (fun w=>by go_simp;try with_reducible rfl) ?_
  try simp only[Act.put,List.setIfInBounds_toArray,List.set_cons_zero,List.set_cons_succ]
  refine zv2 28 (by simp only[List.getElem?_toArray,List.getElem?_cons_succ,List.getElem?_cons_zero];rfl) (by kernel_rfl) (fun _ _ _ h=>h) (by rfl) (v:=?_) (fun w=>by go_simp;try with_reducible rfl) ?_
  try simp only[Act.put,List.setIfInBounds_toArray,List.set_cons_zero,List.set_cons_succ]
  refine zv2 29 (by simp only[List.getElem?_toArray,List.getElem?_cons_succ,List.getElem?_cons_zero];rfl) (by kernel_rfl) (fun _ _ _ h=>h) (by rfl) (v:=?_) (fun w=>by go_simp;try with_reducible rfl) ?_
  try simp only[Act.put,List.setIfInBounds_toArray,List.set_cons_zero,List.set_cons_succ]
  refine zv2 31 (by simp only[List.getElem?_toArray,List.getElem?_cons_succ,List.getElem?_cons_zero];rfl) (by kernel_rfl) (fun _ _ _ h=>h) (by rfl) (v:=?_) (fun w=>by go_simp;try with_reducible rfl) ?_
  try simp only[Act.put,List.setIfInBounds_toArray,List.set_cons_zero,List.set_cons_succ]
  refine zv2 32 (by simp only[List.getElem?_toArray,List.getElem?_cons_succ,List.getElem?_cons_zero];rfl) (by kernel_rfl) (fun _ _ _ h=>h) (by rfl) (v:=?_) (fun w=>by go_simp;try with_reducible rfl) ?_
  try simp only[Act.put,List.setIfInBounds_toArray,List.set_cons_zero,List.set_cons_succ]
  refine zv2 33 (by simp only[List.getElem?_toArray,List.getElem?_cons_succ,List.getElem?_cons_zero];rfl) (by kernel_rfl) (fun _ _ _ h=>h) (by rfl) (v:=?_) (fun w=>by go_simp;try with_reducible rfl) ?_
  try simp only[Act.put,List.setIfInBounds_toArray,List.set_cons_zero,List.set_cons_succ]
  refine zv2 35 (by simp only[List.getElem?_toArray,List.getElem?_cons_succ,List.getElem?_cons_zero];rfl) (by kernel_rfl) (fun _ _ _ h=>h) (by rfl) (v:=?_) (fun w=>by go_simp;try with_reducible rfl) ?_
  try simp only[Act.put,List.setIfInBounds_toArray,List.set_cons_zero,List.set_cons_succ]
  refine zv2 36 (by simp only[List.getElem?_toArray,List.getElem?_cons_succ,List.getElem?_cons_zero];rfl) (by kernel_rfl) (fun _ _ _ h=>h) (by rfl) (v:=?_) (fun w=>by go_simp;try with_reducible rfl) ?_
  try simp only[Act.put,List.setIfInBounds_toArray,List.set_cons_zero,List.set_cons_succ]
  refine zv2 37 (by simp only[List.getElem?_toArray,List.getElem?_cons_succ,List.getElem?_cons_zero];rfl) (by kernel_rfl) (fun _ _ _ h=>h) (by rfl) (v:=?_) (fun w=>by go_simp;try with_reducible rfl) ?_
  try simp only[Act.put,List.setIfInBounds_toArray,List.set_cons_zero,List.set_cons_succ]
  refine zv2 39 (by simp only[List.getElem?_toArray,List.getElem?_cons_succ,List.getElem?_cons_zero];rfl) (by kernel_rfl) (fun _ _ _ h=>h) (by rfl) (v:=?_) (fun w=>by go_simp;try with_reducible rfl) ?_
  try simp only[Act.put,List.setIfInBounds_toArray,List.set_cons_zero,List.set_cons_succ]
  refine zv2 40 (by simp only[List.getElem?_toArray,List.getElem?_cons_succ,List.getElem?_cons_zero];rfl) (by kernel_rfl) (fun _ _ _ h=>h) (by rfl) (v:=?_) (fun w=>by go_simp;try with_reducible rfl) ?_
  try simp only[Act.put,List.setIfInBounds_toArray,List.set_cons_zero,List.set_cons_succ]
  refine zv2 41 (by simp only[List.getElem?_toArray,List.getElem?_cons_succ,List.getElem?_cons_zero];rfl) (by kernel_rfl) (fun _ _ _ h=>h) (by rfl) (v:=?_) (fun w=>by go_simp;try with_reducible rfl) ?_
  try simp only[Act.put,List.setIfInBounds_toArray,List.set_cons_zero,List.set_cons_succ]
  refine zv2 43 (by simp only[List.getElem?_toArray,List.getElem?_cons_succ,List.getElem?_cons_zero];rfl) (by kernel_rfl) (fun _ _ _ h=>h) (by rfl) (v:=?_) (fun w=>by go_simp;try with_reducible rfl) ?_
  try simp only[Act.put,List.setIfInBounds_toArray,List.set_cons_zero,List.set_cons_succ]
  refine zv2 44 (by simp only[List.getElem?_toArray,List.getElem?_cons_succ,List.getElem?_cons_zero];rfl) (by kernel_rfl) (fun _ _ _ h=>h) (by rfl) (v:=?_) (fun w=>by go_simp;try with_reducible rfl) ?_
  try simp only[Act.put,List.setIfInBounds_toArray,List.set_cons_zero,List.set_cons_succ]
  refine zv2 45 (by simp only[List.getElem?_toArray,List.getElem?_cons_succ,List.getElem?_cons_zero];rfl) (by kernel_rfl) (fun _ _ _ h=>h) (by rfl) (v:=?_) (fun w=>by go_simp;try with_reducible rfl) ?_
  try simp only[Act.put,List.setIfInBounds_toArray,List.set_cons_zero,List.set_cons_succ]
  refine zv2 47 (by simp only[List.getElem?_toArray,List.getElem?_cons_succ,List.getElem?_cons_zero];rfl) (by kernel_rfl) (fun _ _ _ h=>h) (by rfl) (v:=?_) (fun w=>by go_simp;try with_reducible rfl) ?_
  try simp only[Act.put,List.setIfInBounds_toArray,List.set_cons_zero,List.set_cons_succ]
  refine zv2 48 (by simp only[List.getElem?_toArray,List.getElem?_cons_succ,List.getElem?_cons_zero];rfl) (by kernel_rfl) (fun _ _ _ h=>h) (by rfl) (v:=?_) (fun w=>by go_simp;try with_reducible rfl) ?_
  try simp only[Act.put,List.setIfInBounds_toArray,List.set_cons_zero,List.set_cons_succ]
  refine zv2 49 (by simp only[List.getElem?_toArray,List.getElem?_cons_succ,List.getElem?_cons_zero];rfl) (by kernel_rfl) (fun _ _ _ h=>h) (by rfl) (v:=?_) (fun w=>by go_simp;try with_reducible rfl) ?_
  try simp only[Act.put,List.setIfInBounds_toArray,List.set_cons_zero,List.set_cons_succ]
  refine zv2 51 (by simp only[List.getElem?_toArray,List.getElem?_cons_succ,List.getElem?_cons_zero];rfl) (by kernel_rfl) (fun _ _ _ h=>h) (by rfl) (v:=?_) (fun w=>by go_simp;try with_reducible rfl) ?_
  try simp only[Act.put,List.setIfInBounds_toArray,List.set_cons_zero,List.set_cons_succ]
  refine zv2 52 (by simp only[List.getElem?_toArray,List.getElem?_cons_succ,List.getElem?_cons_zero];rfl) (by kernel_rfl) (fun _ _ _ h=>h) (by rfl) (v:=?_) (fun w=>by go_simp;try with_reducible rfl) ?_
  try simp only[Act.put,List.setIfInBounds_toArray,List.set_cons_zero,List.set_cons_succ]
  refine zv2 53 (by simp only[List.getElem?_toArray,List.getElem?_cons_succ,List.getElem?_cons_zero];rfl) (by kernel_rfl) (fun _ _ _ h=>h) (by rfl) (v:=?_) (fun w=>by go_simp;try with_reducible rfl) ?_
  try simp only[Act.put,List.setIfInBounds_toArray,List.set_cons_zero,List.set_cons_succ]
  refine zv2 55 (by simp only[List.getElem?_toArray,List.getElem?_cons_succ,List.getElem?_cons_zero];rfl) (by kernel_rfl) (fun _ _ _ h=>h) (by rfl) (v:=?_) (fun w=>by go_simp;try with_reducible rfl) ?_
  try simp only[Act.put,List.setIfInBounds_toArray,List.set_cons_zero,List.set_cons_succ]
  refine zv2 56 (by simp only[List.getElem?_toArray,List.getElem?_cons_succ,List.getElem?_cons_zero];rfl) (by kernel_rfl) (fun _ _ _ h=>h) (by rfl) (v:=?_) (fun w=>by go_simp;try with_reducible rfl) ?_
  try simp only[Act.put,List.setIfInBounds_toArray,List.set_cons_zero,List.set_cons_succ]
  refine zv2 57 (by simp only[List.getElem?_toArray,List.getElem?_cons_succ,List.getElem?_cons_zero];rfl) (by kernel_rfl) (fun _ _ _ h=>h) (by rfl) (v:=?_) (fun w=>by go_simp;try with_reducible rfl) ?_
  try simp only[Act.put,List.setIfInBounds_toArray,List.set_cons_zero,List.set_cons_succ]
  refine zv2 59 (by simp only[List.getElem?_toArray,List.getElem?_cons_succ,List.getElem?_cons_zero];rfl) (by kernel_rfl) (fun _ _ _ h=>h) (by rfl) (v:=?_) (fun w=>by go_simp;try with_reducible rfl) ?_
  try simp only[Act.put,List.setIfInBounds_toArray,List.set_cons_zero,List.set_cons_succ]
  refine zv2 60 (by simp only[List.getElem?_toArray,List.getElem?_cons_succ,List.getElem?_cons_zero];rfl) (by kernel_rfl) (fun _ _ _ h=>h) (by rfl) (v:=?_) (fun w=>by go_simp;try with_reducible rfl) ?_
  try simp only[Act.put,List.setIfInBounds_toArray,List.set_cons_zero,List.set_cons_succ]
  refine zv2 61 (by simp only[List.getElem?_toArray,List.getElem?_cons_succ,List.getElem?_cons_zero];rfl) (by kernel_rfl) (fun _ _ _ h=>h) (by rfl) (v:=?_) (fun w=>by go_simp;try with_reducible rfl) ?_
  try simp only[Act.put,List.setIfInBounds_toArray,List.set_cons_zero,List.set_cons_succ]
  refine zv2 63 (by simp only[List.getElem?_toArray,List.getElem?_cons_succ,List.getElem?_cons_zero];rfl) (by kernel_rfl) (fun _ _ _ h=>h) (by rfl) (v:=?_) (fun w=>by go_simp;try with_reducible rfl) ?_
  try simp only[Act.put,List.setIfInBounds_toArray,List.set_cons_zero,List.set_cons_succ]
  refine zv2 64 (by simp only[List.getElem?_toArray,List.getElem?_cons_succ,List.getElem?_cons_zero];rfl) (by kernel_rfl) (fun _ _ _ h=>h) (by rfl) (v:=?_) (fun w=>by go_simp;try with_reducible rfl) ?_
  try simp only[Act.put,List.setIfInBounds_toArray,List.set_cons_zero,List.set_cons_succ]
  refine zv2 65 (by simp only[List.getElem?_toArray,List.getElem?_cons_succ,List.getElem?_cons_zero];rfl) (by kernel_rfl) (fun _ _ _ h=>h) (by rfl) (v:=?_) (fun w=>by go_simp;try with_reducible rfl) ?_
  try simp only[Act.put,List.setIfInBounds_toArray,List.set_cons_zero,List.set_cons_succ]
  refine zv2 67 (by simp only[List.getElem?_toArray,List.getElem?_cons_succ,List.getElem?_cons_zero];rfl) (by kernel_rfl) (fun _ _ _ h=>h) (by rfl) (v:=?_) (fun w=>by go_simp;try with_reducible rfl) ?_
  try simp only[Act.put,List.setIfInBounds_toArray,List.set_cons_zero,List.set_cons_succ]
  refine zv2 68 (by simp only[List.getElem?_toArray,List.getElem?_cons_succ,List.getElem?_cons_zero];rfl) (by kernel_rfl) (fun _ _ _ h=>h) (by rfl) (v:=?_) (fun w=>by go_simp;try with_reducible rfl) ?_
  try simp only[Act.put,List.setIfInBounds_toArray,List.set_cons_zero,List.set_cons_succ]
  refine zv2 69 (by simp only[List.getElem?_toArray,List.getElem?_cons_succ,List.getElem?_cons_zero];rfl) (by kernel_rfl) (fun _ _ _ h=>h) (by rfl) (v:=?_) (fun w=>by go_simp;try with_reducible rfl) ?_
  try simp only[Act.put,List.setIfInBounds_toArray,List.set_cons_zero,List.set_cons_succ]
  refine zv2 71 (by simp only[List.getElem?_toArray,List.getElem?_cons_succ,List.getElem?_cons_zero];rfl) (by kernel_rfl) (fun _ _ _ h=>h) (by rfl) (v:=?_) (fun w=>by go_simp;try with_reducible rfl) ?_
  try simp only[Act.put,List.setIfInBounds_toArray,List.set_cons_zero,List.set_cons_succ]
  refine zv2 72 (by simp only[List.getElem?_toArray,List.getElem?_cons_succ,List.getElem?_cons_zero];rfl) (by kernel_rfl) (fun _ _ _ h=>h) (by rfl) (v:=?_) (fun w=>by go_simp;try with_reducible rfl) ?_
  try simp only[Act.put,List.setIfInBounds_toArray,List.set_cons_zero,List.set_cons_succ]
  refine zv2 73 (by simp only[List.getElem?_toArray,List.getElem?_cons_succ,List.getElem?_cons_zero];rfl) (by kernel_rfl) (fun _ _ _ h=>h) (by rfl) (v:=?_) (fun w=>by go_simp;try with_reducible rfl) ?_
  try simp only[Act.put,List.setIfInBounds_toArray,List.set_cons_zero,List.set_cons_succ]
  refine zwF (db:=db) (w0:=w) (m:=24) ?hops (by kernel_rfl) ?hinv ?hpost
  case hpost =>
    intro a w' hd hv hB;refine NoPanic.normal ?_;obtain⟨v,h2,hm⟩:=hv
    go_wp2_with fail
    refine bodyPost_ret (results_tmp rfl _ _ _) hd ⟨_,rfl,?_,hB⟩;simpa [h2] using hm
  case hinv =>
    refine⟨rfl,rfl,rfl,rfl,?_,by decide,?_,fun h=>absurd h (by decide),fun h=>absurd h (by decide),fun h=>absurd h (by decide),fun h=>absurd h (by decide),fun h=>absurd h (by decide),by decide,fun h=>absurd h (by decide),fun h=>absurd h (by decide)⟩
    · intro k hk
      rfl
    · exact Below.drew (Below.refl _ _)
  case hops =>
    refine⟨rfl,⟨_,rfl,rfl,rfl,rfl⟩,⟨_,rfl,rfl,rfl,rfl⟩,⟨_,rfl,rfl,rfl,rfl⟩,⟨_,rfl,rfl,rfl,rfl,?_⟩,⟨_,rfl,rfl,rfl,rfl,?_⟩,⟨_,rfl,rfl,rfl,rfl,?_,?_⟩,⟨_,rfl,rfl,rfl,rfl,?_,?_⟩,?_,⟨_,rfl,rfl,rfl,rfl,?_⟩,⟨_,rfl,rfl,rfl,rfl,?_⟩⟩
    all_goals first
      | exact⟨{ on:=0,ground:=.data },by simp,rfl,rfl⟩
      | exact⟨{ on:=5,ground:=.data },by simp,rfl,rfl⟩
      | exact⟨{ on:=6,ground:=.data },by simp,rfl,rfl⟩
      | exact⟨{ on:=12,ground:=.data },by simp,rfl,rfl⟩
      | exact⟨{ on:=13,ground:=.data },by simp,rfl,rfl⟩
      | exact⟨{ on:=75,ground:=.data },by simp,rfl,rfl⟩
      | skip
    intro r hr p hp;have:r=0∨r=1∨r=2∨r=3∨r=4∨r=5∨r=6∨r=7∨r=8∨r=9∨r=10∨r=11∨r=12∨r=13∨r=14:=by omega
    rcases this with rfl | rfl | rfl | rfl | rfl | rfl | rfl | rfl | rfl | rfl | rfl | rfl | rfl | rfl | rfl <;> (cases hp;exact⟨_,rfl,rfl,rfl,rfl,{ on:=0,ground:=.data },by simp,rfl,rfl⟩)
end Go.Proofs.YtoejfkeofbdalaaGreatDoor
