import Derived.Test.YtoejfkeofbdalaaGreatDoorM02
import Derived.StillTailTactics
set_option linter.unusedVariables false
set_option maxRecDepth 100000
set_option maxHeartbeats 8000000
namespace Go.Proofs.YtoejfkeofbdalaaGreatDoor
open Go.RowKit
def zu5 (b:Bool):Int:=if b then 128 else 0
theorem zsz (x:UInt8) (r:Nat) (hr:r<8):bits BinOp.and IntKind.u8 ((x.toNat:Int)*2 ^ r % 256) 128=zu5 (x.toNat.testBit (7-r)):=by
  have h:∀ (x:Fin 256) (r:Fin 8),bits BinOp.and IntKind.u8 ((x.val:Int)*2 ^ r.val % 256) 128=zu5 (x.val.testBit (7-r.val)):=by decide +kernel
  exact h ⟨x.toNat,x.toNat_lt⟩ ⟨r,hr⟩
theorem zqS (s:ByteArray) (i:Nat) (h:i / 8<s.size):(s[i / 8]).toNat.testBit (7-i % 8)=B.bitAt s.data.toList i:=by
  unfold B.bitAt;rw[List.getD_eq_getElem?_getD,List.getElem?_eq_getElem (by simpa using h)];rfl
theorem zmC (s:ByteArray) (i:Int) (w:World) (h0:0≤i) (h:i<8*s.size) (hs:s.size≤281474976710656) :
    Calls Tryz.prog 127 #[.string s,.int .i64 i] w fun e w'=>e=.returned (.int .u8 (zu5 (B.bitAt s.data.toList i.toNat)))∧w=w':=by
  obtain⟨i,rfl⟩:=Int.eq_ofNat_of_zero_le h0;rw[Int.toNat_natCast]
  go_enter Tryz.func127,Tryz.ntmps127
  go_wp2
  go_ret
  exact⟨zbU (by rw[zsz _ _ (Nat.mod_lt _ (by omega)),zqS s i (by omega)]),rfl⟩
theorem ztJ (x:Nat) (b:Bool) (hx:x<9223372036854775808) :
    bits BinOp.or IntKind.u64 (IntKind.u64.wrap ((x:Int)*2)) (IntKind.u64.wrap (zu5 b / 128))=((2*x+b.toNat:Nat):Int):=by
  have h1:IntKind.u64.wrap ((x:Int)*2)=((2*x:Nat):Int):=by rw[IntKind.wrap_u64];omega
  have h2:IntKind.u64.wrap (zu5 b / 128)=((b.toNat:Nat):Int):=by cases b <;> rfl
  have h3:2*x ||| b.toNat=2*x+b.toNat:=by
    cases b
    · simp
    · have:=Nat.two_pow_add_eq_or_of_lt (i:=1) (b:=1) (by omega) x
      simp only[Bool.toNat_true] at this ⊢;rw[Nat.pow_one] at this;exact this.symm
  rw[h1,h2,u64_or_nat _ _ (by omega) (by cases b <;> simp),h3]
def zd9 (s:List UInt8) (a n:Int):Int:=if n<0∨64<n∨a<0 then 0 else if 8*(s.length:Int)-n<a then 0 else (B.num (B.slice s a.toNat n.toNat):Nat)
def zeO (s:List UInt8) (a n:Int):Int:=if n<0∨64<n∨a<0 then 1 else if 8*(s.length:Int)-n<a then 2 else 0
def zbQ (s:List UInt8) (n:Int):Bool:=decide (0≤n∧s.length=(n.toNat+7) / 8) && decide (∀ i,i<8*s.length→n≤i→B.bitAt s i=false)
theorem zux (b:Bool):(zu5 b != 0)=b:=by cases b <;> rfl
attribute [go_sem] zux
theorem zlp (s:ByteArray) (n:Int) (w:World) (hs:s.size≤281474976710656) (hn:-9223372036854775808≤n) (hn':n≤9223372036854775807) :
    Calls Tryz.prog 125 #[.agg #[.string s,.int .i64 n]] w fun e w'=>e=.returned (.bool (zbQ s.data.toList n))∧Below w.heap.size w w':=by
  by_cases h1:0≤n∧s.data.toList.length=(n.toNat+7) / 8
  · obtain⟨h0,h1⟩:=h1
    obtain⟨n,rfl⟩:=Int.eq_ofNat_of_zero_le h0;rw[Int.toNat_natCast] at h1
    have hr:zbQ s.data.toList n=decide (∀ i,i<8*s.data.toList.length→(n:Int)≤(i:Nat)→B.bitAt s.data.toList i=false):=by
      unfold zbQ;rw[decide_eq_true ⟨h0,by rw[Int.toNat_natCast];exact h1⟩];rfl
    rw[hr];clear hr;have hl:s.data.toList.length=s.size:=by simp
    rw[hl] at h1 ⊢;clear hl;obtain⟨c,hm,hc⟩:∃ c:Nat,(if 1<(n:Int) % 8 then 1 else (n:Int) % 8)=(c:Int)∧c=if 1<n % 8 then 1 else n % 8:=⟨_,by split <;> split <;> omega,rfl⟩
    have hc1:c≤1:=by rw[hc];split <;> omega
    have hb:((s.size:Int) != (n:Int) / 8+c)=false:=by
      rw[bne_eq_false_iff_eq,hc,h1];split <;> omega
    clear hc;have H1:=Lib.hid h1;have hle:n≤8*s.size:=by omega
    clear h1
    go_enter Tryz.func125,Tryz.ntmps125
    go_wp2
    go_loopw [3] (fun i wr=>∃ k:Nat,n≤k∧k≤8*s.size∧i=.int .i64 k∧(∀ j,j<k→n≤j→B.bitAt s.data.toList j=false)∧wr=w.alloc (.cells #[.string s,.int .i64 n] 50)) (fun i _=>8*s.size-(intOf i).toNat)
    case atStart=>exact⟨n,Nat.le_refl _,hle,rfl,fun j h h'=>by omega,rfl⟩
    case round =>
      obtain⟨k,hk,hk2,rfl,hall,rfl⟩:=hrel;have Hall:=Lib.hid hall;clear hall
      by_cases hlt:k<8*s.size
      · go_wp2_with (go_at_call 127;refine (zmC _ _ _ (by omega) (by omega) hs).mono ?_;rintro e w' ⟨rfl,rfl⟩)
        · have ht:B.bitAt s.data.toList k=true:=by assumption
          go_ret
          refine⟨zfy (decide_eq_false fun h=>?_).symm,(Below.refl _ _).alloc (Nat.le_refl _) _⟩;rw[h k hlt (by omega)] at ht;cases ht
        · have ht:B.bitAt s.data.toList k=false:=by assumption
          go_roundw
          case rel=>exact⟨k+1,by omega,by omega,by go_num,fun j h h'=>(by
            by_cases e:j=k
            · rw[e];exact ht
            · exact Hall.out j (by omega) h'),trivial⟩
          case measure=>simp[intOf];omega
      · go_wp2
        go_ret
        refine⟨zfy (decide_eq_true fun j h h'=>?_).symm,(Below.refl _ _).alloc (Nat.le_refl _) _⟩;exact Hall.out j (by omega) (by omega)
  · have hr:zbQ s.data.toList n=false:=by unfold zbQ;rw[decide_eq_false h1];rfl
    rw[hr];clear hr;have hl:s.data.toList.length=s.size:=by simp
    rw[hl] at h1;clear hl
    by_cases h0:n<0
    · clear h1
      go_enter Tryz.func125,Tryz.ntmps125
      go_wp2
      go_ret
      exact⟨rfl,(Below.refl _ _).alloc (Nat.le_refl _) _⟩
    · have h2:(s.size:Int)≠n / 8+min (n % 8) 1:=by omega
      clear h1;obtain⟨n,rfl⟩:=Int.eq_ofNat_of_zero_le (show 0≤n by omega)
      have hb:((s.size:Int) != (n:Int) / 8+if 1<(n:Int) % 8 then 1 else (n:Int) % 8)=true:=by
        rw[bne_iff_ne];split <;> omega
      clear h2
      go_enter Tryz.func125,Tryz.ntmps125
      go_wp2
      all_goals (go_ret;exact⟨rfl,(Below.refl _ _).alloc (Nat.le_refl _) _⟩)
def byteCells (s:List UInt8):List Value:=s.map fun x=>.int .u8 (x.toNat:Int)
theorem zaw (s:List UInt8):(byteCells s).length=s.length:=by simp[byteCells]
theorem zfE (s:List UInt8):∀ u∈byteCells s,u.oneCell'=true:=by
  intro u hu;simp only[byteCells,List.mem_map] at hu;obtain⟨x,_,rfl⟩:=hu;rfl
theorem zrb (s:List UInt8):∀ r:ByteArray,((s.map fun x=>(x.toNat:Int)).foldl (fun r n=>r.push (UInt8.ofNat n.toNat)) r)=⟨r.data++s.toArray⟩:=by
  induction s with
  | nil=>intro r;simp
  | cons x s ih =>
    intro r;rw[List.map_cons,List.foldl_cons,ih];simp[ByteArray.push]
theorem zbb {w:World} {base n:Nat} {v:Value} (s:List UInt8) (h:w.ownsRow base 5 1 v n (byteCells s)) :
    (convert 89 9 v).run Tryz.prog w=.ok (.string ⟨s.toArray⟩) w:=by
  rcases h.2 with ⟨rfl,hn⟩ | ⟨g,cap,cur,rfl,_⟩
  · rw[run_convert_bytes_string w 89 9 5 none 0 0 Tryz.underlying89 Tryz.underlying5 Tryz.underlying9]
    have hs:s=[]:=by
      have:=h.1;rw[zaw,hn] at this;exact List.eq_nil_of_length_eq_zero (by omega)
    subst hs;rfl
  · rw[run_convert_bytes_string w 89 9 5 (some ⟨g,0,none⟩) n cap Tryz.underlying89 Tryz.underlying5 Tryz.underlying9]
    have hc:=h.cells (g:=g) rfl;have hl:(byteCells s).length=n:=by have:=h.1;omega
    have:=run_loadCells_list (P:=Tryz.prog) (w:=w) ⟨g,0,none⟩ (byteCells s) hc;rw[hl] at this;rw[run_bytesToString w ⟨g,0,none⟩ n cap (s.map fun x=>(x.toNat:Int)) (by rw[this,byteCells,List.map_map];rfl),zrb]
    simp
def Wr (w:World) (b:Nat) (l:List Bool):Prop :=
  ∃ v,w.heap[b]?=some (.cells #[v,.int .i64 (l.length:Nat)] 220 (0,0))∧w.ownsRow (b+1) 5 1 v (B.pack l).length (byteCells (B.pack l))
theorem zfs:(Tryz.prog.info? 5).map (fun i=>(i.zero,i.size,i.bytes))=some (some (.int .u8 0),1,1):=by kernel_rfl
theorem zqY (w:World) (b:Nat) (v:Value) (n:Nat) (hb:w.heap[b]?=some (.cells #[v,.int .i64 n] 220 (0,0))) (hn:n % 8≠0) (hn2:n<1152921504606846976) :
    Calls Tryz.prog 126 #[.pointer (some ⟨b,0,none⟩),.bool false] w fun e w'=>e=.returned (.tuple #[])∧w'=w.setCell ⟨b,1,none⟩ (.int .i64 ((n:Int)+1)):=by
  have hc0:w.cell? ⟨b,0,none⟩=some v:=zaa hb 0;have hc1:w.cell? ⟨b,1,none⟩=some (.int .i64 n):=zaa hb 1;have hf1:=zac hb 1;have ht:(((n:Int) % 8) == 0)=false:=by rw[beq_eq_false_iff_ne];omega
  clear hb hn
  go_enter Tryz.func126,Tryz.ntmps126
  go_wp2
  go_end0
  exact⟨rfl,rfl⟩
theorem zrK (w:World) (b g cap:Nat) (n m:Nat) (x:UInt8) (hb:w.heap[b]?=some (.cells #[.slice (some ⟨g,0,none⟩) (m+1) cap,.int .i64 n] 220 (0,0)))
    (hx:w.cell? ⟨g,m,none⟩=some (.int .u8 (x.toNat:Int))) (hf:w.frozen? ⟨g,m,none⟩=false) (hgb:g≠b) (hm:m<1152921504606846976) (hn:n % 8≠0) (hn2:n<1152921504606846976) :
    Calls Tryz.prog 126 #[.pointer (some ⟨b,0,none⟩),.bool true] w fun e w'=>e=.returned (.tuple #[])∧w'=((w.setCell ⟨g,m,none⟩ (.int .u8 (bits BinOp.or IntKind.u8 (x.toNat:Int) (128 / 2 ^ (n % 8))))).setCell ⟨b,1,none⟩ (.int .i64 ((n:Int)+1))).drew:=by
  have hc0:w.cell? ⟨b,0,none⟩=some (.slice (some ⟨g,0,none⟩) (m+1) cap):=zaa hb 0;have hc1:w.cell? ⟨b,1,none⟩=some (.int .i64 n):=zaa hb 1;have hf1:=zac hb 1;have ht:(((n:Int) % 8) == 0)=false:=by rw[beq_eq_false_iff_ne];omega
  clear hb hn
  go_enter Tryz.func126,Tryz.ntmps126
  go_wp2
  have hw1:IntKind.i64.wrap (m:Int)=m:=IntWalk.i64_in _ (by omega)
  have hw2:(n:Int).tmod 8=(n:Int) % 8:=Int.tmod_eq_emod_of_nonneg (by omega)
  have hl1:(m:Int)<(m:Int)+1:=by omega
  have hl2:0≤(n:Int) % 8:=by omega
  have hl3:((n:Int) % 8).toNat=n % 8:=by omega
  go_still_tail 20,(by kernel_rfl)
  go_wp2
  go_end0
  exact⟨rfl,rfl⟩
def zv8 (w:World) (b:Nat) (v:Value) (n m:Nat) (c:Bool) (xs:List Value) (e:Ending) (w':World):Prop :=
  e=.returned (.tuple #[]) ∧
      ∃ g cap w1,(w.alloc (.cells #[.int .u8 0] 5)).grownBy w1 v.ownBlock∧w1.ownsRow (b+1) 5 1 (.slice (some ⟨g,0,none⟩) (m+1) cap) (m+1) (xs++[.int .u8 0]) ∧
        w'=(if c then (((w1.setCell ⟨b,0,none⟩ (.slice (some ⟨g,0,none⟩) (m+1) cap)).setCell ⟨g,m,none⟩ (.int .u8 128)).setCell ⟨b,1,none⟩ (.int .i64 ((n:Int)+1))).drew
          else (w1.setCell ⟨b,0,none⟩ (.slice (some ⟨g,0,none⟩) (m+1) cap)).setCell ⟨b,1,none⟩ (.int .i64 ((n:Int)+1)))
theorem zr5 (w:World) (b:Nat) (v:Value) (n m:Nat) (c:Bool) (xs:List Value) (hb:w.heap[b]?=some (.cells #[v,.int .i64 n] 220 (0,0)))
    (hown:w.ownsRow (b+1) 5 1 v m xs) (hm:m<140737488355328) (hn:n % 8=0) (hn2:n<1152921504606846976) :
    Calls Tryz.prog 126 #[.pointer (some ⟨b,0,none⟩),.bool c] w (zv8 w b v n m c xs):=by
  obtain⟨i0,hi,hz0,hz1,hz2⟩:=info_parts zfs;have hbs:=zab hb;have hc0:w.cell? ⟨b,0,none⟩=some v:=zaa hb 0;have hc1:w.cell? ⟨b,1,none⟩=some (.int .i64 n):=zaa hb 1;have hf1:=zac hb 1;have ht:(((n:Int) % 8) == 0)=true:=by rw[beq_iff_eq];omega
  have Hn:=Lib.hid hn;have Hb:=Lib.hid hb;clear hb hn
  go_enter Tryz.func126,Tryz.ntmps126
  have hvb:∀ k,v.ownBlock=some k→b<k:=fun k hk=>(hown.lt k hk).1
  go_wp2_with
    (at_builtin
     refine wpList_append_own _ rfl _ _ 89 rfl (b+1) 5 i0 (.int .u8 0) 1 1 Tryz.underlying89 hi hz0 hz1 hz2 rfl (by decide) v m xs rfl (hown.alloc _) ⟨w.heap.size,0,none⟩ 1 1 [.int .u8 0] rfl rfl (cell_one_new _ _ _) (by simp[Value.oneCell']) (by simp only[maxLen];omega) (by omega) (by simp;omega) ?_
     intro v' w1 hown1 hgrow1 _;obtain⟨g,cap,rfl⟩:=ownsRow_succ hown1;have hblk:w1.heap[b]?=some (.cells #[v,.int .i64 n] 220 (0,0)):=(hgrow1.block b (by simp;omega) (fun e=>Nat.lt_irrefl b (hvb b e.symm))).trans ((Below.heap_alloc w _ b hbs).trans Hb.out)
     have hgb:¬ g=b:=by have:=(hown1.lt g rfl).1;omega
     have gc0:w1.cell? ⟨b,0,none⟩=some v:=zaa hblk 0;have gc1:w1.cell? ⟨b,1,none⟩=some (.int .i64 n):=zaa hblk 1;have gf:∀ i,w1.frozen? ⟨b,i,none⟩=false:=zac hblk;have hl:xs.length=m:=by have:=hown.1;omega
     have gg:w1.cell? ⟨g,m,none⟩=some (.int .u8 0):=by rw[hown1.cellAt m (by omega),←hl];simp
     have ggf:w1.frozen? ⟨g,m,none⟩=false:=hown1.frozenAt m;have Hblk:=Lib.hid hblk;have Hl:=Lib.hid hl;clear hblk hl)
  · have hw1:IntKind.i64.wrap (m:Int)=m:=IntWalk.i64_in _ (by omega)
    have hw2:(n:Int).tmod 8=(n:Int) % 8:=Int.tmod_eq_emod_of_nonneg (by omega)
    have hl1:(m:Int)<(m:Int)+1:=by omega
    have hl2:(n:Int) % 8=0:=by have:=Hn.out;omega
    have d0:(w1.setCell ⟨b,0,none⟩ (.slice (some ⟨g,0,none⟩) (m+1) cap)).cell? ⟨b,0,none⟩=some (.slice (some ⟨g,0,none⟩) (m+1) cap):=World.cell?_setCell_same _ _ _ gc0;have d1:(w1.setCell ⟨b,0,none⟩ (.slice (some ⟨g,0,none⟩) (m+1) cap)).cell? ⟨b,1,none⟩=some (.int .i64 n):=(World.cell?_setCell_other _ _ _ _ (fun e=>by injection e with _ e _;cases e)).trans gc1
    have d2:(w1.setCell ⟨b,0,none⟩ (.slice (some ⟨g,0,none⟩) (m+1) cap)).cell? ⟨g,m,none⟩=some (.int .u8 0):=(World.cell?_setCell_other _ _ _ _ (fun e=>by injection e with e _ _;exact hgb e.symm)).trans gg
    have d3:∀ i,(w1.setCell ⟨b,0,none⟩ (.slice (some ⟨g,0,none⟩) (m+1) cap)).frozen? ⟨b,i,none⟩=false:=by simp[gf]
    have d4:(w1.setCell ⟨b,0,none⟩ (.slice (some ⟨g,0,none⟩) (m+1) cap)).frozen? ⟨g,m,none⟩=false:=by simp[ggf]
    clear gc0 gc1 gg gf ggf;generalize hW:w1.setCell ⟨b,0,none⟩ (.slice (some ⟨g,0,none⟩) (m+1) cap)=W2 at *
    have HW:=Lib.hid hW;clear hW
    go_still_tail 20,(by kernel_rfl)
    go_wp2
    go_end0
    have hc:c=true:=by assumption
    subst hc;refine⟨rfl,g,cap,w1,hgrow1,hown1,?_⟩;rw[HW.out,if_pos rfl,show bits BinOp.or IntKind.u8 0 128=128 by decide]
  · go_end0
    have hc:c=false:=by assumption
    subst hc;exact⟨rfl,g,cap,w1,hgrow1,hown1,rfl⟩
theorem zuy (x:UInt8) (r:Nat) (hr:r<8):bits BinOp.or IntKind.u8 (x.toNat:Int) (128 / 2 ^ r)=((x ||| UInt8.ofNat (128 >>> r)).toNat:Int):=by
  have h:∀ (x:Fin 256) (r:Fin 8),bits BinOp.or IntKind.u8 (x.val:Int) (128 / 2 ^ r.val)=((UInt8.ofNat x.val ||| UInt8.ofNat (128 >>> r.val)).toNat:Int):=by decide +kernel
  have:=h ⟨x.toNat,x.toNat_lt⟩ ⟨r,hr⟩;simpa using this
theorem zc0 (s:List UInt8) (k:Nat) (x:UInt8) (hk:s.length=k+1) (m:UInt8) (hx:s[k]?=some x) :
    byteCells (B.setLast s m)=(byteCells s).set k (.int .u8 ((x ||| m).toNat:Int)):=by
  unfold byteCells B.setLast;apply List.ext_getElem?
  intro i;simp only[List.getElem?_map,List.getElem?_modify,hk,Nat.add_sub_cancel,List.getElem?_set,List.length_map]
  by_cases h:k=i
  · subst h;rw[hx];simp
  · cases hs:s[i]? <;> simp[h]
theorem zds (s t:List UInt8):byteCells (s++t)=byteCells s++byteCells t:=by simp[byteCells]
theorem getElem?_byteCells (s:List UInt8) (i:Nat) (x:UInt8) (h:s[i]?=some x):(byteCells s)[i]?=some (.int .u8 (x.toNat:Int)):=by
  simp[byteCells,h]
theorem Wr.lt {w:World} {b:Nat} {l:List Bool} (h:Wr w b l):b<w.heap.size:=by
  obtain⟨v,hb,_⟩:=h;exact zab hb
def KeepT (b:Nat) (w w':World):Prop:=∀ k cs t fz,k≠b→t≠5→w.heap[k]?=some (.cells cs t fz)→w'.heap[k]?=some (.cells cs t fz)
theorem KeepT.refl (b:Nat) (w:World):KeepT b w w:=fun _ _ _ _ _ _ h=>h
theorem KeepT.trans {b:Nat} {a w w':World} (h:KeepT b a w) (k:KeepT b w w'):KeepT b a w':=fun i cs t fz h1 h2 h3=>k i cs t fz h1 h2 (h i cs t fz h1 h2 h3)
theorem KeepT.alloc {b:Nat} {a w:World} (h:KeepT b a w) (o:Obj):KeepT b a (w.alloc o):=fun i cs t fz h1 h2 h3=>by
  have:=h i cs t fz h1 h2 h3;exact (Below.heap_alloc w o i (zab this)).trans this
theorem KeepT.drew {b:Nat} {a w:World} (h:KeepT b a w):KeepT b a w.drew:=h
theorem KeepT.own {b:Nat} {a w:World} (h:KeepT b a w) (i:Nat) (u:Value):KeepT b a (w.setCell ⟨b,i,none⟩ u):=fun k cs t fz h1 h2 h3=>by
  exact (Below.heap_setCell w ⟨b,i,none⟩ u k h1).trans (h k cs t fz h1 h2 h3)
theorem KeepT.far {b:Nat} {a w:World} (h:KeepT b a w) {g:Nat} {c:Array Value} {f:Nat × Nat} (hg:w.heap[g]?=some (.cells c 5 f)) (i:Nat) (u:Value):KeepT b a (w.setCell ⟨g,i,none⟩ u):=fun k cs t fz h1 h2 h3=>by
  have hk:=h k cs t fz h1 h2 h3;refine (Below.heap_setCell w ⟨g,i,none⟩ u k (fun e=>?_)).trans hk;subst e;rw[hg] at hk;injection hk with hk
  injection hk with _ ht
  exact h2 ht.symm
theorem KeepT.grown {b:Nat} {a w w':World} (h:KeepT b a w) {v:Value} {base n:Nat} {xs:List Value} (ho:w.ownsRow base 5 1 v n xs) (hg:w.grownBy w' v.ownBlock):KeepT b a w':=fun k cs t fz h1 h2 h3=>by
  have hk:=h k cs t fz h1 h2 h3;refine (hg.block k (zab hk) (fun e=>?_)).trans hk;obtain⟨c,hc⟩:=zaN ho e.symm;rw[hc] at hk;injection hk with hk
  injection hk with _ ht
  exact h2 ht.symm
theorem znh (w:World) (b:Nat) (l:List Bool) (c:Bool) (h:Wr w b l) (hl:l.length<562949953421312) :
    Calls Tryz.prog 126 #[.pointer (some ⟨b,0,none⟩),.bool c] w fun e w'=>e=.returned (.tuple #[])∧Wr w' b (l++[c])∧Below b w w'∧KeepT b w w':=by
  obtain⟨v,hb,hown⟩:=h;have hp:=B.length_pack l;have hlt:=zab hb
  by_cases hn:l.length % 8=0
  · refine (zr5 w b v l.length _ c _ hb hown (by omega) hn (by omega)).mono fun e w' h=>?_
    obtain⟨rfl,g,cap,w1,hg,ho,rfl⟩:=h;have hvb:∀ k,v.ownBlock=some k→b<k:=fun k hk=>(hown.lt k hk).1;have hb1:w1.heap[b]?=some (.cells #[v,.int .i64 l.length] 220 (0,0)):=(hg.block b (by simp;omega) (fun e=>Nat.lt_irrefl b (hvb b e.symm))).trans ((Below.heap_alloc w _ b hlt).trans hb)
    have hgb:=(ho.lt g rfl).1;have B1:Below b w w1:=((Below.refl b w).alloc (by omega) _).grown hg (by simp;omega) (fun k hk=>by have:=hvb k hk;omega)
    have K1:KeepT b w w1:=((KeepT.refl b w).alloc _).grown (hown.alloc _) hg;have hb2:=zaf hb1 0 (.slice (some ⟨g,0,none⟩) ((B.pack l).length+1) cap);have hl1:(B.pack l++[0]).length=(B.pack l).length+1:=by simp
    have hgl:B.grow (B.pack l) l.length=B.pack l++[0]:=by unfold B.grow;rw[if_pos hn]
    have ho':w1.ownsRow (b+1) 5 1 (.slice (some ⟨g,0,none⟩) ((B.pack l).length+1) cap) (B.pack l++[0]).length (byteCells (B.pack l++[0])):=by rw[hl1,zds];exact ho
    cases c with
    | false =>
      rw[if_neg (by simp)]
      have hpk:B.pack (l++[false])=B.pack l++[0]:=by rw[B.pack_snoc];unfold B.step;rw[if_neg (by simp),hgl]
      refine⟨rfl,⟨.slice (some ⟨g,0,none⟩) ((B.pack l).length+1) cap,?_,?_⟩,(B1.setCell (p:=⟨b,0,none⟩) (Nat.le_refl _) _).setCell (p:=⟨b,1,none⟩) (Nat.le_refl _) _,(K1.own 0 _).own 1 _⟩
      · have:=zaf hb2 1 (.int .i64 ((l.length:Int)+1))
        simpa using this
      · rw[hpk]
        exact ownsRow_setCell_below (ownsRow_setCell_below ho' (by simp) _) (by simp) _
    | true =>
      rw[if_pos rfl]
      have hpk:B.pack (l++[true])=B.setLast (B.pack l++[0]) 128:=by
        rw[B.pack_snoc];unfold B.step;rw[if_pos rfl,hgl,hn];rfl
      have hbc:=zc0 (B.pack l++[0]) (B.pack l).length 0 hl1 128 (by simp)
      have ho2:=ho';rw[hl1] at ho2;have hst:=((ownsRow_setCell_below (a:=⟨b,0,none⟩) ho2 (by simp) (.slice (some ⟨g,0,none⟩) ((B.pack l).length+1) cap)).stored (B.pack l).length (.int .u8 128)).1
      have hb3:=(Below.heap_setCell (w1.setCell ⟨b,0,none⟩ (.slice (some ⟨g,0,none⟩) ((B.pack l).length+1) cap)) ⟨g,(B.pack l).length,none⟩ (.int .u8 128) b (by simp;omega)).trans hb2
      obtain⟨cg,hcg⟩:=zaN (ownsRow_setCell_below (a:=⟨b,0,none⟩) ho2 (by simp) (.slice (some ⟨g,0,none⟩) ((B.pack l).length+1) cap)) (g:=g) rfl
      refine⟨rfl,⟨.slice (some ⟨g,0,none⟩) ((B.pack l).length+1) cap,?_,?_⟩,(((B1.setCell (p:=⟨b,0,none⟩) (Nat.le_refl _) _).setCell (p:=⟨g,_,none⟩) (by simp;omega) _).setCell (p:=⟨b,1,none⟩) (Nat.le_refl _) _).drew,(((K1.own 0 _).far hcg _ _).own 1 _).drew⟩
      · have:=zaf hb3 1 (.int .i64 ((l.length:Int)+1))
        simpa [World.drew] using this
      · rw[hpk,B.length_setLast,hbc,hl1]
        exact (ownsRow_setCell_below hst (a:=⟨b,1,none⟩) (by simp) _).drew
  · cases c with
    | false =>
      refine (zqY w b v l.length hb hn (by omega)).mono fun e w' h=>?_
      obtain⟨rfl,rfl⟩:=h;have hpk:B.pack (l++[false])=B.pack l:=by rw[B.pack_snoc];unfold B.step B.grow;rw[if_neg (by simp),if_neg hn]
      refine⟨rfl,⟨v,?_,?_⟩,(Below.refl b w).setCell (p:=⟨b,1,none⟩) (Nat.le_refl _) _,(KeepT.refl b w).own 1 _⟩
      · have:=zaf hb 1 (.int .i64 ((l.length:Int)+1))
        simpa using this
      · rw[hpk]
        exact ownsRow_setCell_below hown (by simp) _
    | true =>
      obtain⟨k,hk⟩:∃ k,(B.pack l).length=k+1:=⟨(B.pack l).length-1,by omega⟩
      rw[hk] at hown;obtain⟨g,cap,rfl⟩:=ownsRow_succ hown;obtain⟨x,hx⟩:∃ x,(B.pack l)[k]?=some x:=⟨_,List.getElem?_eq_getElem (by omega)⟩
      have hgb:=(hown.lt g rfl).1;have hcx:w.cell? ⟨g,k,none⟩=some (.int .u8 (x.toNat:Int)):=by rw[hown.cellAt k (by omega)];exact getElem?_byteCells _ _ _ hx
      refine (zrK w b g cap l.length k x hb hcx (hown.frozenAt k) (by omega) (by omega) hn (by omega)).mono fun e w' h=>?_
      obtain⟨rfl,rfl⟩:=h
      have hpk:B.pack (l++[true])=B.setLast (B.pack l) (UInt8.ofNat (128 >>> (l.length % 8))):=by
        rw[B.pack_snoc];unfold B.step B.grow;rw[if_pos rfl,if_neg hn]
      have hbc:=zc0 (B.pack l) k x hk (UInt8.ofNat (128 >>> (l.length % 8))) hx;have hor:=zuy x (l.length % 8) (Nat.mod_lt _ (by omega))
      rw[hor];have hst:=(hown.stored k (.int .u8 ((x ||| UInt8.ofNat (128 >>> (l.length % 8))).toNat:Int))).1;have hb3:=(Below.heap_setCell w ⟨g,k,none⟩ (.int .u8 ((x ||| UInt8.ofNat (128 >>> (l.length % 8))).toNat:Int)) b (by simp;omega)).trans hb
      obtain⟨cg,hcg⟩:=zaN hown (g:=g) rfl;refine⟨rfl,⟨.slice (some ⟨g,0,none⟩) (k+1) cap,?_,?_⟩,(((Below.refl b w).setCell (p:=⟨g,k,none⟩) (by simp;omega) _).setCell (p:=⟨b,1,none⟩) (Nat.le_refl _) _).drew,(((KeepT.refl b w).far hcg _ _).own 1 _).drew⟩
      · have:=zaf hb3 1 (.int .i64 ((l.length:Int)+1))
        simpa [World.drew] using this
      · rw[hpk,B.length_setLast,hbc,hk]
        exact (ownsRow_setCell_below hst (a:=⟨b,1,none⟩) (by simp) _).drew
end Go.Proofs.YtoejfkeofbdalaaGreatDoor
