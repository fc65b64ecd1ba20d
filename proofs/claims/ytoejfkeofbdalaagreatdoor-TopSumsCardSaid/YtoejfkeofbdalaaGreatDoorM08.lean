import Derived.Test.YtoejfkeofbdalaaGreatDoorM06
import Derived.Recover
set_option linter.unusedVariables false
set_option maxRecDepth 100000
set_option maxHeartbeats 8000000
namespace Go.Proofs.YtoejfkeofbdalaaGreatDoor
open Go.RowKit
def zvt (w:World) (b:Nat) (l:Option (List Bool)) (e:Ending) (w':World):Prop :=
  Below b w w'∧match l with
    | some l=>e=.returned (.tuple #[])∧Wr w' b l
    | none=>e=.panicked [{ v:=.iface 218 (.agg #[]),recovered:=false }]
theorem zm2 (v k:Nat) (hv:v<18446744073709551616):(bits BinOp.and IntKind.u64 ((v:Int) / 2 ^ k) 1 == 1)=v.testBit k:=by
  have h1:((v:Int) / 2 ^ k)=((v / 2 ^ k:Nat):Int):=by push_cast;rfl
  have h2:v / 2 ^ k<18446744073709551616:=Nat.lt_of_le_of_lt (Nat.div_le_self _ _) hv;rw[h1,show (1:Int)=((1:Nat):Int) from rfl,u64_and_nat _ _ h2 (by decide),Nat.and_one_is_mod,Nat.testBit_eq_decide_div_mod_eq]
  rw[Bool.eq_iff_iff];simp only[beq_iff_eq,decide_eq_true_eq];omega
theorem ziZ (w:World) (b:Nat) (l:List Bool) (v:Nat) (n:Int) (h:Wr w b l) (hv:v<18446744073709551616) (hl:l.length<562949953421248) :
    Calls Tryz.prog 67 #[.pointer (some ⟨b,0,none⟩),.int .u64 v,.int .i64 n] w (zvt w b (if 0≤n∧n≤64 then some (l++B.low v n.toNat) else none)):=by
  by_cases hn:0≤n∧n≤64
  · rw[if_pos hn]
    obtain⟨h0,h1⟩:=hn;obtain⟨n,rfl⟩:=Int.eq_ofNat_of_zero_le h0;rw[Int.toNat_natCast]
    go_enter Tryz.func67,Tryz.ntmps67
    go_wp2
    go_loopw [6] (fun i wr=>∃ k:Nat,k≤n∧i=.int .i64 ((k:Int)-1)∧Below b w wr∧∃ m,m.length+k=l.length+n∧Wr wr b m∧m++B.low v k=l++B.low v n) (fun i _=>(intOf i+1).toNat)
    case atStart=>exact⟨n,Nat.le_refl _,rfl,Below.refl _ _,l,rfl,h,rfl⟩
    case round =>
      obtain⟨k,hk,rfl,hB,m,hm,hw,hlow⟩:=hrel;rcases Nat.eq_zero_or_pos k with hk0 | hk0
      · subst hk0
        go_wp2
        go_end0
        refine⟨hB,rfl,?_⟩;rw[B.low_zero,List.append_nil] at hlow;rw[←hlow];exact hw
      · obtain⟨k,rfl⟩:∃ j,k=j+1:=⟨k-1,by omega⟩
        have hbit:=zm2 v k hv
        go_wp2_with (go_at_call 126;refine (znh _ b m (v.testBit k) hw (by omega)).mono ?_;rintro e w' ⟨rfl,hw',hB',_⟩)
        go_roundw
        case rel=>exact⟨k,by omega,rfl,hB.trans hB',m++[v.testBit k],by simp;omega,hw',by rw[←hlow,B.low_succ,List.append_assoc];rfl⟩
        case measure=>simp[intOf]
  · rw[if_neg hn]
    go_enter Tryz.func67,Tryz.ntmps67
    go_wp2
    all_goals exact⟨rfl,Below.refl _ _,rfl⟩
theorem Wr.above {w w1 w2:World} {b:Nat} {l:List Bool} (h:Wr w b l) (h1:Below w.heap.size w w1) (h2:Below w.heap.size w1 w2):Wr w2 b l:=by
  obtain⟨v,hb,ho⟩:=h;have hk:∀ k,k<w.heap.size→w2.heap[k]?=w.heap[k]?:=fun k hk=>(h2.block k hk).trans (h1.block k hk)
  exact⟨v,(hk b (zab hb)).trans hb,ho.1,by
    rcases ho.2 with h0 | ⟨g,cap,cur,hv,hg,hh,r⟩
    · exact .inl h0
    · exact .inr ⟨g,cap,cur,hv,hg,(hk g (zab hh)).trans hh,r⟩⟩
theorem znG (w:World) (b:Nat) (l:List Bool) (s:ByteArray) (n:Int) (h:Wr w b l) (hl:l.length+8*s.size<562949953421312) (hn:-9223372036854775808≤n) (hn':n≤9223372036854775807) :
    Calls Tryz.prog 66 #[.pointer (some ⟨b,0,none⟩),.agg #[.string s,.int .i64 n]] w (zvt w b (if zbQ s.data.toList n then some (l++B.slice s.data.toList 0 n.toNat) else none)):=by
  have hs:s.size≤281474976710656:=by omega
  have hbl:=h.lt;cases hr:zbQ s.data.toList n with
  | false =>
    rw[if_neg (by simp)]
    have hc:=fun W=>zlp s n W hs hn hn';rw[hr] at hc;clear hr;have Hc:=Lib.hid hc;clear hc
    go_enter Tryz.func66,Tryz.ntmps66
    go_wp2_with (go_at_call 125;refine (Hc.out _).mono ?_;rintro e w' ⟨rfl,hB⟩)
    exact⟨rfl,((Below.refl b w).alloc (by omega) _).trans (hB.mono (by simp;omega)),rfl⟩
  | true =>
    rw[if_pos rfl];have hc:=fun W=>zlp s n W hs hn hn';rw[hr] at hc;have Hc:=Lib.hid hc;clear hc
    obtain⟨n,rfl,hn8⟩:∃ m:Nat,n=m∧m≤8*s.size:=by
      unfold zbQ at hr;simp only[Bool.and_eq_true,decide_eq_true_eq] at hr;obtain⟨⟨h0,h1⟩,_⟩:=hr;have:s.data.toList.length=s.size:=by simp
      exact⟨n.toNat,by omega,by omega⟩
    rw[Int.toNat_natCast];clear hr
    go_enter Tryz.func66,Tryz.ntmps66
    go_wp2_with
      (go_at_call 125
       refine (Hc.out _).mono ?_;rintro e w1 ⟨rfl,hB1⟩;obtain⟨hc1,hf1⟩:=zvO hB1;have hz1:w.heap.size+1≤w1.heap.size:=by have:=hB1.size;simpa using this)
    have hbox:w1.heap[w.heap.size]?=some (.cells #[.string s,.int .i64 n] 50 (0,0)):=(hB1.block _ (by simp)).trans (heap_alloc_new w _)
    have hW1:Wr w1 b l:=h.above ((Below.refl w.heap.size w).alloc (Nat.le_refl _) _) (hB1.mono (by simp))
    have hB0:Below b w w1:=((Below.refl b w).alloc (by omega) _).trans (hB1.mono (by simp;omega))
    clear hc1 hf1;have Hbox:=Lib.hid hbox;have HW1:=Lib.hid hW1;clear hbox hW1 hB1
    go_loopw [12] (fun i wr=>∃ k:Nat,k≤n∧i=.int .i64 k∧Below b w wr∧wr.heap[w.heap.size]?=some (.cells #[.string s,.int .i64 n] 50 (0,0))∧Wr wr b (l++B.slice s.data.toList 0 k)) (fun i _=>n-(intOf i).toNat)
    case atStart=>exact⟨0,Nat.zero_le _,rfl,hB0,Hbox.out,by simpa [B.slice] using HW1.out⟩
    case round =>
      obtain⟨k,hk,rfl,hB,hbx,hw⟩:=hrel;have q0:wr.cell? ⟨w.heap.size,0,none⟩=some (.string s):=zaa hbx 0;have Hbx:=Lib.hid hbx;clear hbx
      by_cases hlt:k<n
      · go_wp2_with (first
          | (go_at_call 127;refine (zmC _ _ _ (by omega) (by omega) hs).mono ?_;rintro e w' ⟨rfl,rfl⟩)
          | (go_at_call 126;refine (znh _ b _ (B.bitAt s.data.toList k) hw (by rw[List.length_append,B.length_slice];omega)).mono ?_;rintro e w' ⟨rfl,hw',hB',hK'⟩))
        go_roundw
        case rel=>exact⟨k+1,by omega,by go_num,hB.trans hB',hK' _ _ _ _ (by omega) (by decide) Hbx.out,by rw[B.slice_succ,←List.append_assoc,Nat.zero_add];exact hw'⟩
        case measure=>simp[intOf];omega
      · go_wp2
        obtain rfl:k=n:=by omega
        go_end0
        exact⟨hB,rfl,hw⟩
theorem zpe (p q:Addr) (w:World) :
    CallsD Tryz.prog 124 #[.pointer (some p),.pointer (some q)] .returning w fun e u' w'=>e=.returned (.tuple #[])∧u' = .returning∧w'=w:=by
  refine callsD_of_wpS Tryz.func124 rfl fun c₀ cs hu=>?_;apply wpS_seq
  apply wpS_region
  simp[wpOpsS,go_sem,recoverD,hu,Tryz.ntmps124,Exit.thenS];refine wpS_of_wp ?_
  go_wp2
  obtain⟨fn0,tm0,td0,df0,md0,kd0⟩:=c₀;obtain rfl:md0=_:=hu;simp[bodyPostS,results,Tryz.results124]
theorem hta:∀ w,(Instr.typeAssert (.iface 218 (.agg #[])) 20 218 true).run Tryz.prog w=.ok (.tuple #[.agg #[],.bool true]) w:=fun _=>by kernel_rfl
theorem zmK (b g:Nat) (s:ByteArray) (n z:Int) (w:World) (hbg:¬ b=g) (hgb:¬ g=b) (hb:w.heap[b]?=some (.cells #[.string s,.int .i64 n] 50 (0,0))) (hg:w.heap[g]?=some (.cells #[.int .i64 z] 25 (0,0))) :
    CallsD Tryz.prog 124 #[.pointer (some ⟨b,0,none⟩),.pointer (some ⟨g,0,none⟩)] (.panicking [{ v:=.iface 218 (.agg #[]),recovered:=false }]) w fun e u' w'=>e=.returned (.tuple #[])∧u' = .panicking [{ v:=.iface 218 (.agg #[]),recovered:=true }]∧w'=(((w.setCell ⟨b,0,none⟩ (.string ⟨#[]⟩)).setCell ⟨b,1,none⟩ (.int .i64 0)).setCell ⟨g,0,none⟩ (.int .i64 1)).alloc (.cells #[] 218):=by
  have hta:=hta;have c0:w.cell? ⟨b,0,none⟩=some (.string s):=zaa hb 0;have c1:w.cell? ⟨b,1,none⟩=some (.int .i64 n):=zaa hb 1;have c2:w.cell? ⟨g,0,none⟩=some (.int .i64 z):=zaa hg 0;have f0:=zac hb;have f1:=zac hg;have hbl:=zab hb;have hgl:=zab hg;refine callsD_of_wpS Tryz.func124 rfl fun c₀ cs hu=>?_;apply wpS_seq
  apply wpS_region
  simp[wpOpsS,go_sem,recoverD,hu,Tryz.ntmps124,Exit.thenS];refine wpS_of_wp ?_
  go_wp2
  obtain⟨fn0,tm0,td0,df0,md0,kd0⟩:=c₀;obtain rfl:md0=_:=hu;simp[bodyPostS,results,Tryz.results124]
def zey (l:List Bool):Value:=.agg #[.string ⟨(B.pack l).toArray⟩,.int .i64 (l.length:Nat)]
def zdc:Option (List Bool)→Value
  | some l=>.tuple #[zey l,.int .i64 0]
  | none=>.tuple #[.agg #[.string ⟨#[]⟩,.int .i64 0],.int .i64 1]
theorem zng (w:World) (k:Nat) (cap:Array Value) (ls:Option (List Bool)) (hk:Enters Tryz.prog k)
    (hcl:∀ (W:World) (b:Nat),Below w.heap.size w W→w.heap.size≤b→Wr W b []→Calls Tryz.prog k (#[.pointer (some ⟨b,0,none⟩)]++cap) W (zvt W b ls)) :
    Calls Tryz.prog 64 #[.func (.func k) #[] cap] w fun e w'=>e=.returned (zdc ls)∧Below w.heap.size w w':=by
  have hmf:=hmf;have Hcl:=Lib.hid hcl;clear hcl
  go_enter_defers Tryz.func64,Tryz.ntmps64
  have hW:∀ (W:World),Wr ((W.alloc (.cells #[.slice none 0 0,.int .i64 0] 220))) W.heap.size []:=fun W =>
    ⟨.slice none 0 0,heap_alloc_new W _,World.ownsRow_nil _ _ _ _⟩
  obtain⟨w3,hw3⟩:∃ w3,w3=((w.alloc (.cells #[.string ⟨#[]⟩,.int .i64 0] 50)).alloc (.cells #[.int .i64 0] 25)).alloc (.cells #[.slice none 0 0,.int .i64 0] 220):=⟨_,rfl⟩;have hsz:w.heap.size+3=w3.heap.size:=by rw[hw3];simp
  have hB3:Below w.heap.size w w3:=by rw[hw3];exact (((Below.refl _ _).alloc (Nat.le_refl _) _).alloc (by simp) _).alloc (by simp;omega) _
  have hW3:Wr w3 (w.heap.size+1+1) []:=by rw[hw3];have:=hW ((w.alloc (.cells #[.string ⟨#[]⟩,.int .i64 0] 50)).alloc (.cells #[.int .i64 0] 25));simpa using this
  have hb0:w3.heap[w.heap.size]?=some (.cells #[.string ⟨#[]⟩,.int .i64 0] 50 (0,0)):=by
    rw[hw3,Below.heap_alloc _ _ _ (by simp;omega),Below.heap_alloc _ _ _ (by simp)]
    exact heap_alloc_new w _
  have hb1:w3.heap[w.heap.size+1]?=some (.cells #[.int .i64 0] 25 (0,0)):=by
    rw[hw3,Below.heap_alloc _ _ _ (by simp)]
    have:=heap_alloc_new (w.alloc (.cells #[.string ⟨#[]⟩,.int .i64 0] 50)) (.cells #[.int .i64 0] 25);simpa using this
  have Hw3:=Lib.hid hw3;clear hw3 hW;have C:=Lib.hid (Hcl.out w3 _ hB3 (by omega) hW3)
  have hen:=hk;unfold Enters at hen
  go_wp2_with fail
  rw[←Hw3.out];refine C.out.mono ?_;rintro e w4 ⟨hB4,hL⟩;have h40:=(hB4.block w.heap.size (by omega)).trans hb0
  have h41:=(hB4.block (w.heap.size+1) (by omega)).trans hb1
  have hz4:w.heap.size+3≤w4.heap.size:=by have:=hB4.size;omega
  have hB:=hB3.trans (hB4.mono (by omega))
  clear hb0 hb1 hW3 hB3 hsz Hw3 C hen;cases ls with
  | none =>
    obtain rfl:=hL
    go_wp2
    refine leaves_cons (f:=124) (args:=#[.pointer (some ⟨w.heap.size,0,none⟩),.pointer (some ⟨w.heap.size+1,0,none⟩)]) (by simp) (by simp[go_sem]) ?_
    refine (zmK w.heap.size (w.heap.size+1) _ _ _ w4 (by omega) (by omega) h40 h41).mono ?_
    rintro e u' w'' ⟨rfl,rfl,rfl⟩;have s1:=zaf (zaf h40 0 (.string ⟨#[]⟩)) 1 (.int .i64 0);have s2:=((Below.heap_setCell _ ⟨w.heap.size,1,none⟩ (.int .i64 0) (w.heap.size+1) (by simp)).trans (Below.heap_setCell w4 ⟨w.heap.size,0,none⟩ (.string ⟨#[]⟩) (w.heap.size+1) (by simp))).trans h41
    have s3:=zaf s2 0 (.int .i64 1);have s4:=(Below.heap_setCell _ ⟨w.heap.size+1,0,none⟩ (.int .i64 1) w.heap.size (by simp)).trans s1
    have s5:=(Below.heap_alloc _ (.cells #[] 218) _ (zab s4)).trans s4;have s6:=(Below.heap_alloc _ (.cells #[] 218) _ (zab s3)).trans s3
    have hB':Below w.heap.size w ((((w4.setCell ⟨w.heap.size,0,none⟩ (.string ⟨#[]⟩)).setCell ⟨w.heap.size,1,none⟩ (.int .i64 0)).setCell ⟨w.heap.size+1,0,none⟩ (.int .i64 1)).alloc (.cells #[] 218)) :=
      (((hB.setCell (p:=⟨w.heap.size,0,none⟩) (Nat.le_refl _) _).setCell (p:=⟨w.heap.size,1,none⟩) (Nat.le_refl _) _).setCell (p:=⟨w.heap.size+1,0,none⟩) (by simp) _).alloc (by simp;omega) _
    generalize ((((w4.setCell ⟨w.heap.size,0,none⟩ (.string ⟨#[]⟩)).setCell ⟨w.heap.size,1,none⟩ (.int .i64 0)).setCell ⟨w.heap.size+1,0,none⟩ (.int .i64 1)).alloc (.cells #[] 218))=W at *
    have c0:W.cell? ⟨w.heap.size,0,none⟩=some (.string ⟨#[]⟩):=zaa s5 0;have c1:W.cell? ⟨w.heap.size,1,none⟩=some (.int .i64 0):=zaa s5 1;have c2:W.cell? ⟨w.heap.size+1,0,none⟩=some (.int .i64 1):=zaa s6 0;simp[Leaves,settle,results,Tryz.results64,go_sem,c0,c1,c2,zdc];exact hB'
  | some l =>
    obtain⟨rfl,v,hv,hown⟩:=hL;have hcv:=zbb _ hown;have c0:w4.cell? ⟨w.heap.size,0,none⟩=some (.string ⟨#[]⟩):=zaa h40 0;have c1:w4.cell? ⟨w.heap.size,1,none⟩=some (.int .i64 0):=zaa h40 1;have c2:w4.cell? ⟨w.heap.size+1,0,none⟩=some (.int .i64 0):=zaa h41 0;have c3:w4.cell? ⟨w.heap.size+1+1,0,none⟩=some v:=zaa hv 0;have c4:w4.cell? ⟨w.heap.size+1+1,1,none⟩=some (.int .i64 l.length):=zaa hv 1;have f0:=zac h40;have f1:=zac h41;have f2:=zac hv;have Hown:=Lib.hid hown;have H40:=Lib.hid h40;have H41:=Lib.hid h41;have Hv:=Lib.hid hv;clear hown h40 h41 hv
    go_wp2
    refine leaves_cons (f:=124) (args:=#[.pointer (some ⟨w.heap.size,0,none⟩),.pointer (some ⟨w.heap.size+1,0,none⟩)]) (by simp) (by simp[go_sem]) ?_
    refine (zpe _ _ _).mono ?_;rintro e u' w'' ⟨rfl,rfl,rfl⟩;simp[Leaves,settle,results,Tryz.results64,go_sem,c0,c1,c2,zdc];exact⟨rfl,((hB.setCell (p:=⟨w.heap.size,0,none⟩) (Nat.le_refl _) _).setCell (p:=⟨w.heap.size,1,none⟩) (Nat.le_refl _) _).setCell (p:=⟨w.heap.size+1,0,none⟩) (by simp) _⟩
def zrM (s:List UInt8) (m:Int) (v:Nat) (n:Int):Option (List Bool) :=
  if zbQ s m then (if 0≤n∧n≤64 then some (B.slice s 0 m.toNat++B.low v n.toNat) else none) else none
theorem ztC (w:World) (b:Nat) (a1 a2 a3:Nat) (s:ByteArray) (m:Int) (v:Nat) (n:Int) (h:Wr w b []) (hs:8*s.size<562949953421248) (hv:v<18446744073709551616)
    (hm:-9223372036854775808≤m) (hm':m≤9223372036854775807) (h1:a1<b) (h2:a2<b) (h3:a3<b)
    (c1:w.heap[a1]?=some (.cells #[.string s,.int .i64 m] 50 (0,0))) (c2:w.heap[a2]?=some (.cells #[.int .u64 v] 58 (0,0))) (c3:w.heap[a3]?=some (.cells #[.int .i64 n] 3 (0,0))) :
    Calls Tryz.prog 65 #[.pointer (some ⟨b,0,none⟩),.pointer (some ⟨a1,0,none⟩),.pointer (some ⟨a2,0,none⟩),.pointer (some ⟨a3,0,none⟩)] w (zvt w b (zrM s.data.toList m v n)):=by
  have q0:w.cell? ⟨a1,0,none⟩=some (.string s):=zaa c1 0;have q1:w.cell? ⟨a1,1,none⟩=some (.int .i64 m):=zaa c1 1;have hb:=znG w b [] s m h (by simpa using by omega) hm hm'
  have Hb:=Lib.hid hb;have C1:=Lib.hid c1;have C2:=Lib.hid c2;have C3:=Lib.hid c3;clear hb c1 c2 c3;cases hr:zbQ s.data.toList m with
  | false =>
    have hp:zrM s.data.toList m v n=none:=by unfold zrM;rw[hr];rfl
    rw[hp];rw[hr] at Hb;clear hr hp
    go_enter Tryz.func65,Tryz.ntmps65
    go_wp2_with (go_at_call 66;refine Hb.out.mono ?_;rintro e w' ⟨hB,rfl⟩)
    exact⟨rfl,hB,rfl⟩
  | true =>
    have hp:zrM s.data.toList m v n=if 0≤n∧n≤64 then some (B.slice s.data.toList 0 m.toNat++B.low v n.toNat) else none:=by unfold zrM;rw[hr];rfl
    rw[hp];rw[hr,if_pos rfl,List.nil_append] at Hb
    have hl:(B.slice s.data.toList 0 m.toNat).length≤8*s.size:=by
      rw[B.length_slice];unfold zbQ at hr;simp only[Bool.and_eq_true,decide_eq_true_eq] at hr;have:s.data.toList.length=s.size:=by simp
      omega
    clear hr hp;generalize B.slice s.data.toList 0 m.toNat=l at *
    by_cases hn:0≤n∧n≤64
    · have e:(if 0≤n∧n≤64 then some (l++B.low v n.toNat) else none)=some (l++B.low v n.toNat):=if_pos hn
      rw[e];clear e
      go_enter Tryz.func65,Tryz.ntmps65
      go_wp2_with
        (first
         | (go_at_call 66
            refine Hb.out.mono ?_;rintro e w1 ⟨hB,rfl,hW⟩;have q2:w1.cell? ⟨a2,0,none⟩=some (.int .u64 v):=zaa ((hB.block _ h2).trans C2.out) 0;have q3:w1.cell? ⟨a3,0,none⟩=some (.int .i64 n):=zaa ((hB.block _ h3).trans C3.out) 0)
         | (go_at_call 67
            refine (ziZ _ b l v n hW hv (by omega)).mono ?_
            rintro e w2 ⟨hB2,hL⟩;rw[if_pos hn] at hL;obtain⟨rfl,hW2⟩:=hL))
      go_end0
      exact⟨hB.trans hB2,rfl,hW2⟩
    · have e:(if 0≤n∧n≤64 then some (l++B.low v n.toNat) else none)=none:=if_neg hn
      rw[e];clear e
      go_enter Tryz.func65,Tryz.ntmps65
      go_wp2_with
        (first
         | (go_at_call 66
            refine Hb.out.mono ?_;rintro e w1 ⟨hB,rfl,hW⟩;have q2:w1.cell? ⟨a2,0,none⟩=some (.int .u64 v):=zaa ((hB.block _ h2).trans C2.out) 0;have q3:w1.cell? ⟨a3,0,none⟩=some (.int .i64 n):=zaa ((hB.block _ h3).trans C3.out) 0)
         | (go_at_call 67
            refine (ziZ _ b l v n hW hv (by omega)).mono ?_
            rintro e w2 ⟨hB2,hL⟩;rw[if_neg hn] at hL;obtain rfl:=hL))
      exact⟨rfl,hB.trans hB2,rfl⟩
theorem zm3:Enters Tryz.prog 65:=enters_of Tryz.func65 (by kernel_rfl) rfl
def znw:Value:=.agg #[.string ⟨#[]⟩,.int .i64 0]
theorem zun (w:World) (s:ByteArray) (m:Int) (v:Nat) (n:Int) (hs:8*s.size<562949953421248) (hv:v<18446744073709551616) (hm:-9223372036854775808≤m) (hm':m≤9223372036854775807) :
    Calls Tryz.prog 19 #[.agg #[.string s,.int .i64 m],.int .u64 v,.int .i64 n] w fun e w'=>e=.returned (zdc (zrM s.data.toList m v n))∧Below w.heap.size w w':=by
  have hmf:=hmf;have hz:(((w.alloc (.cells #[.string s,.int .i64 m] 50)).alloc (.cells #[.int .u64 v] 58)).alloc (.cells #[.int .i64 n] 3)).heap.size=w.heap.size+3:=by simp
  obtain⟨W,hW⟩:∃ W,W=((((w.alloc (.cells #[.string s,.int .i64 m] 50)).alloc (.cells #[.int .u64 v] 58)).alloc (.cells #[.int .i64 n] 3)).alloc (.cells #[.string ⟨#[]⟩,.int .i64 0] 50)):=⟨_,rfl⟩;have a0:W.heap[w.heap.size]?=some (.cells #[.string s,.int .i64 m] 50 (0,0)):=by rw[hW];exact zah _ (zah _ (zah _ (heap_alloc_new w _)))
  have a1:W.heap[w.heap.size+1]?=some (.cells #[.int .u64 v] 58 (0,0)):=by rw[hW];exact zah _ (zah _ (zae _ _ _ (by simp)))
  have a2:W.heap[w.heap.size+1+1]?=some (.cells #[.int .i64 n] 3 (0,0)):=by rw[hW];exact zah _ (zae _ _ _ (by simp))
  have a3:W.heap[w.heap.size+1+1+1]?=some (.cells #[.string ⟨#[]⟩,.int .i64 0] 50 (0,0)):=by rw[hW];exact zae _ _ _ (by simp)
  have hWs:W.heap.size=w.heap.size+4:=by rw[hW];simp
  have hWB:Below w.heap.size w W:=by rw[hW];exact ((((Below.refl _ _).alloc (Nat.le_refl _) _).alloc (by simp) _).alloc (by simp;omega) _).alloc (by simp;omega) _
  have HW:=Lib.hid hW;clear hW hz
  have C:=Lib.hid (zng W 65 #[.pointer (some ⟨w.heap.size,0,none⟩),.pointer (some ⟨w.heap.size+1,0,none⟩),.pointer (some ⟨w.heap.size+1+1,0,none⟩)] (zrM s.data.toList m v n) zm3
    (fun W' b hB hb hw=>ztC W' b w.heap.size (w.heap.size+1) (w.heap.size+1+1) s m v n hw hs hv hm hm' (by omega) (by omega) (by omega) ((hB.block _ (by omega)).trans a0) ((hB.block _ (by omega)).trans a1) ((hB.block _ (by omega)).trans a2)))
  have A3:=Lib.hid a3;clear a0 a1 a2 a3;generalize zrM s.data.toList m v n=ls at *
  go_enter Tryz.func19,Tryz.ntmps19
  go_wp2_with fail
  rw[←HW.out];refine C.out.mono ?_;rintro e w1 ⟨rfl,hB⟩;have hb3:=(hB.block _ (by omega)).trans A3.out
  have q0:w1.cell? ⟨w.heap.size+1+1+1,0,none⟩=some (.string ⟨#[]⟩):=zaa hb3 0;have q1:w1.cell? ⟨w.heap.size+1+1+1,1,none⟩=some (.int .i64 0):=zaa hb3 1;have qf:=zac hb3;have hBw:=hWB.trans (hB.mono (by omega))
  clear hb3 C HW A3;cases ls with
  | none =>
    simp only[zdc]
    go_wp2
    exact bodyPost_ret (v:=.tuple #[znw,.int .i64 1]) (by simp[results,Tryz.results19,go_sem,q0,q1,znw]) rfl ⟨rfl,(hBw.setCell (p:=⟨w.heap.size+1+1+1,0,none⟩) (by simp;omega) _).setCell (p:=⟨w.heap.size+1+1+1,1,none⟩) (by simp;omega) _⟩
  | some l =>
    simp only[zdc,zey]
    go_wp2
    exact bodyPost_ret (v:=.tuple #[zey l,.int .i64 0]) (by simp[results,Tryz.results19,go_sem,q0,q1,zey]) rfl ⟨rfl,(hBw.setCell (p:=⟨w.heap.size+1+1+1,0,none⟩) (by simp;omega) _).setCell (p:=⟨w.heap.size+1+1+1,1,none⟩) (by simp;omega) _⟩
abbrev zmY:=ByteArray × Int
def zam (ps:List zmY):List Value:=ps.flatMap fun p=>[.string p.1,.int .i64 p.2]
theorem zdr (ps:List zmY):(zam ps).length=ps.length*2:=by
  induction ps with
  | nil=>rfl
  | cons p ps ih=>simp only[zam,List.flatMap_cons,List.length_append,List.length_cons,List.length_nil] at ih ⊢;omega
theorem zga (ps:List zmY):∀ (i:Nat) (p:zmY),ps[i]?=some p→(zam ps)[i*2]?=some (.string p.1)∧(zam ps)[i*2+1]?=some (.int .i64 p.2):=by
  induction ps with
  | nil=>intro i p h;simp at h
  | cons q ps ih =>
    intro i p h;cases i with
    | zero=>simp at h;subst h;simp[zam]
    | succ i =>
      have:=ih i p (by simpa using h)
      simp only[zam,List.flatMap_cons] at this ⊢
      constructor
      · rw[List.getElem?_append_right (by simp;omega)]
        simpa [show (i+1)*2-2=i*2 by omega] using this.1
      · rw[List.getElem?_append_right (by simp;omega)]
        simpa [show (i+1)*2+1-2=i*2+1 by omega] using this.2
def zeB (w:World) (B:Nat) (v:Value) (ps:List zmY):Prop:=Rd w B 2 v ps.length (zam ps)
def zb5 (l:List Bool):List zmY→Option (List Bool)
  | []=>some l
  | p::ps=>if zbQ p.1.data.toList p.2 then zb5 (l++B.slice p.1.data.toList 0 p.2.toNat) ps else none
def zbV:List zmY→Nat
  | []=>0
  | p::ps=>8*p.1.size+zbV ps
def zl5 (ps:List zmY):Prop:=∀ p∈ps,-9223372036854775808≤p.2∧p.2≤9223372036854775807
theorem zjY (ps:List zmY) (k:Nat) (p:zmY) (h:ps[k]?=some p):zbV (ps.drop k)=8*p.1.size+zbV (ps.drop (k+1)):=by
  have hk:k<ps.length:=by
    rcases Nat.lt_or_ge k ps.length with h' | h'
    · exact h'
    · rw[List.getElem?_eq_none h'] at h;cases h
  rw[List.drop_eq_getElem_cons hk];rw[List.getElem?_eq_getElem hk] at h;injection h with h
  rw[h];rfl
theorem zlx (l:List Bool) (ps:List zmY) (k:Nat) (p:zmY) (h:ps[k]?=some p) :
    zb5 l (ps.drop k)=if zbQ p.1.data.toList p.2 then zb5 (l++B.slice p.1.data.toList 0 p.2.toNat) (ps.drop (k+1)) else none:=by
  have hk:k<ps.length:=by
    rcases Nat.lt_or_ge k ps.length with h' | h'
    · exact h'
    · rw[List.getElem?_eq_none h'] at h;cases h
  rw[List.drop_eq_getElem_cons hk];rw[List.getElem?_eq_getElem hk] at h;injection h with h
  rw[h];rfl
theorem zhZ (s:ByteArray) (n:Int) (h:zbQ s.data.toList n=true):(B.slice s.data.toList 0 n.toNat).length≤8*s.size:=by
  rw[B.length_slice];unfold zbQ at h;simp only[Bool.and_eq_true,decide_eq_true_eq] at h;have:s.data.toList.length=s.size:=by simp
  omega
theorem ztr (w:World) (b a:Nat) (v:Value) (ps:List zmY) (h:Wr w b []) (hab:a<b) (hv:zeB w b v ps) (hp:zl5 ps) (hbits:zbV ps<562949953421312)
    (c1:w.heap[a]?=some (.cells #[v] 106 (0,0))) :
    Calls Tryz.prog 68 #[.pointer (some ⟨b,0,none⟩),.pointer (some ⟨a,0,none⟩)] w (zvt w b (zb5 [] ps)):=by
  have q0:w.cell? ⟨a,0,none⟩=some v:=zaa c1 0;have hv':=hv;obtain⟨hlc,A,cap,rfl,hcap,hmax,hmore⟩:=hv';clear hlc hmore;have hbl:=h.lt;clear c1;generalize hls:zb5 [] ps=ls at *
  have Hls:=Lib.hid hls;clear hls;unfold maxLen at hmax
  go_enter Tryz.func68,Tryz.ntmps68
  go_wp2
  go_loopw [7] (fun i wr=>∃ k:Nat,k≤ps.length∧i=.int .i64 k∧Below b w wr∧∃ l,Wr wr b l∧l.length+zbV (ps.drop k)<562949953421312∧zb5 l (ps.drop k)=ls) (fun i _=>ps.length-(intOf i).toNat)
  case atStart=>exact⟨0,Nat.zero_le _,rfl,Below.refl _ _,[],h,by simpa using hbits,Hls.out⟩
  case round =>
    obtain⟨k,hk,rfl,hB,l,hw,hlen,hcat⟩:=hrel
    by_cases hlt:k<ps.length
    · have hx:ps[k]?=some (ps[k]):=List.getElem?_eq_getElem hlt
      generalize ps[k]=p at hx;obtain⟨s,n⟩:=p;obtain⟨g,o,rfl,hg,hc⟩:=(hv.below hB (Nat.le_refl _)).addr (by omega)
      have hpc:=zga ps k _ hx;have r1:wr.cell? ⟨g,o+k*2,none⟩=some (.string s):=hc _ _ hpc.1;have r2:wr.cell? ⟨g,o+k*2+1,none⟩=some (.int .i64 n):=hc _ _ hpc.2;have q0r:wr.cell? ⟨a,0,none⟩=some (.slice (some ⟨g,o,none⟩) ps.length cap):=(hB.cell (p:=⟨a,0,none⟩) hab).trans q0;have hpd:=zjY ps k _ hx;have hcd:=zlx l ps k _ hx;have hpr:=hp _ (List.mem_of_getElem? hx);simp only at hpd hcd hpr;have hwa:Wr (wr.alloc (.cells #[.string s,.int .i64 n] 50)) b l:=hw.above ((Below.refl _ _).alloc (Nat.le_refl _) _) (Below.refl _ _);have hb:=znG (wr.alloc (.cells #[.string s,.int .i64 n] 50)) b l s n hwa (by omega) hpr.1 hpr.2
      have hBa:Below b w (wr.alloc (.cells #[.string s,.int .i64 n] 50)):=hB.alloc (by have:=hB.size;omega) _
      have hsl:=zhZ s n;clear hc hpc hx hw hwa;cases hr:zbQ s.data.toList n with
      | false =>
        rw[hr] at hcd hb;rw[hcat] at hcd;have Hb:=Lib.hid hb;have Hcd:=Lib.hid hcd;clear hb hcd hcat hr hsl
        go_wp2_with (go_at_call 66;refine Hb.out.mono ?_;rintro e w' ⟨hB',rfl⟩)
        refine⟨rfl,hBa.trans hB',?_⟩;rw[Hcd.out];rfl
      | true =>
        have hsl:=hsl hr;rw[hr] at hcd hb;rw[hcat,if_pos rfl] at hcd;rw[if_pos rfl] at hb;generalize B.slice s.data.toList 0 n.toNat=m at *
        have Hb:=Lib.hid hb;have Hcd:=Lib.hid hcd;have Hpd:=Lib.hid hpd;have hlen2:(l++m).length+zbV (ps.drop (k+1))<562949953421312:=by rw[List.length_append];omega
        clear hb hcd hcat hr hpd hlen
        go_wp2_with (go_at_call 66;refine Hb.out.mono ?_;rintro e w' ⟨hB',rfl,hW'⟩)
        go_roundw
        case rel=>exact⟨k+1,by omega,by go_num,hBa.trans hB',l++m,hW',hlen2,Hcd.out.symm⟩
        case measure=>simp[intOf];omega
    · obtain rfl:k=ps.length:=by omega
      rw[List.drop_of_length_le (Nat.le_refl _)] at hcat;have Hcat:=Lib.hid hcat;clear hcat
      go_wp2
      go_end0
      refine⟨hB,?_⟩;rw[←Hcat.out];exact⟨rfl,hw⟩
theorem zl0:Enters Tryz.prog 68:=enters_of Tryz.func68 (by kernel_rfl) rfl
theorem zul (w:World) (v:Value) (ps:List zmY) (hv:zeB w w.heap.size v ps) (hp:zl5 ps) (hbits:zbV ps<562949953421312) :
    Calls Tryz.prog 20 #[v] w fun e w'=>e=.returned (zdc (zb5 [] ps))∧Below w.heap.size w w':=by
  have hmf:=hmf;have hv':=hv;obtain⟨hlc,A,cap,rfl,hcap,hmax,hmore⟩:=hv';clear hlc hmore hcap hmax;obtain⟨W,hW⟩:∃ W,W=((w.alloc (.cells #[.slice A ps.length cap] 106)).alloc (.cells #[.string ⟨#[]⟩,.int .i64 0] 50)):=⟨_,rfl⟩;have a0:W.heap[w.heap.size]?=some (.cells #[.slice A ps.length cap] 106 (0,0)):=by rw[hW];exact zah _ (heap_alloc_new w _)
  have a3:W.heap[w.heap.size+1]?=some (.cells #[.string ⟨#[]⟩,.int .i64 0] 50 (0,0)):=by rw[hW];exact zae _ _ _ (by simp)
  have hWs:W.heap.size=w.heap.size+2:=by rw[hW];simp
  have hWB:Below w.heap.size w W:=by rw[hW];exact ((Below.refl _ _).alloc (Nat.le_refl _) _).alloc (by simp) _
  have HW:=Lib.hid hW;clear hW
  have C:=Lib.hid (zng W 68 #[.pointer (some ⟨w.heap.size,0,none⟩)] (zb5 [] ps) zl0
    (fun W' b hB hb hw=>ztr W' b w.heap.size _ ps hw (by omega) ((hv.below (hWB.trans (hB.mono (by omega))) (Nat.le_refl _)).mono (by omega)) hp hbits ((hB.block _ (by omega)).trans a0)))
  have A3:=Lib.hid a3;clear a0 a3;generalize zb5 [] ps=ls at *
  go_enter Tryz.func20,Tryz.ntmps20
  go_wp2_with fail
  rw[←HW.out];refine C.out.mono ?_;rintro e w1 ⟨rfl,hB⟩;have hb3:=(hB.block _ (by omega)).trans A3.out
  have q0:w1.cell? ⟨w.heap.size+1,0,none⟩=some (.string ⟨#[]⟩):=zaa hb3 0;have q1:w1.cell? ⟨w.heap.size+1,1,none⟩=some (.int .i64 0):=zaa hb3 1;have qf:=zac hb3;have hBw:=hWB.trans (hB.mono (by omega))
  clear hb3 C HW A3;cases ls with
  | none =>
    simp only[zdc]
    go_wp2
    exact bodyPost_ret (v:=.tuple #[znw,.int .i64 1]) (by simp[results,Tryz.results20,go_sem,q0,q1,znw]) rfl ⟨rfl,(hBw.setCell (p:=⟨w.heap.size+1,0,none⟩) (by simp) _).setCell (p:=⟨w.heap.size+1,1,none⟩) (by simp) _⟩
  | some l =>
    simp only[zdc,zey]
    go_wp2
    exact bodyPost_ret (v:=.tuple #[zey l,.int .i64 0]) (by simp[results,Tryz.results20,go_sem,q0,q1,zey]) rfl ⟨rfl,(hBw.setCell (p:=⟨w.heap.size+1,0,none⟩) (by simp) _).setCell (p:=⟨w.heap.size+1,1,none⟩) (by simp) _⟩
end Go.Proofs.YtoejfkeofbdalaaGreatDoor
