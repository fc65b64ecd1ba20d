import Derived.Test.YtoejfkeofbdalaaGreatDoorProg
import Derived.Lib.Hide
import Derived.Below
import Derived.IntWalk
import Derived.Tactics
import Derived.WalkKit
import Derived.WalkSpells
import Derived.WalkLawsBesides
import Derived.Maps.AppendAt
import Derived.RangeFuncBox
set_option linter.all false
set_option maxRecDepth 100000
set_option maxHeartbeats 8000000
namespace Go.Proofs.YtoejfkeofbdalaaGreatDoor
open Go.RowKit
abbrev Aa:=@Go.Lib.hid
abbrev Az:=@List.getElem?_eq_getElem
abbrev Af:=@Nat.le_refl
abbrev AO:=@List.setIfInBounds_toArray
abbrev Ag:=@Go.RowKit.Below.refl
abbrev AJ:=@List.length_append
abbrev Lh:=@List.getElem?_cons_zero
abbrev Me:=@List.getElem?_cons_succ
abbrev AL:=@List.set_cons_succ
abbrev JM:=@List.getElem?_toArray
abbrev AR:=@List.set_cons_zero
abbrev Bg:=@Go.RowKit.Below.heap_setCell
abbrev AV:=@decide_eq_false
abbrev Cc:=@List.getElem?_eq_some_iff
abbrev Cx:=@List.getD_eq_getElem?_getD
abbrev AU:=@Go.IntWalk.i64_in
abbrev Bt:=@List.length_cons
abbrev BR:=@List.take_of_length_le
abbrev Bl:=@decide_eq_true
abbrev Cn:=@List.mem_of_getElem?
abbrev BN:=@List.append_assoc
abbrev BO:=@List.length_take
abbrev Ep:=@List.take_succ_eq_append_getElem
abbrev Ey:=@List.eq_nil_of_length_eq_zero
abbrev Di:=@List.cons_append
abbrev CZ:=@List.mem_cons
abbrev C6:=@List.nil_append
abbrev Da:=@List.length_map
abbrev Dz:=@List.map_cons
abbrev BU:=@Nat.le_trans
abbrev C8:=@List.mem_map
abbrev BV:=@Go.bodyPost_ret
abbrev BI:=@Nat.zero_le
abbrev Er:=@List.take_append_drop
abbrev EU:=@List.getElem?_eq_none
abbrev D3:=@List.map_append
abbrev Bh:=@And.left
abbrev F7:=@List.getElem?_append_right
abbrev Ez:=@beq_eq_false_iff_ne
abbrev D9:=@List.length_drop
abbrev FP:=@List.getElem?_append_left
abbrev D4:=@List.length_nil
abbrev EA:=@List.getElem?_map
abbrev Es:=@Option.getD_some
abbrev Gl:=@List.map_congr_left
abbrev Et:=@List.getElem_mem
abbrev EB:=@List.mem_range
abbrev DC:=@Nat.zero_add
abbrev Eu:=@List.append_nil
abbrev Gm:=@List.drop_eq_nil_of_le
abbrev Fj:=@decide_eq_true_eq
abbrev EM:=@Int.toNat_natCast
abbrev FZ:=@List.mem_append
abbrev GK:=@Go.World.putObj_heap_other
abbrev F6:=@List.size_toArray
abbrev FO:=@Go.KeepsOthers.setCell
abbrev GL:=@Array.replicate_zero
abbrev GM:=@Array.replicate_succ
abbrev Dw:=@Go.results_none
abbrev Ga:=@List.length_pos_iff
abbrev IJ:=@List.drop_eq_getElem_cons
abbrev Fh:=@List.range_succ
abbrev Em:=@Go.callsIn_wide
abbrev GN:=@List.append_toArray
abbrev J6:=@List.mem_cons_of_mem
abbrev IK:=@Array.getElem?_eq_none
abbrev Fs:=@Nat.min_eq_left
abbrev IL:=@List.sum_cons
abbrev Co:=@congrArg
abbrev G7:=@List.take_add_one
abbrev Jg:=@List.length_replicate
abbrev GP:=@Bool.and_eq_true
abbrev IM:=@List.pairwise_cons
abbrev Jh:=@List.mem_cons_self
abbrev GQ:=@List.push_toArray
abbrev Gn:=@List.length_range
abbrev Gp:=@List.take_length
abbrev Ji:=@List.getElem?_range
abbrev GR:=@List.any_eq_false
abbrev EV:=@Nat.le_of_eq
abbrev Iw:=@List.flatMap_append
abbrev Jj:=@Nat.pow_le_pow_right
abbrev Iy:=@Nat.lt_of_lt_of_le
abbrev GU:=@Go.World.ownsRow_nil
abbrev Gq:=@List.map_map
abbrev KE:=@Int.tmod_eq_emod_of_nonneg
abbrev Iz:=@Option.map_some
abbrev IP:=@Nat.eq_zero_or_pos
abbrev GV:=@Go.RowKit.Below.heap_alloc
abbrev EW:=@Go.below_drewN
abbrev J7:=@List.mem_of_mem_drop
abbrev Mg:=@Except.ok.injEq
abbrev Fu:=@Go.bodyPost_end
abbrev IQ:=@List.flatMap_cons
abbrev Gb:=@Nat.lt_or_ge
abbrev Ll:=@List.getElem?_replicate
abbrev Mh:=@List.singleton_append
abbrev Lm:=@List.pairwise_append
abbrev J8:=@List.any_eq_true
abbrev Mi:=@Prod.mk.injEq
abbrev Lp:=@List.getElem?_take
abbrev F8:=@Nat.mod_lt
abbrev MU:=@Array.getElem?_setIfInBounds
abbrev Lr:=@Go.callsIn_of_wp_marks
abbrev Jk:=@Nat.pow_succ
abbrev Jl:=@List.map_nil
abbrev Ls:=@List.mem_of_mem_take
abbrev Jm:=@List.length_set
abbrev Mj:=@List.getElem?_take_of_lt
abbrev KF:=@List.ext_getElem?
abbrev KG:=@Go.World.cell?_of_block
abbrev J9:=@Go.run_takeDeferred
abbrev KH:=@Go.Result.andThen_ok
abbrev Li:=@List.mem_singleton
abbrev Kh:=@List.getElem?_drop
abbrev MT:=@Bool.false_eq_true
abbrev Ic:=@Nat.add_zero
abbrev Lj:=@Array.getElem?_toList
abbrev Mf:=@Int.eq_ofNat_of_zero_le
abbrev J4:=@Go.Proofs.Tryz.underlying3
abbrev Pt:=@List.drop_append_of_le_length
abbrev J5:=@Bool.or_eq_true
abbrev FQ:=@beq_iff_eq
abbrev KJ:=@Nat.lt_trichotomy
abbrev Oe:=@List.pairwise_iff_getElem
abbrev Mm:=@Nat.add_sub_cancel
abbrev KK:=@Array.ext_getElem?
abbrev MV:=@Array.size_setIfInBounds
abbrev MW:=@List.perm_append_comm
abbrev Og:=@List.length_singleton
abbrev Ki:=@Bool.eq_iff_iff
abbrev Kj:=@Nat.lt_succ_self
abbrev Mo:=@List.ext_getElem
abbrev Kk:=@of_decide_eq_true
abbrev Mq:=@List.count_le_length
abbrev Mr:=@Go.Lib.byteCells_length
abbrev Oh:=@Array.getElem?_eq_getElem
abbrev Ie:=@Go.info_parts
abbrev Lt:=@Go.Proofs.Tryz.underlying89
abbrev QN:=@List.take_append_of_le_length
abbrev Oi:=@List.replicate_succ
abbrev MX:=@Array.length_toList
abbrev Gc:=@And.intro
abbrev I1:=@Go.OwnFrom.and
abbrev KL:=@List.Perm.refl
abbrev Ms:=@UInt8.toNat_ofNat'
abbrev JN:=@Option.some.inj
abbrev Kl:=@Go.run_underlying
abbrev MZ:=@List.map_toArray
abbrev Na:=@Go.RowKit.ownsRow_setCell_below
abbrev QO:=@Nat.testBit_eq_decide_div_mod_eq
abbrev Nb:=@Go.IntKind.wrap_u64
abbrev Km:=@Nat.mul_comm
abbrev Lu:=@List.mem_filter
abbrev Pw:=@List.idxOf_lt_length_iff
abbrev Mt:=@Nat.mod_eq_of_lt
abbrev Oj:=@Go.Proofs.Tryz.underlying67
abbrev Ol:=@List.mem_append_left
abbrev Lv:=@Nat.add_assoc
abbrev Nc:=@Bool.true_and
abbrev Om:=@Option.some.injEq
abbrev Oo:=@List.count_append
abbrev Lw:=@Go.heap_alloc_new
abbrev QP:=@Nat.mul_le_mul_left
abbrev Px:=@List.getElem?_set_self
abbrev Py:=@List.drop_of_length_le
abbrev Mu:=@Go.grownBy_putObj'
abbrev QQ:=@Nat.mod_two_eq_zero_or_one
abbrev QR:=@Int.tdiv_eq_ediv_of_nonneg
abbrev Lx:=@Nat.mul_assoc
abbrev KI:=@Nat.le_of_lt
abbrev S9:=@Nat.lt_of_mul_lt_mul_left
abbrev Oa:=@Go.World.ownsRow.kept
abbrev Mk:=@Go.Sem.run_pure
abbrev Ml:=@Go.Sem.run_bind
abbrev SA:=@Array.all_eq_true_iff_forall_mem
abbrev Pv:=@List.getElem?_set_ne
abbrev Ob:=@List.getElem_take
abbrev Oc:=@List.flatten_cons
abbrev Od:=@List.count_cons
abbrev Nf:=@Go.Proofs.Tryz.underlying9
abbrev SF:=@Nat.mul_succ
abbrev Mv:=@Nat.add_comm
abbrev QU:=@decide_eq_false_iff_not
abbrev Oq:=@Go.Proofs.Tryz.underlying166
abbrev Ng:=@Nat.mul_add
abbrev QV:=@List.getElem_of_mem
abbrev P5:=@List.flatten_append
abbrev Mw:=@Go.callsIn_of_wp
abbrev Nh:=@List.take_zero
abbrev Ni:=@List.drop_zero
abbrev QW:=@List.Perm.swap
abbrev P6:=@List.filter_append
abbrev QX:=@List.mem_append_right
abbrev Mx:=@List.map_id
abbrev QY:=@ByteArray.size_append
abbrev SG:=@Bool.and_eq_false_iff
abbrev QZ:=@Array.getElem?_modify
abbrev P7:=@List.getElem?_set
abbrev P8:=@Bool.not_eq_true'
abbrev Ot:=@Go.wpList_load_row
abbrev M0:=@Go.run_endRound
abbrev Nj:=@Go.ownFrom_below
abbrev P9:=@Go.Maps.keyOf_int_mk
abbrev Ou:=@Nat.mul_le_mul
abbrev SH:=@List.isEmpty_eq_false_iff
abbrev PD:=@Go.Proofs.Tryz.underlying371
abbrev PE:=@Nat.min_eq_right
abbrev M3:=@Nat.le_succ
abbrev Ra:=@List.take_succ_cons
abbrev Rb:=@Int.toNat_of_nonneg
abbrev SI:=@Go.World.cell?_setCell_other
abbrev PG:=@Go.WalkArith.wf_i64
abbrev M4:=@if_false
abbrev Rc:=@Nat.xor_lt_two_pow
abbrev Vh:=@Nat.two_pow_pos
abbrev Vi:=@List.sum_append
abbrev SK:=@List.pairwise_singleton
abbrev SL:=@List.getLast_eq_getElem
abbrev PH:=@List.foldl_cons
abbrev Vj:=@List.Perm.trans
abbrev Ov:=@ByteArray.ext
abbrev Re:=@List.take_sublist
abbrev Rf:=@List.nodup_append
abbrev Rh:=@List.drop_sublist
abbrev Ow:=@Nat.sub_self
abbrev Nk:=@Go.results_tmp
abbrev Kn:=@Go.belowK_b
abbrev Ko:=@Go.Own.from
abbrev QS:=@List.nodup_range
abbrev SB:=@List.mem_flatMap
abbrev QT:=@List.flatMap_nil
abbrev Pz:=@Go.KeepsFrom.refl
abbrev P4:=@Go.IntWalk.u64_in
abbrev SC:=@List.getElem?_of_mem
abbrev SE:=@Go.Proofs.Tryz.results312
abbrev Vg:=@List.dropLast_concat_getLast
abbrev Ri:=@Bool.or_false
abbrev L5:=@if_true
abbrev SN:=@Go.World.ownsRow.stored
abbrev SQ:=@Go.World.ownsRow.cellAt
abbrev XR:=@List.zipIdx_map_fst
abbrev Vk:=@Nat.mul_lt_mul_of_pos_left
abbrev Vl:=@Array.toList_setIfInBounds
abbrev Vm:=@Array.getElem?_append_left
abbrev SS:=@Go.run_enterLoop_outer
abbrev Ox:=@Go.run_endLoop
abbrev Oy:=@Go.rounds_succ
abbrev Oz:=@Go.leaves_cons
abbrev Rj:=@Nat.zero_mul
abbrev PI:=@List.map_set
abbrev qEQ:=@Except.error.injEq
abbrev SX:=@Go.ByteArray.toList_eq
abbrev M5:=@Go.Boxed.set
abbrev Vn:=@List.ne_nil_of_length_pos
abbrev Vo:=@List.extract_eq_take_drop
abbrev SY:=@bne_iff_ne
abbrev Ta:=@UInt8.ofNat_toNat
abbrev Tc:=@Go.Maps.has_put_other
abbrev Td:=@List.getElem?_inj
abbrev Te:=@List.foldl_append
abbrev PJ:=@Nat.mul_one
abbrev Tf:=@List.take_append
abbrev Vp:=@List.getElem_map
abbrev Tg:=@List.filter_cons
abbrev Th:=@List.drop_append
abbrev Ti:=@Go.KeepsOthers.alloc
abbrev Tj:=@Int.natCast_emod
abbrev Vq:=@List.range_succ_eq_map
abbrev Vr:=@List.pairwise_lt_range
abbrev Vs:=@ByteArray.size_extract
abbrev Vt:=@ByteArray.data_extract
abbrev Rk:=@Go.callsD_of_wpS
abbrev Tk:=@Go.results_cell_row
abbrev Tm:=@Go.World.size_alloc
abbrev Vu:=@Go.World.ownsRow.frozenAt
abbrev qEr:=@Go.Proofs.Tryz.ntmps26
abbrev Vv:=@Go.KeepsOthers.of_grownBy
abbrev qEt:=@Go.Proofs.Tryz.func26
theorem Q0{p:Prop}(h:p:=by omega):p:=h
theorem Q1{p:Prop}(h:p:=by simp only[List.getElem?_toArray,List.getElem?_cons_succ,List.getElem?_cons_zero];rfl):p:=h
theorem Q2{p:Prop}(h:p:=by kernel_rfl):p:=h
theorem Q3{p:Prop}(h:p:=by assumption):p:=h
theorem Q4{p:Prop}(h:p:=by simp;omega):p:=h
theorem Q5{p:Prop}(h:p:=by decide):p:=h
theorem Q6{p:Prop}(h:p:=by simp):p:=h
theorem Q7{p:Prop}(h:p:=by rfl):p:=h
theorem QB{p:Prop}(h:p:=by simp<;>omega):p:=h
theorem QC{p:Prop}(h:p:=by simp[List.setIfInBounds_toArray]):p:=h
theorem Q8{p:Prop}(h:p:=by intro w;go_simp;try with_reducible rfl):p:=h
inductive XN|Q
abbrev Qi:=XN.Q
instance:CoeFun XN λ_=>Int->Value:=⟨λ_=>.int .i64⟩
inductive XO|Q
abbrev Qk:=XO.Q
instance:CoeFun XO λ_=>FuncId->Array Value->World->(Ending->World->Prop)->Prop:=⟨λ_=>Calls Tryz.prog⟩
inductive Vb(w:World)(a b:Nat)(v:Value)|q
abbrev Qc(w:World)(a b:Nat)(v:Value):Vb w a b v:=.q
instance{w:World}{a b:Nat}{v:Value}:CoeOut (Vb w a b v) Prop:=⟨λ_=>w.cell? ⟨a,b,none⟩=some v⟩
instance{w:World}{a b:Nat}{v:Value}:CoeSort (Vb w a b v) Prop:=⟨λ_=>w.cell? ⟨a,b,none⟩=some v⟩
inductive Vd(w:World)(k:Nat)(v:Obj)|q
abbrev Qh(w:World)(k:Nat)(v:Obj):Vd w k v:=.q
instance{w:World}{k:Nat}{v:Obj}:CoeOut (Vd w k v) Prop:=⟨λ_=>w.heap[k]?=some v⟩
instance{w:World}{k:Nat}{v:Obj}:CoeSort (Vd w k v) Prop:=⟨λ_=>w.heap[k]?=some v⟩
inductive Vc(w:World)(k:Nat)(v:Array Value)(t:Nat)|q
abbrev Qg(w:World)(k:Nat)(v:Array Value)(t:Nat):Vc w k v t:=.q
instance{w:World}{k:Nat}{v:Array Value}{t:Nat}:CoeOut (Vc w k v t) Prop:=⟨λ_=>w.heap[k]?=some (.cells v t)⟩
instance{w:World}{k:Nat}{v:Array Value}{t:Nat}:CoeSort (Vc w k v t) Prop:=⟨λ_=>w.heap[k]?=some (.cells v t)⟩
inductive Va(w u:World)|q
abbrev Qb(w u:World):Va w u:=.q
instance{w u:World}:CoeOut (Va w u) Prop:=⟨λ_=>Below w.heap.size w u⟩
instance{w u:World}:CoeSort (Va w u) Prop:=⟨λ_=>Below w.heap.size w u⟩
inductive XP(a b:Nat)|q
abbrev Qp(a b:Nat):XP a b:=.q
instance{a b:Nat}:CoeOut (XP a b) Value:=⟨λ_=>.pointer (some ⟨a,b,none⟩)⟩
inductive XQ(a b m c:Nat)|q
abbrev Qs(a b m c:Nat):XQ a b m c:=.q
instance{a b m c:Nat}:CoeOut (XQ a b m c) Value:=⟨λ_=>.slice (some ⟨a,b,none⟩) m c⟩
theorem Qe{a:Sort _}(x:a):∃c,x=c:=⟨x,rfl⟩
