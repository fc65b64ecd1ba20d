import Derived.Test.YtoejfkeofbdalaaGreatDoorM46
import Derived.Test.YtoejfkeofbdalaaGreatDoorM48
set_option linter.unusedVariables false
set_option maxRecDepth 100000
set_option maxHeartbeats 8000000
namespace Go.Proofs.YtoejfkeofbdalaaGreatDoor
open Go.RowKit
open Go.Maps (Keyed)
theorem zrm {db:Nat} {w0 w:World} {v:Value} (h:zwu db w0 w v) {p:List UInt8 × Value} (hp:p∈znv db) :
    ∃ mb,v=.map (some mb)∧w0.heap.size≤mb∧mb<w.heap.size∧∀ W,W.heap[mb]?=w.heap[mb]?→(Instr.lookup 237 (.map (some mb)) (.string ⟨p.1.toArray⟩) true).run Tryz.prog W=.ok (.tuple #[p.2,.bool true]) W:=by
  obtain⟨mb,n,D,rfl,h1,h2,h3⟩:=h;obtain⟨h4,h5⟩:=h3 p hp;refine⟨mb,rfl,h1,h2.lt,fun W hW=>?_⟩
  have hown:W.ownsMap Tryz.prog 9 zpm mb n D:=by
    obtain⟨es,clock,hb,r⟩:=h2;exact⟨es,clock,hW.trans hb,r⟩
  have hs:Tryz.prog.underlying 9=some .string:=by kernel_rfl
  have hu:Tryz.prog.underlying 237=some (.map 9 235):=by kernel_rfl
  obtain⟨r,hr⟩:=List.getElem?_of_mem hp;obtain⟨x,ps,hrun,hx⟩:=hown.look_ok (t:=237) (e:=235) (Maps.string_keyed hs) hu (z:=.agg #[.string ⟨#[]⟩,.nilFunc,.bool false]) (by kernel_rfl) (rfl:zpm _=some (.held _,[])) (key:=.string ⟨p.1.toArray⟩) (WideMaps.keyOf_string_mk hs (zwG db r p hr))
  have e1:(⟨p.1.toArray⟩:ByteArray).data.toList=p.1:=rfl;rw[e1,h4] at hrun;rw[e1,h5] at hx
  have e2:x=p.2:=by
    unfold zpm at hx;simp at hx;exact hx.1
  rw[hrun,e2]
theorem ztR (w:World) (m:Int) (hm:w.cell? ⟨0,0,none⟩=some (.int .i64 m)) (db:Nat) (cs:Array Value) (hd:w.heap[db]?=some (.cells cs 145 (0,0)))
    (s:ByteArray) (hp:0<s.size) (h35:(((s[0]'hp).toNat:Int) == 35)=false) (hsz:s.size≤100000)
    (ws:List ByteArray) (key:List UInt8) (hws:Lib.splitB ⟨#[32]⟩ 0 ws.length s=⟨key.toArray⟩::ws) (hcnt:Lib.countB s ⟨#[32]⟩=ws.length) (F:List UInt8) (fn:Nat) (hrow:(key,.agg #[.string ⟨F.toArray⟩,.func (.func fn) #[.pointer (some ⟨db,0,none⟩)] #[],.bool false])∈znv db)
    (hF:ws.length=F.length) (hF3:F.length≤3)
    (A:Nat→Array Value) (hA0:A 0=#[.int .i64 0,.int .i64 0,.int .i64 0,.string ⟨#[]⟩]) (hA:∀ i,i≤F.length→∃ a b c d,A i=#[a,b,c,d])
    (hT:∀ i,i<F.length→∀ (b:UInt8) (x:ByteArray),F[i]?=some b→ws[i]?=some x→∀ W p,W.heap[p]?=some (Obj.cells (A i) 241 (0,0))→Calls Tryz.prog 135 #[.pointer (some ⟨p,0,none⟩),.int .i64 i,.int .u8 b.toNat,.string x] W fun e w'=>e=.returned (.bool true)∧∃ W' k v,Below W.heap.size W W'∧w'=W'.setCell ⟨p,k,none⟩ v∧(A i).setIfInBounds k v=A (i+1))
    (hen:Enters Tryz.prog fn) (Post:Ending→World→Prop) (hC:∀ W,Below w.heap.size w W→Calls Tryz.prog fn #[.pointer (some ⟨db,0,none⟩),.agg (A F.length)] W fun e w'=>(∃ v,e=.returned v)∧Post e w') :
    Calls Tryz.prog 75 #[.pointer (some ⟨db,0,none⟩),.string s] w Post:=by
  have HT:=Lib.hid hT;have HC:=Lib.hid hC;have HA:=Lib.hid hA;have HA0:=Lib.hid hA0;have HF:=Lib.hid hF;have HEN:=Lib.hid hen;clear hen;clear hT hC hA hA0;have CS:=Lib.hid (Tryz.strings_Split s ⟨#[32]⟩ m w (by omega) hm (by decide))
  rw[hcnt,hws] at CS;have CR:=Lib.hid (fun W=>zwM db W)
  have hse:s.toList.isEmpty=false:=by
    cases h:s.toList with
    | nil=>
      rw[Lib.toList_data] at h
      have h2:s.data.toList.length=s.size:=by simp
      rw[h] at h2;simp at h2;omega
    | cons a l=>rfl
  obtain⟨N,hN⟩:∃ N,F.length=N:=⟨_,rfl⟩;rw[hF] at CS;rw[hN] at CS hF hF3;obtain⟨K,hK⟩:∃ K,N+1=K:=⟨_,rfl⟩;rw[hK] at CS;have hK0:(0:Int)<(K:Int):=by omega
  have hK1:0<K:=by omega
  obtain⟨FB,hFB⟩:∃ FB:ByteArray,(⟨F.toArray⟩:ByteArray)=FB:=⟨_,rfl⟩;have hFs:FB.size=N:=by rw[←hFB,←hN];rfl
  rw[hFB] at hrow;obtain⟨z,hz⟩:∃ z,w.heap.size=z:=⟨_,rfl⟩;obtain⟨R,hR⟩:∃ R,((⟨key.toArray⟩::ws).map Value.string).toArray=R:=⟨_,rfl⟩;have hR0:R[0]?=some (.string ⟨key.toArray⟩):=by rw[←hR];rfl
  rw[hR] at CS;clear hcnt hws
  go_enter Tryz.func75,Tryz.ntmps75
  go_wp2_with fail
  refine CS.out.mono ?_;rintro e W1 ⟨rfl,rfl⟩;have hx1:=zae w (.cells R 9) z hz.symm;have hB1:=zk5 (Below.refl w.heap.size w) (.cells R 9);have HB1:=Lib.hid hB1;have HX1:=Lib.hid hx1;have c0:=(zaa hx1 0).trans hR0;obtain⟨z1,hz1⟩:∃ z,(w.alloc (.cells R 9)).heap.size=z:=⟨_,rfl⟩;rw[hz];generalize w.alloc (.cells R 9)=W1 at *
  clear hx1 hB1 CS
  go_wp2_with fail
  have HW1:Hid (Below W1.heap.size W1 W1):=Below.refl _ _;have hzl:z<W1.heap.size:=zab HX1.out;have HC0:Hid (∀ W,Below W1.heap.size W1 W→W.cell? ⟨z,0,none⟩=some (.string ⟨key.toArray⟩)):=fun W h=>(h.cell (p:=⟨z,0,none⟩) hzl).trans c0;have HROW:=Lib.hid hrow;have HRR:=Lib.hid hR;have HN:=Lib.hid hN;have HFB:=Lib.hid hFB;clear hrow hR hR0 hm hd hF hN hFB;have HkW:Hid (∀ w':World,Below W1.heap.size W1 w'→Below W1.heap.size W1 w'∧w'.cell? ⟨z,0,none⟩=some (.string ⟨key.toArray⟩)):=fun w' h=>⟨h,HC0.out w' h⟩;have hbW:Below W1.heap.size W1 W1:=Below.refl _ _
  go_region_held3 (fun w'=>Below W1.heap.size W1 w'∧w'.cell? ⟨z,0,none⟩=some (.string ⟨key.toArray⟩))
    ((refine HkW.out _ ?_;first | assumption | exact zwd (by assumption) | exact And.left (by assumption) | exact zk5 (And.left (by assumption)) _ | exact zvS (by assumption) (And.left (by assumption)) | exact zk5 (by assumption) _ | exact zwe (zwe (zwe (by first | assumption | exact zk5 (by assumption) _) (by first | exact Nat.le_of_eq hz1 | exact Below.size hW8) _ _) (by first | exact Nat.le_of_eq hz1 | exact Below.size hW8) _ _) (by first | exact Nat.le_of_eq hz1 | exact Below.size hW8) _ _ | fail))
    ((first
     | (go_at_call 134
        refine (CR.out _).mono ?_;rintro e w8 ⟨v,rfl,hRM,hB8⟩;obtain⟨mb,rfl,hmb,hmbl,HL0⟩:=zrm hRM HROW.out;have HL8:=HL0 w8 rfl;have HL9:=HL0 (w8.alloc (.cells #[.string ⟨#[]⟩,.nilFunc,.bool false] 235)) (((Below.refl w8.heap.size w8).alloc (Nat.le_refl _) _).block mb hmbl);clear HL0
        first
        | (have hx8:w8.heap[z1]?=some (Obj.cells #[.string ⟨#[]⟩,.nilFunc,.bool false] 235 (0,0)):=(hB8.block z1 (by simp;omega)).trans (zae _ _ _ hz1.symm)
           have b0:=(zaa hx8 0).trans rfl;have b1:=(zaa hx8 1).trans rfl;have b2:=(zaa hx8 2).trans rfl;have g0:=zac hx8
           skip)
        | skip
        have hW8:Below W1.heap.size W1 w8:=zvS hB8 (And.left (by assumption))
        clear hB8 hRM hmb hmbl
        skip)
     | fail))
  all_goals
    first
    | (have hx9:(((w8.setCell ⟨z1,0,none⟩ (.string FB)).setCell ⟨z1,1,none⟩ (.func (.func fn) #[.pointer (some ⟨db,0,none⟩)] #[])).setCell ⟨z1,2,none⟩ (.bool false)).heap[z1]?=some (Obj.cells #[.string FB,.func (.func fn) #[.pointer (some ⟨db,0,none⟩)] #[],.bool false] 235 (0,0)):=by
         have:=zaf (zaf (zaf hx8 0 (.string FB)) 1 (.func (.func fn) #[.pointer (some ⟨db,0,none⟩)] #[])) 2 (.bool false);simpa using this
       have hB9:=zwe (zwe (zwe hW8 (Nat.le_of_eq hz1) 0 (.string FB)) (Nat.le_of_eq hz1) 1 (.func (.func fn) #[.pointer (some ⟨db,0,none⟩)] #[])) (Nat.le_of_eq hz1) 2 (.bool false);have HBX:Hid (W1.heap.size≤z1):=Nat.le_of_eq hz1;clear hx8 b0 b1 b2 g0;generalize (((w8.setCell ⟨z1,0,none⟩ (.string FB)).setCell ⟨z1,1,none⟩ (.func (.func fn) #[.pointer (some ⟨db,0,none⟩)] #[])).setCell ⟨z1,2,none⟩ (.bool false))=W9 at *
       generalize hbx:z1=bx at *
       skip)
    | (have hx9:=zae w8 (.cells #[.string FB,.func (.func fn) #[.pointer (some ⟨db,0,none⟩)] #[],.bool false] 235) _ rfl
       have hB9:=zk5 hW8 (.cells #[.string FB,.func (.func fn) #[.pointer (some ⟨db,0,none⟩)] #[],.bool false] 235);have HBX:Hid (W1.heap.size≤w8.heap.size):=Below.size hW8;obtain⟨bx,hbx⟩:∃ bx,w8.heap.size=bx:=⟨_,rfl⟩;rw[hbx] at hx9 HBX ⊢;generalize w8.alloc (.cells #[.string FB,.func (.func fn) #[.pointer (some ⟨db,0,none⟩)] #[],.bool false] 235)=W9 at *
       skip)
    clear HL8 HL9
  all_goals
    have HB9:Hid (Below w.heap.size w W9):=HB1.out.trans (hB9.mono HB1.out.size);have HR9:Hid (W9.heap[z]?=some (Obj.cells R 9 (0,0))):=(hB9.block z hzl).trans HX1.out;have hwK:IntKind.i64.wrap (1+(N:Int))=(K:Int):=by rw[←hK];exact (IntWalk.i64_in _ (by omega)).trans (by omega)
    have f0:=(zaa hx9 0).trans rfl;have f1:=(zaa hx9 1).trans rfl;have f2:=(zaa hx9 2).trans rfl;have HX9:=Lib.hid hx9;clear hB9 hx9 hW8 CR c0 hz1 HC0 HkW hbW
  all_goals
    have d35:True:=trivial;simp only[List.getElem?_toArray,List.getElem?_cons_zero,List.getElem?_cons_succ] at f0 f1 f2;obtain⟨pa,hpa⟩:∃ pa,W9.heap.size=pa:=⟨_,rfl⟩
  all_goals
    have HPA0:Hid ((W9.alloc (.cells #[.int .i64 0,.int .i64 0,.int .i64 0,.string ⟨#[]⟩] 241)).heap[pa]?=some (Obj.cells (A 0) 241 (0,0))):=by
      rw[HA0.out];exact zae _ _ _ hpa.symm
    have HPB0:Hid (Below w.heap.size w (W9.alloc (.cells #[.int .i64 0,.int .i64 0,.int .i64 0,.string ⟨#[]⟩] 241))):=zk5 HB9.out _;have HPX0:=Lib.hid (zwc ((Below.refl W9.heap.size W9).alloc (Nat.le_refl _) (.cells #[.int .i64 0,.int .i64 0,.int .i64 0,.string ⟨#[]⟩] 241)) HX9.out);have HPR0:=Lib.hid (zwc ((Below.refl W9.heap.size W9).alloc (Nat.le_refl _) (.cells #[.int .i64 0,.int .i64 0,.int .i64 0,.string ⟨#[]⟩] 241)) HR9.out);have HLB:Hid (bx<pa∧z<pa∧w.heap.size≤pa):=⟨by rw[←hpa];exact zab HX9.out,by rw[←hpa];exact zab HR9.out,by rw[←hpa];exact HB9.out.size⟩
    go_wp2_with fail
    go_loopw [7,9] (fun okv iv wr=>∃ i:Nat,i≤N∧iv=.int .i64 i∧okv=.bool true∧Hid (Below w.heap.size w wr)∧Hid (wr.heap[pa]?=some (Obj.cells (A i) 241 (0,0)))∧Hid (wr.heap[bx]?=some (Obj.cells #[.string FB,.func (.func fn) #[.pointer (some ⟨db,0,none⟩)] #[],.bool false] 235 (0,0)))∧Hid (wr.heap[z]?=some (Obj.cells R 9 (0,0)))) (fun _ iv _=>N+1-(intOf iv).toNat)
    case atStart=>exact⟨0,by omega,rfl,rfl,HPB0,HPA0,HPX0,HPR0⟩
    case round =>
      clear HPA0 HPB0 HPX0 HPR0;obtain⟨i,hi,rfl,rfl,HB,HP,HX,HR⟩:=hrel;have x0:=(zaa HX.out 0).trans rfl;have x1:=(zaa HX.out 1).trans rfl;have x2:=(zaa HX.out 2).trans rfl
      by_cases hlt:i<N
      · have hd:decide ((i:Int)<(N:Int))=true:=decide_eq_true (by omega)
        have hiL:i<F.length:=by rw[HN.out];exact hlt
        obtain⟨b,hb⟩:∃ b,F[i]?=some b:=⟨_,List.getElem?_eq_getElem hiL⟩;obtain⟨x,hx⟩:∃ x,ws[i]?=some x:=⟨_,List.getElem?_eq_getElem (by rw[HF.out];exact hiL)⟩
        have hip:i<FB.size:=by omega
        have hbv:FB[i]'hip=b:=by
          have h1:=(List.getElem?_eq_some_iff.1 hb).2;rw[←h1];have h2:FB=⟨F.toArray⟩:=HFB.out.symm;simp[h2];rfl
        have cx:wr.cell? ⟨z,1+i,none⟩=some (.string x):=(zaa HR.out _).trans (by rw[←HRR.out,Nat.add_comm];simp[hx])
        have cy:wr.cell? ⟨z,i+1,none⟩=some (.string x):=by rw[Nat.add_comm];exact cx
        have CT:=Lib.hid (HT.out i hiL b x hb hx);have hw1:IntKind.i64.wrap (1+(i:Int))=((i+1:Nat):Int):=(IntWalk.i64_in _ (by omega)).trans (by omega)
        have hw2:IntKind.i64.wrap ((i:Int)+1)=((i+1:Nat):Int):=(IntWalk.i64_in _ (by omega)).trans (by omega)
        have hi0:(0:Int)≤(i:Int):=by omega
        have hi1:(0:Int)≤((i+1:Nat):Int):=by omega
        have hi2:((i+1:Nat):Int)<(K:Int):=by omega
        have hi3:(i:Int)<(N:Int):=by omega
        have hi4:i+1<K:=by omega
        clear hb hx hiL
        go_wp2_with fail
        go_region_with
          (first
           | (go_at_call 135
              refine (CT.out wr.drew pa HP.out).mono ?_;rintro e w5 ⟨rfl,W',k,v,hBW,rfl,hAn⟩;have hBW2:Below wr.heap.size wr W':=zvS hBW (zwd (Below.refl _ _));have HB5:Hid (Below w.heap.size w (W'.setCell ⟨pa,k,none⟩ v)):=zwe (zvS hBW2 HB.out) HLB.out.2.2 _ _
              have HP5:Hid ((W'.setCell ⟨pa,k,none⟩ v).heap[pa]?=some (Obj.cells (A (i+1)) 241 (0,0))):=by
                have:=zaf (zwc hBW2 HP.out) k v;rw[hAn] at this;exact this
              have HX5:=Lib.hid ((((Below.refl pa W').setCell (p:=⟨pa,k,none⟩) (Nat.le_refl _) v).block bx HLB.out.1).trans (zwc hBW2 HX.out));have HR5:=Lib.hid ((((Below.refl pa W').setCell (p:=⟨pa,k,none⟩) (Nat.le_refl _) v).block z HLB.out.2.1).trans (zwc hBW2 HR.out));clear hBW hBW2 hAn;generalize W'.setCell ⟨pa,k,none⟩ v=W5 at *)
           | fail)
        all_goals
          go_wp2_with fail
          go_roundw
          case rel=>exact⟨i+1,by omega,by go_num,rfl,HB5,HP5,HX5,HR5⟩
          case measure=>simp[intOf];omega
      · obtain rfl:i=N:=by omega
        obtain⟨a,b,c,d,hAe⟩:=HA.out i (by rw[HN.out];exact Nat.le_refl _)
        have hCC:∀ W,Below w.heap.size w W→Calls Tryz.prog fn #[.pointer (some ⟨db,0,none⟩),.agg #[a,b,c,d]] W fun e w'=>(∃ v,e=.returned v)∧Post e w':=by
          have:=HC.out;rw[HN.out,hAe] at this;exact this
        have HCC:=Lib.hid hCC;rw[hAe] at HP;have p0:=(zaa HP.out 0).trans rfl;have p1:=(zaa HP.out 1).trans rfl;have p2:=(zaa HP.out 2).trans rfl;have p3:=(zaa HP.out 3).trans rfl;simp only[List.getElem?_toArray,List.getElem?_cons_zero,List.getElem?_cons_succ] at p0 p1 p2 p3;clear hCC hAe;have hen:=HEN.out;unfold Enters at hen
        go_wp2_with fail
        refine (HCC.out _ HB.out).mono ?_;rintro e w6 ⟨⟨v,rfl⟩,hpost⟩;have HPost:=Lib.hid hpost;clear hpost
        go_wp2_with fail
        exact HPost.out
end Go.Proofs.YtoejfkeofbdalaaGreatDoor
