import Derived.Test.YtoejfkeofbdalaaGreatDoorM47
import Derived.Test.YtoejfkeofbdalaaGreatDoorM49
import Derived.Test.YtoejfkeofbdalaaGreatDoorM01
import Derived.Test.YtoejfkeofbdalaaGreatDoorTie
import Derived.Test.YtoejfkeofbdalaaGreatDoorCards
import Derived.Below
import Derived.ProofKit
import Derived.OpenShut
import Derived.ShutString
import Derived.SevenTiedAt
set_option linter.unusedVariables false
set_option maxRecDepth 100000
set_option maxHeartbeats 8000000
namespace Go.Proofs.YtoejfkeofbdalaaGreatDoor
open Go.RowKit
theorem Only.below_then {k:Nat} {a b c:World} (h:Only k a b) (g:Below a.heap.size b c):Only k a c :=
  ⟨g.os.trans h.os,g.tape.trans h.tape,g.output.trans h.output,Nat.le_trans h.size g.size,fun j hj hk=>(g.block j hj).trans (h.block j hj hk)⟩
def scA:Nat→Array Value
  | 0=>#[.int .i64 0,.int .i64 0,.int .i64 0,.string ⟨#[]⟩]
  | 1=>#[.int .i64 1,.int .i64 0,.int .i64 0,.string ⟨#[]⟩]
  | _=>#[.int .i64 1,.int .i64 0,.int .i64 0,.string ⟨#[97,98]⟩]
def scO (i:Nat):List UInt8:=if i=0 then [111,107,10] else [115,97,121,32,54,49,54,50,10]
def scC (T:ByteArray) (i:Nat):Array Value:=if i=0 then deskZ else deskZ.setIfInBounds 0 (.string T)
theorem zvo:(⟨(Lib.decDigits 1).toArray⟩:ByteArray)=⟨#[49]⟩:=by rw[Lib.decDigits_one (by decide)];rfl
theorem zvx:(⟨(zeR [97,98]).toArray⟩:ByteArray)=⟨#[54,49,54,50]⟩:=by kernel_rfl
theorem zou {w:World} {b o:Nat} {v:Value} (h:w.cell? ⟨b,o,none⟩=some v):b<w.heap.size:=by
  unfold World.cell? at h;cases hb:w.heap[b]? with
  | none=>simp[hb] at h
  | some x=>exact zab hb
theorem zkt:Enters Tryz.prog 181:=enters_of Tryz.func181 (by kernel_rfl) rfl
theorem zmq:Enters Tryz.prog 186:=enters_of Tryz.func186 (by kernel_rfl) rfl
theorem zuF (W:World) (m:Int) (hm:W.cell? ⟨0,0,none⟩=some (.int .i64 m)) (db:Nat) (T:ByteArray) (hT:T=txt (zhy 1 [97,98])) (hd:W.heap[db]?=some (.cells (scC T 0) 145 (0,0))) :
    Calls Tryz.prog 75 #[.pointer (some ⟨db,0,none⟩),.string ⟨#[112,97,99,107,32,49,32,54,49,54,50]⟩] W fun e w'=>e=.returned (.string ⟨(scO 0).toArray⟩)∧w'.heap[db]?=some (.cells (scC T 1) 145 (0,0))∧Only db W w':=by
  refine ztR W m hm db _ hd ⟨#[112,97,99,107,32,49,32,54,49,54,50]⟩ (by decide) (by decide) (by decide) [⟨#[49]⟩,⟨#[54,49,54,50]⟩] [112,97,99,107] (by decide +kernel) (by decide +kernel) [110,104] 181 (by simp[znv]) rfl (by decide) scA rfl ?_ ?_ zkt _ ?_
  · intro i hi
    rcases i with - | - | i
    · exact⟨_,_,_,_,rfl⟩
    · exact⟨_,_,_,_,rfl⟩
    · exact⟨_,_,_,_,rfl⟩
  · intro i hi b x hb hx W' p hp
    rcases i with - | - | i
    · obtain rfl:(110:UInt8)=b:=by simpa using hb
      obtain rfl:(⟨#[49]⟩:ByteArray)=x:=by simpa using hx
      have h:=zvF W' p 0 1 (by decide) _ _ _ _ hp (by decide)
      rw[zvo] at h;refine h.mono ?_;rintro e w' ⟨rfl,W2,hB,rfl⟩;exact⟨rfl,W2,0,_,hB,rfl,rfl⟩
    · obtain rfl:(104:UInt8)=b:=by simpa using hb
      obtain rfl:(⟨#[54,49,54,50]⟩:ByteArray)=x:=by simpa using hx
      have h:=zvv W' p 1 [97,98] (by decide) (by decide) _ _ _ _ hp
      rw[zvx] at h;refine h.mono ?_;rintro e w' ⟨rfl,W2,hB,rfl⟩;exact⟨rfl,W2,3,_,hB,rfl,rfl⟩
    · simp at hi
      omega
  · intro W' hB
    refine (zst W' db _ (show 0<deskZ.size by decide) (zwc hB hd) ⟨#[97,98]⟩ (by decide) 1 (by decide) (by decide) _ _).mono ?_
    rintro e w' ⟨rfl,W1,hB1,hB2⟩;refine⟨⟨_,rfl⟩,by kernel_rfl,?_,?_⟩
    · have h1:=zwc hB1 (zwc hB hd)
      have h2:=zaf h1 0 (.string (txt (zhy 1 [97,98])));have h3:=(hB2.block db (zab (zwc hB hd))).trans h2;rw[hT];exact h3
    · have hd':=zab hd
      exact ((Only.of (hB.trans (hB1.mono hB.size))).set 0 _).below_then (hB2.mono hB.size)
theorem zvq (W:World) (m:Int) (hm:W.cell? ⟨0,0,none⟩=some (.int .i64 m)) (db:Nat) (T:ByteArray) (hT:T=txt (zhy 1 [97,98])) (hd:W.heap[db]?=some (.cells (scC T 1) 145 (0,0))) :
    Calls Tryz.prog 75 #[.pointer (some ⟨db,0,none⟩),.string ⟨#[115,97,121]⟩] W fun e w'=>e=.returned (.string ⟨(scO 1).toArray⟩)∧w'.heap[db]?=some (.cells (scC T 2) 145 (0,0))∧Only db W w':=by
  obtain⟨L,hR,hg,hX,-⟩:=zh8 1 [97,98] (by decide) (by decide) (by decide)
  rw[←hT] at hR;refine ztR W m hm db _ hd ⟨#[115,97,121]⟩ (by decide) (by decide) (by decide) [] [115,97,121] (by decide +kernel) (by decide +kernel) [] 186 (by simp[znv]) rfl (by decide) scA rfl ?_ ?_ zmq _ ?_
  · intro i hi
    obtain rfl:i=0:=by simpa using hi
    exact⟨_,_,_,_,rfl⟩
  · intro i hi
    simp at hi
  · intro W' hB
    refine (zt8 W' db T L _ rfl (zwc hB hd) hR hg _).mono ?_;rintro e w' ⟨rfl,hB2⟩;rw[hX];have h1:=zwc hB2 (zwc hB hd);exact⟨⟨_,rfl⟩,by kernel_rfl,h1,Only.of (hB.trans (hB2.mono hB.size))⟩
theorem znP (w:World) (m:Int) (hm:w.cell? ⟨0,0,none⟩=some (.int .i64 m)) :
    Calls Tryz.prog 25 #[.string ⟨#[112,97,99,107,32,49,32,54,49,54,50,10,115,97,121,10]⟩] w fun e w'=>e=.returned (.tuple #[.string ⟨#[111,107,10,115,97,121,32,54,49,54,50,10]⟩,.int .i64 0])∧Below w.heap.size w w':=by
  obtain⟨T,hT⟩:∃ T,T=txt (zhy 1 [97,98]):=⟨_,rfl⟩;have h00:=zou hm
  refine (zuv w m hm ⟨#[112,97,99,107,32,49,32,54,49,54,50,10,115,97,121,10]⟩ (by decide) [⟨#[112,97,99,107,32,49,32,54,49,54,50,10]⟩,⟨#[115,97,121,10]⟩] (by decide +kernel) (by decide +kernel) (by decide) (by decide) (by decide)
    (fun i db W=>W.heap[db]?=some (.cells (scC T i) 145 (0,0))) scO (fun i=>by unfold scO;split <;> decide) (fun db W _ _ h=>h) (fun i db W h=>⟨_,h⟩) ?_ ?_).mono ?_
  · intro i db b cs W W' h hb hO
    refine hO db _ h (fun e=>?_) (fun c fz e=>?_)
    · cases e
      rw[h] at hb;cases hb
    · cases e
  · intro i x hx db W hB hle h
    have hm':W.cell? ⟨0,0,none⟩=some (.int .i64 m):=(hB.cell (p:=⟨0,0,none⟩) h00).trans hm;rcases i with - | - | i
    · obtain rfl:(⟨#[112,97,99,107,32,49,32,54,49,54,50,10]⟩:ByteArray)=x:=by simpa using hx
      exact zuF W m hm' db T hT h
    · obtain rfl:(⟨#[115,97,121,10]⟩:ByteArray)=x:=by simpa using hx
      exact zvq W m hm' db T hT h
    · simp at hx
  · rintro e w' ⟨rfl,hB⟩
    exact⟨by kernel_rfl,hB⟩
theorem zvy (w:World) (v:Value) (hv:IsInts w w.heap.size v [1,1]):Calls Tryz.prog 26 #[v,.int .i64 9] w fun e w'=>∃ q c,e=.returned (.tuple #[.slice q 2 c,.int .i64 0])∧Below w.heap.size w w':=by
  refine (zpf w v [1,1] 9 hv (by decide) (by decide) (by decide) (by decide) (by decide)).mono ?_
  rintro e w' ⟨q,c,rfl,-,hB⟩;exact⟨q,c,rfl,hB⟩
theorem zvi (w:World) (v:Value) (hv:IsInts w w.heap.size v [1]):Calls Tryz.prog 27 #[v,.int .i64 2] w fun e w'=>e=.returned (.tuple #[.agg #[.string ⟨#[128]⟩,.int .i64 2],.int .i64 0])∧Below w.heap.size w w' :=
  (zwp w v [1] 2 hv (by decide) (by decide) (by decide) (by decide)).mono fun _ _ h=>⟨h.1.trans (congrArg (fun b=>Ending.returned (.tuple #[.agg b,.int .i64 0])) (show #[Value.string (txt (zni (List.range 6) [1])),.int .i64 ((zni (List.range 6) [1]).length:Nat)]=#[.string ⟨#[128]⟩,.int .i64 2] by kernel_rfl)),h.2⟩
theorem zvp (w:World) (v:Value) (hv:IsInts w w.heap.size v [1,1]):Calls Tryz.prog 28 #[v] w fun e w'=>e=.returned (.tuple #[.agg #[.string ⟨#[8]⟩,.int .i64 7],.int .i64 0])∧Below w.heap.size w w' :=
  (zgh w v [1,1] hv (by decide) (by decide) (by decide)).mono fun _ _ h=>⟨h.1.trans (congrArg (fun b=>Ending.returned (.tuple #[.agg b,.int .i64 0])) (show #[Value.string (txt (zbc [1,1])),.int .i64 ((zbc [1,1]).length:Nat)]=#[.string ⟨#[8]⟩,.int .i64 7] by kernel_rfl)),h.2⟩
theorem zvN (w:World) (v:Value) (hv:IsInts w w.heap.size v [1]):Calls Tryz.prog 29 #[.string ⟨#[97,98]⟩,v] w fun e w'=>e=.returned (.tuple #[.string ⟨#[98]⟩,.int .i64 0])∧Below w.heap.size w w' :=
  (zkf ⟨#[97,98]⟩ v [1] w hv (by decide) (by decide) (by decide)).mono fun _ _ h=>⟨h.1.trans (congrArg (fun b=>Ending.returned (.tuple b)) (show #[Value.string ⟨(zdp [97,98] [1]).1.toArray⟩,.int .i64 (zdp [97,98] [1]).2]=#[.string ⟨#[98]⟩,.int .i64 0] by kernel_rfl)),h.2⟩
theorem zvR (w:World):Calls Tryz.prog 30 #[.string ⟨#[98,97]⟩,.int .i64 1] w fun e w'=>e=.returned (.tuple #[.string ⟨#[98,97]⟩,.int .i64 0])∧Below w.heap.size w w' :=
  (zkQ ⟨#[98,97]⟩ 1 w (by decide) (by decide)).mono fun _ _ h=>⟨h.1.trans (congrArg (fun b=>Ending.returned (.tuple #[.string ⟨b⟩,.int .i64 0])) (show (zfD (zaJ ⟨#[98,97]⟩) 1).toArray=#[98,97] by kernel_rfl)),h.2⟩
theorem zve (w:World) (v:Value) (hv:IsInts w w.heap.size v [1,1]):Calls Tryz.prog 31 #[v] w fun e w'=>e=.returned (.int .i64 0)∧Below w.heap.size w w' :=
  (zdQ w v [1,1] hv (by decide)).mono fun _ _ h=>⟨h.1.trans (congrArg (fun b=>Ending.returned (.int .i64 b)) (show zdN [1,1]=0 by kernel_rfl)),h.2⟩
theorem zvE (w:World):Calls Tryz.prog 22 #[.string ⟨#[]⟩] w fun e w'=>e=.returned (.int .u32 0)∧Below w.heap.size w w' :=
  (zf3 ⟨#[]⟩ (by decide) w).mono fun _ _ h=>⟨h.1.trans (congrArg (fun b=>Ending.returned (.int .u32 b)) (show ((zby []:Nat):Int)=0 by kernel_rfl)),h.2⟩
theorem zss (w:World):Calls Tryz.prog 32 #[.string ⟨#[98,97]⟩] w fun e w'=>e=.returned (.string ⟨#[97,98]⟩)∧Below w.heap.size w w' :=
  (zdZ w ⟨#[98,97]⟩ (by decide)).mono fun _ _ h=>⟨h.1.trans (congrArg (fun b=>Ending.returned (.string ⟨b⟩)) (show (zai [98,97]).toArray=#[97,98] by kernel_rfl)),h.2⟩
theorem zu9 (w:World):Calls Tryz.prog 33 #[.int .i64 3] w fun e w'=>∃ q c,e=.returned (.slice q 2 c)∧Below w.heap.size w w':=by
  refine (zf5 3 w (by decide) (by decide)).mono ?_
  rintro e w' ⟨u,rfl,ho,hB⟩;rw[show zdz (3:Int).toNat=[0,0] by decide +kernel] at ho
  obtain⟨q,c,rfl⟩:=ho.shape;exact⟨q,c,rfl,hB⟩
theorem zvu (w:World):Calls Tryz.prog 34 #[.string ⟨#[97,98]⟩] w fun e w'=>∃ q c,e=.returned (.slice q 2 c)∧Below w.heap.size w w':=by
  refine (zkX ⟨#[97,98]⟩ w (by decide) (by decide)).mono ?_
  rintro e w' ⟨q,c,rfl,-,hB⟩;exact⟨q,c,rfl,hB⟩
theorem zkZ (w:World) (m:Int) (hm:w.cell? ⟨0,0,none⟩=some (.int .i64 m)):Calls Tryz.prog 6 #[] w fun e w'=>e=.returned (.bool true)∧Below w.heap.size w w':=by
  have CR:=Lib.hid (znP w m hm);clear hm
  go_enter Tryz.func6,Tryz.ntmps6
  have E0:=Lib.hid (Env.nil w)
  go_wp2_with fail
  refine CR.out.mono ?_;rintro e w1 ⟨rfl,hB⟩;have E1:=Lib.hid (E0.out.step hB);clear E0 hB;have E2:=Lib.hid (E1.out.lit [1,1] #[.int .i64 1,.int .i64 1] (w1.heap.size) (by simp) rfl (by simp[maxLen]))
  clear E1
  go_wp2_with fail
  refine (zvy _ _ (E2.out.get 0 rfl)).mono ?_;rintro e w2 ⟨q2,c2,rfl,hB⟩;have E3:=Lib.hid (E2.out.step hB);clear E2 hB;have E4:=Lib.hid (E3.out.lit [1] #[.int .i64 1] (w2.heap.size) (by simp) rfl (by simp[maxLen]))
  clear E3
  go_wp2_with fail
  refine (zvi _ _ (E4.out.get 0 rfl)).mono ?_;rintro e w3 ⟨rfl,hB⟩;have E5:=Lib.hid (E4.out.step hB);clear E4 hB;have E6:=Lib.hid (E5.out.box #[.string ⟨#[128]⟩,.int .i64 2] 50 (w3.heap.size) (by simp))
  clear E5;have E7:=Lib.hid (E6.out.lit [1,1] #[.int .i64 1,.int .i64 1] (w3.heap.size+1) (by simp) rfl (by simp[maxLen]))
  clear E6
  go_wp2_with fail
  refine (zvp _ _ (E7.out.get 0 rfl)).mono ?_;rintro e w4 ⟨rfl,hB⟩;have E8:=Lib.hid (E7.out.step hB);clear E7 hB;have E9:=Lib.hid (E8.out.box #[.string ⟨#[8]⟩,.int .i64 7] 50 (w4.heap.size) (by simp))
  clear E8;have E10:=Lib.hid (E9.out.lit [1] #[.int .i64 1] (w4.heap.size+1) (by simp) rfl (by simp[maxLen]))
  clear E9
  go_wp2_with fail
  refine (zvN _ _ (E10.out.get 0 rfl)).mono ?_;rintro e w5 ⟨rfl,hB⟩;have E11:=Lib.hid (E10.out.step hB);clear E10 hB
  go_wp2_with fail
  refine (zvR _).mono ?_;rintro e w6 ⟨rfl,hB⟩;have E12:=Lib.hid (E11.out.step hB);clear E11 hB;have a1:=E12.out.cellv 1 rfl 1 _ rfl;have b1:=E12.out.cellv 0 rfl 1 _ rfl;have E13:=Lib.hid (E12.out.lit [1,1] #[.int .i64 1,.int .i64 1] (w6.heap.size) (by simp) rfl (by simp[maxLen]))
  go_wp2_with fail
  refine (zve _ _ (E13.out.get 0 rfl)).mono ?_;rintro e w7 ⟨rfl,hB⟩;have E14:=Lib.hid (E13.out.step hB);clear E12 E13 hB a1 b1
  go_wp2_with fail
  refine (zvE _).mono ?_;rintro e w8 ⟨rfl,hB⟩;have E15:=Lib.hid (E14.out.step hB);clear E14 hB
  go_wp2_with fail
  refine (zss _).mono ?_;rintro e w9 ⟨rfl,hB⟩;have E16:=Lib.hid (E15.out.step hB);clear E15 hB
  go_wp2_with fail
  refine (zu9 _).mono ?_;rintro e w10 ⟨q10,c10,rfl,hB⟩;have E17:=Lib.hid (E16.out.step hB);clear E16 hB
  go_wp2_with fail
  refine (zvu _).mono ?_;rintro e w11 ⟨q11,c11,rfl,hB⟩;have E18:=Lib.hid (E17.out.step hB);clear E17 hB
  go_wp2
  go_ret
  exact⟨rfl,E18.out.bel⟩
theorem zmE (S:Strm) (a b:List UInt8) (h:S.ts=[a,b]):S.parts 0=[S.part 0 0,S.part 0 1]∧(S.part 0 0).t=a∧(S.part 0 1).t=b:=by
  have h1:=S.parts_t 0;have h2:=S.length_parts 0;rw[h] at h1 h2;refine⟨?_,?_,?_⟩
  · unfold Strm.parts
    rw[h];rfl
  · simp[Strm.part,h]
  · simp[Strm.part,h]
theorem ziA (w:World) (m:Int) (hm:w.cell? ⟨0,0,none⟩=some (.int .i64 m)) (s t:ByteArray) (level:Int) (x y:ByteArray) (hx:s.extract 0 (min s.size 30)=x) (hy:t.extract 0 (min t.size 30)=y) (he:x.toList.isEmpty=true∨x.toList.isEmpty=false∧y.toList.isEmpty=true) :
    Calls Tryz.prog 4 #[.string s,.string t,.int .i64 level] w fun e w'=>e=.returned (.bool true)∧Below w.heap.size w w':=by
  have CA:=Lib.hid (zkZ w m hm);obtain⟨i,hi⟩:∃ i:Nat,min s.size 30=i:=⟨_,rfl⟩;obtain⟨j,hj⟩:∃ j:Nat,min t.size 30=j:=⟨_,rfl⟩;have hi2:min (s.size:Int) 30=(i:Int):=by omega
  have hj2:min (t.size:Int) 30=(j:Int):=by omega
  have hi3:i≤s.size:=by omega
  have hj3:j≤t.size:=by omega
  rw[hi] at hx;rw[hj] at hy;clear hi hj hm
  go_enter Tryz.func4,Tryz.ntmps4
  go_wp2_with fail
  refine CA.out.mono ?_;rintro e w1 ⟨rfl,hB⟩;have HB:=Lib.hid hB;clear hB CA;rcases he with he | ⟨he,hf⟩
  · go_wp2_with fail
    go_ret
    exact⟨rfl,HB.out⟩
  · go_wp2_with fail
    go_ret
    exact⟨rfl,HB.out⟩
theorem ztE {P G:Prop} (f:P→G) (p:P):G:=f p
theorem zrz {w:World} {base e size n:Nat} {v:Value} {xs:List Value} (h:w.ownsRow base e size v n xs) (hn:0<n) :
    ∃ (g c:Nat) (cur:Array Value),v=.slice (some ⟨g,0,none⟩) n c∧base≤g∧w.heap[g]?=some (.cells cur e (0,0))∧∀ (j:Nat) (x:Value),xs[j]?=some x→cur[j]?=some x:=by
  obtain⟨q,c,rfl⟩:=zaB h;obtain⟨g,o,hq,hg,hc⟩:=(Rd.own h).cellAt hn;have hb:=zaF (j:=g) h (by subst hq;rfl)
  rcases h.2 with h0 | ⟨g',cap,cur,e1,e2,e3,e4⟩
  · omega
  · subst hq
    injection e1 with e5
    injection e5 with e6
    injection e6 with e7 e8
    subst e7 e8;refine⟨g,c,cur,rfl,hb,e3,fun j x hx=>?_⟩;have:=hc j x hx;rw[Nat.zero_add,zaa e3 j] at this;exact this
theorem zhk (x:ByteArray):(⟨x.data.toList.toArray⟩:ByteArray)=x:=by cases x;simp
theorem zvP {G:List Bool} {lv:Nat} {ts:List (List UInt8)} {z pad:Nat} (h:StrmAt (txt G).data.toList 0 lv ts z pad):(txt G).extract 0 4=txt (B.slice (zek lv) 0 32):=by
  obtain⟨h1,h2⟩:=h.head;rw[zkS]
  have h3:((txt G).extract 0 4).data.toList=zek lv:=by
    rw[Lib.extract_from_zero];apply List.ext_getElem
    · rw[List.length_take]
      have:(zek lv).length=4:=rfl;omega
    · intro k hk hk2
      have hk4:k<4:=hk2;have h4:=h2 k hk4;rw[Nat.zero_add,List.getD_eq_getElem?_getD,List.getD_eq_getElem?_getD,List.getElem?_eq_getElem (by omega),List.getElem?_eq_getElem hk2] at h4
      rw[List.getElem_take];exact h4
  rw[←h3,zhk]
theorem zqt (w:World) (m:Int) (hm:w.cell? ⟨0,0,none⟩=some (.int .i64 m)) (s t:ByteArray) (level:Int) (h1:-9223372036854775808≤level) (h2:level≤9223372036854775807) (x y:ByteArray) (hx:s.extract 0 (min s.size 30)=x) (hy:t.extract 0 (min t.size 30)=y) (he:x.toList.isEmpty=false) (hf:y.toList.isEmpty=false) :
    Calls Tryz.prog 4 #[.string s,.string t,.int .i64 level] w fun e w'=>e=.returned (.bool true)∧Below w.heap.size w w':=by
  have CA:=Lib.hid (zkZ w m hm);have CP:=Lib.hid (fun W=>zth level 9 h1 h2 (by decide) (by decide) W)
  obtain⟨k,hk⟩:∃ k:Nat,zn5 level % 9=k:=⟨_,rfl⟩;have hk9:k<9:=by rw[←hk];exact Nat.mod_lt _ (by decide)
  rw[hk] at CP;obtain⟨X,hX⟩:∃ X,x.data.toList=X:=⟨_,rfl⟩;obtain⟨Y,hY⟩:∃ Y,y.data.toList=Y:=⟨_,rfl⟩;have eX:(⟨X.toArray⟩:ByteArray)=x:=by rw[←hX,zhk]
  have eY:(⟨Y.toArray⟩:ByteArray)=y:=by rw[←hY,zhk]
  have hX30:X.length≤30:=by
    rw[←hX,←hx,Lib.extract_from_zero,List.length_take];omega
  have hY30:Y.length≤30:=by
    rw[←hY,←hy,Lib.extract_from_zero,List.length_take];omega
  have hxs:x.size≤30:=by rw[←eX];exact hX30
  have hys:y.size≤30:=by rw[←eY];exact hY30
  have hX0:X≠[]:=fun e=>by
    rw[Lib.toList_data,hX,e] at he;cases he
  have hY0:Y≠[]:=fun e=>by
    rw[Lib.toList_data,hY,e] at hf;cases hf
  have oX:=zlu hX0 hX30;have oY:=zlu hY0 hY30;have oX2:zdw (40*(k+1)) X:=⟨oX.1,by have:=oX.2;omega⟩
  have oY2:zdw (40*(k+1)) Y:=⟨oY.1,by have:=oY.2;omega⟩
  have lX:=zgN oX (by omega)
  have lY:=zgN oY (by omega)
  obtain⟨cx,hcx⟩:∃ c,zby X=c:=⟨_,rfl⟩;obtain⟨cy,hcy⟩:∃ c,zby Y=c:=⟨_,rfl⟩;have hcx2:cx<4294967296:=by rw[←hcx];exact zdE X
  have hcy2:cy<4294967296:=by rw[←hcy];exact zdE Y
  obtain⟨z,hz⟩:∃ z,zhU [cx,cy]=z:=⟨_,rfl⟩;obtain⟨z2,hz2⟩:∃ z,zhU [cy,cx]=z:=⟨_,rfl⟩;have hzl:z<4294967296:=by rw[←hz];exact zmb _ (by intro x hx;simp at hx;omega)
  have hzl2:z2<4294967296:=by rw[←hz2];exact zmb _ (by intro x hx;simp at hx;omega)
  have hmX:[X,Y].map zby=[cx,cy]:=by simp[hcx,hcy]
  have hmY:[Y,X].map zby=[cy,cx]:=by simp[hcx,hcy]
  have bX:(za3 [X,Y]).length≤60000:=by simp[za3];omega
  have bY:(za3 [Y,X]).length≤60000:=by simp[za3];omega
  obtain⟨p0,R0⟩:=zdB (k+1) [X,Y] z (by omega) (by omega) (by intro t ht;simp at ht;rcases ht with rfl | rfl <;> assumption) hzl (by simp) (by omega) (by simp;omega)
  obtain⟨p1,R1⟩:=zdB (k+1) [Y,X] z (by omega) (by omega) (by intro t ht;simp at ht;rcases ht with rfl | rfl <;> assumption) hzl (by simp) (by omega) (by simp;omega)
  have hH4:=zvP R0.at0.1
  have CW:Hid (∀ W v,IsStrs W v [X,Y]→Calls Tryz.prog 16 #[.int .i64 ((k+1:Nat):Int),v] W fun e w'=>e=.returned (.tuple #[.string (txt (zbq (k+1) [X,Y] z)),.int .i64 0])∧Below W.heap.size W w'):=fun W v hv=>by
    have:=zk2 W (k+1) v [X,Y] hv (by omega) (by omega) (by intro t ht;simp at ht;rcases ht with rfl | rfl <;> assumption) (by simp)
    rw[hmX,hz] at this;exact this
  have CEx:Hid (∀ W,Calls Tryz.prog 17 #[.string x,.int .i64 40] W fun e w'=>e=.returned (.tuple #[.agg #[.string (txt (zc2 X)),.int .i64 ((zc2 X).length:Nat)],.int .i64 0])∧Below W.heap.size W w'):=fun W=>by
    have:=zhB x 40 W (by rw[←eX];exact List.length_pos_iff.2 hX0) (by rw[←eX];show X.length≤_;omega) (by omega) (by omega) (by rw[hX];have:=oX.2;omega) (by rw[hX];show (zc2 X).length≤_;omega)
    rw[hX] at this;exact this
  have CEy:Hid (∀ W,Calls Tryz.prog 17 #[.string y,.int .i64 40] W fun e w'=>e=.returned (.tuple #[.agg #[.string (txt (zc2 Y)),.int .i64 ((zc2 Y).length:Nat)],.int .i64 0])∧Below W.heap.size W w'):=fun W=>by
    have:=zhB y 40 W (by rw[←eY];exact List.length_pos_iff.2 hY0) (by rw[←eY];show Y.length≤_;omega) (by omega) (by omega) (by rw[hY];have:=oY.2;omega) (by rw[hY];show (zc2 Y).length≤_;omega)
    rw[hY] at this;exact this
  have CSc:Hid (∀ W,Calls Tryz.prog 10 #[.string (txt (zbq (k+1) [X,Y] z))] W fun e w'=>∃ (g c:Nat) (cur:Array Value),e=.returned (.tuple #[.slice (some ⟨g,0,none⟩) 2 c,.int .i64 0])∧w'.heap[g]?=some (.cells cur 56 (0,0))∧cur[4]?=some (.int .u32 (cx:Nat))∧cur[9]?=some (.int .u32 (cy:Nat))∧W.heap.size≤g∧Below W.heap.size W w'):=fun W=>by
    have hgd:Strm.good ⟨k+1,[X,Y],z,p0⟩=true:=by simp[Strm.good,hcx,hcy,hz]
    obtain⟨q1,q2,q3⟩:=zmE ⟨k+1,[X,Y],z,p0⟩ X Y rfl;have hA:zc5 [⟨k+1,[X,Y],z,p0⟩]=[Strm.part 0 ⟨k+1,[X,Y],z,p0⟩ 0,Strm.part 0 ⟨k+1,[X,Y],z,p0⟩ 1]:=by rw[zgx,if_pos hgd,q1]
    have hE:=(znp ⟨k+1,[X,Y],z,p0⟩).2;rw[if_pos hgd] at hE;have hS:=zs6 (txt (zbq (k+1) [X,Y] z)) W R0.size _ R0.ne R0.at0 R0.few R0.evsL R0.resL (fun j=>Nat.le_trans (R0.txL j) (by omega))
    rw[hE,hA] at hS;refine hS.mono ?_;rintro e w' ⟨v,rfl,hown,hB⟩;obtain⟨g,c,cur,rfl,hg1,hg2,hg3⟩:=zrz hown (by simp)
    refine⟨g,c,cur,rfl,hg2,hg3 4 _ ?_,hg3 9 _ ?_,hg1,hB⟩
    · rw[←hcx,←q2];rfl
    · rw[←hcy,←q3];rfl
  have CAl:Hid (∀ W u,Rd W W.heap.size 1 u 2 [.int .u32 (cx:Nat),.int .u32 (cy:Nat)]→Calls Tryz.prog 18 #[u] W fun e w'=>e=.returned (.int .u32 (z:Nat))∧W=w'):=fun W u h=>by
    have:=zjZ W u [cx,cy] h (by intro x hx;simp at hx;omega) (by simp)
    rw[hz] at this;exact this.mono fun _ _ h=>⟨h.1,h.2.2⟩
  have CAl2:Hid (∀ W u,Rd W W.heap.size 1 u 2 [.int .u32 (cy:Nat),.int .u32 (cx:Nat)]→Calls Tryz.prog 18 #[u] W fun e w'=>e=.returned (.int .u32 (z2:Nat))∧W=w'):=fun W u h=>by
    have:=zjZ W u [cy,cx] h (by intro x hx;simp at hx;omega) (by simp)
    rw[hz2] at this;exact this.mono fun _ _ h=>⟨h.1,h.2.2⟩
  have CP1:Hid (∀ W,Calls Tryz.prog 19 #[.agg #[.string ⟨#[]⟩,.int .i64 0],.int .u64 25779555029136,.int .i64 48] W fun e w'=>e=.returned (.tuple #[.agg #[.string (txt (B.low 25779555029136 48)),.int .i64 48],.int .i64 0])∧Below W.heap.size W w'):=fun W=>by
    have:=zg5 W 25779555029136 48 (B.low 25779555029136 48) rfl (by omega) (by omega)
    rw[B.length_low] at this;exact this
  have CP2:Hid (∀ W,Calls Tryz.prog 19 #[.agg #[.string (txt (B.low 25779555029136 48)),.int .i64 48],.int .u64 (z:Nat),.int .i64 32] W fun e w'=>e=.returned (.tuple #[.agg #[.string (txt (zg4 z)),.int .i64 80],.int .i64 0])∧Below W.heap.size W w'):=fun W=>by
    have:=ziT W (B.low 25779555029136 48) z 32 (zg4 z) rfl (by rw[B.length_low];omega) (by omega) (by omega)
    rw[B.length_low,zdg] at this;exact this
  have hlen:∀ A C:List UInt8,(za3 [A,C]).length≤60000→(zbq (k+1) [A,C] z).length+8*4<1099511627776:=fun A C h=>by rw[zaS];omega
  have CC0:Hid (∀ W v,Rd W W.heap.size 2 v 4 [.string (txt (B.slice (zek (k+1)) 0 32)),.int .i64 32,.string (txt (zc2 X)),.int .i64 ((zc2 X).length:Nat),.string (txt (zc2 Y)),.int .i64 ((zc2 Y).length:Nat),.string (txt (zg4 z)),.int .i64 80]→Calls Tryz.prog 20 #[v] W fun e w'=>e=.returned (.tuple #[.agg #[.string (txt (zbq (k+1) [X,Y] z)),.int .i64 ((zbq (k+1) [X,Y] z).length:Nat)],.int .i64 0])∧Below W.heap.size W w'):=fun W v hv =>
    zkE W v (zcA (k+1) [X,Y]++[zg4 z]) _ (zjs _ _ _) hv (hlen X Y bX)
  have CC1:Hid (∀ W v,Rd W W.heap.size 2 v 4 [.string (txt (B.slice (zek (k+1)) 0 32)),.int .i64 32,.string (txt (zc2 Y)),.int .i64 ((zc2 Y).length:Nat),.string (txt (zc2 X)),.int .i64 ((zc2 X).length:Nat),.string (txt (zg4 z)),.int .i64 80]→Calls Tryz.prog 20 #[v] W fun e w'=>e=.returned (.tuple #[.agg #[.string (txt (zbq (k+1) [Y,X] z)),.int .i64 ((zbq (k+1) [Y,X] z).length:Nat)],.int .i64 0])∧Below W.heap.size W w'):=fun W v hv =>
    zkE W v (zcA (k+1) [Y,X]++[zg4 z]) _ (zjs _ _ _) hv (hlen Y X bY)
  have CSx:Hid (∀ W,Calls Tryz.prog 22 #[.string x] W fun e w'=>e=.returned (.int .u32 (cx:Nat))∧Below W.heap.size W w'):=fun W=>by
    have:=zf3 x (by rw[←eX];show X.length≤_;omega) W
    rw[hX,hcx] at this;exact this
  have CSy:Hid (∀ W,Calls Tryz.prog 22 #[.string y] W fun e w'=>e=.returned (.int .u32 (cy:Nat))∧Below W.heap.size W w'):=fun W=>by
    have:=zf3 y (by rw[←eY];show Y.length≤_;omega) W
    rw[hY,hcy] at this;exact this
  have CR:∃ u er,((z2=z∧u=y++x∧er=(0:Int))∨(z2≠z∧u=(⟨#[]⟩:ByteArray)∧er=7))∧∀ W,Calls Tryz.prog 21 #[.string (txt (zbq (k+1) [Y,X] z))] W fun e w'=>e=.returned (.tuple #[.string u,.int .i64 er])∧Below W.heap.size W w':=by
    have hr:=znp ⟨k+1,[Y,X],z,p1⟩
    have hgd:Strm.good ⟨k+1,[Y,X],z,p1⟩=decide (z2=z):=by
      simp only[Strm.good,hmY,hz2]
      by_cases h:z2=z
      · simp[h]
      · have:z≠z2:=fun e=>h e.symm
        simp[h,this]
    rw[hgd] at hr;have hS:=fun W=>zkr (txt (zbq (k+1) [Y,X] z)) W R1.size _ R1.ne R1.at0 R1.few R1.evsL R1.resL (fun j=>Nat.le_trans (R1.txL j) (by omega))
    rw[hr.1,hr.2] at hS
    by_cases h:z2=z
    · refine⟨y++x,0,.inl ⟨h,rfl,rfl⟩,fun W=>?_⟩
      have hS:=hS W
      have e:(⟨([Y,X].flatten).toArray⟩:ByteArray)=y++x:=by
        rw[←eX,←eY];simp;rfl
      simp only[h,decide_true,if_true] at hS;rw[e] at hS;exact hS
    · refine⟨⟨#[]⟩,7,.inr ⟨h,rfl,rfl⟩,fun W=>?_⟩
      have hS:=hS W;rw[decide_eq_false h] at hS;exact hS
  obtain⟨ru,re,hru,CR⟩:=CR;have CR:=Lib.hid CR;have HRU:=Lib.hid hru;obtain⟨A0,hA0⟩:∃ A,txt (zbq (k+1) [X,Y] z)=A:=⟨_,rfl⟩;obtain⟨n0,hn0⟩:∃ A:Nat,(zbq (k+1) [X,Y] z).length=A:=⟨_,rfl⟩;obtain⟨A1,hA1⟩:∃ A,txt (zbq (k+1) [Y,X] z)=A:=⟨_,rfl⟩;obtain⟨n1,hn1⟩:∃ A:Nat,(zbq (k+1) [Y,X] z).length=A:=⟨_,rfl⟩;obtain⟨PX,hPX⟩:∃ A,txt (zc2 X)=A:=⟨_,rfl⟩;obtain⟨nx,hnx⟩:∃ A:Nat,(zc2 X).length=A:=⟨_,rfl⟩;obtain⟨PY,hPY⟩:∃ A,txt (zc2 Y)=A:=⟨_,rfl⟩;obtain⟨ny,hny⟩:∃ A:Nat,(zc2 Y).length=A:=⟨_,rfl⟩;obtain⟨HT,hHT⟩:∃ A,txt (B.slice (zek (k+1)) 0 32)=A:=⟨_,rfl⟩;obtain⟨M48,hM48⟩:∃ A,txt (B.low 25779555029136 48)=A:=⟨_,rfl⟩;obtain⟨ME,hME⟩:∃ A,txt (zg4 z)=A:=⟨_,rfl⟩;have hA0s:4≤A0.size:=by rw[←hA0,zgO,zaS];omega
  rw[hA0] at CW CSc;rw[hA0,hn0,hHT,hPX,hnx,hPY,hny,hME] at CC0;rw[hA1,hn1,hHT,hPX,hnx,hPY,hny,hME] at CC1;rw[hA1] at CR;rw[hPX,hnx] at CEx;rw[hPY,hny] at CEy;rw[hM48] at CP1;rw[hM48,hME] at CP2;rw[hA0,hHT] at hH4;clear hA0 hA1 hn0 hn1 hPX hnx hPY hny hHT hM48 hME hlen hru R0 R1 bX bY hmX hmY hz hz2 hcx2 hcy2 hcx hcy lX lY oX2 oY2 oX oY hX0 hY0 hX30 hY30 hX hY hk h1 h2 hm
  have CWr:Hid (∀ W v,Rd W W.heap.size 1 v 2 [.string x,.string y]→Calls Tryz.prog 16 #[.int .i64 ((k+1:Nat):Int),v] W fun e w'=>e=.returned (.tuple #[.string A0,.int .i64 0])∧Below W.heap.size W w'):=fun W v hv=>CW.out W v (by
    show Rd W W.heap.size 1 v 2 [.string ⟨X.toArray⟩,.string ⟨Y.toArray⟩]
    rw[eX,eY];exact hv)
  clear CW eX eY;obtain⟨i,hi⟩:∃ i:Nat,min s.size 30=i:=⟨_,rfl⟩;obtain⟨j,hj⟩:∃ j:Nat,min t.size 30=j:=⟨_,rfl⟩;have hi2:min (s.size:Int) 30=(i:Int):=by omega
  have hj2:min (t.size:Int) 30=(j:Int):=by omega
  have hi3:i≤s.size:=by omega
  have hj3:j≤t.size:=by omega
  rw[hi] at hx;rw[hj] at hy;clear hi hj;have hwk:IntKind.i64.wrap (1+(k:Int))=((k+1:Nat):Int):=(IntWalk.i64_in _ (by omega)).trans (by omega)
  have HE0:=Lib.hid (Env.nil w)
  go_enter Tryz.func4,Tryz.ntmps4
  go_wp2_with fail
  refine CA.out.mono ?_;rintro e w1 ⟨rfl,hB⟩;have E1:=Lib.hid (HE0.out.step hB);clear hB CA HE0
  go_wp2_with fail
  refine (CP.out _).mono ?_;rintro e w2 ⟨rfl,rfl⟩;clear CP
  go_wp2_with fail
  refine (CWr.out _ _ (zap (zae _ _ _ rfl) rfl (by rfl) (by simp[maxLen]))).mono ?_
  rintro e w3 ⟨rfl,hB⟩;have E2:=Lib.hid ((E1.out.alloc (.cells #[.string x,.string y] 9)).step hB);clear hB E1 CWr
  go_wp2_with fail
  refine (CSc.out _).mono ?_;rintro e w4 ⟨g,c,cur,rfl,hg,hc4,hc9,hgW,hB⟩;have E3:=Lib.hid (E2.out.fresh hB hg);have HC4:=Lib.hid hc4;have HC9:=Lib.hid hc9;clear hB E2 CSc hc4 hc9 hg hgW
  go_wp2_with fail
  refine (CEx.out _).mono ?_;rintro e w5 ⟨rfl,hB⟩;have E4:=Lib.hid ((E3.out.step hB).box #[.string PX,.int .i64 (nx:Nat)] 50 (w5.heap.size) rfl);clear hB E3 CEx
  go_wp2_with fail
  refine (CEy.out _).mono ?_;rintro e w6 ⟨rfl,hB⟩;have E5:=Lib.hid ((E4.out.step hB).box #[.string PY,.int .i64 (ny:Nat)] 50 (w6.heap.size) rfl);clear hB E4 CEy;have a4:=E5.out.cellv 2 rfl 4 _ HC4.out;have a9:=E5.out.cellv 2 rfl 9 _ HC9.out
  go_wp2_with fail
  generalize w6.alloc (.cells #[.string PY,.int .i64 (ny:Nat)] 50)=W5 at *
  have HR:Hid (Rd (W5.alloc (.cells #[.int .u32 (cx:Nat),.int .u32 (cy:Nat)] 53)).drew (W5.alloc (.cells #[.int .u32 (cx:Nat),.int .u32 (cy:Nat)] 53)).drew.heap.size 1 (.slice (some ⟨W5.heap.size,0,none⟩) 2 2) 2 [.int .u32 (cx:Nat),.int .u32 (cy:Nat)]):=zap (w:=(W5.alloc (.cells #[.int .u32 (cx:Nat),.int .u32 (cy:Nat)] 53)).drew) (zae W5 (.cells #[.int .u32 (cx:Nat),.int .u32 (cy:Nat)] 53) _ rfl) rfl (by rfl) (by simp[maxLen])
  have E6:=Lib.hid ((E5.out.alloc (.cells #[.int .u32 (cx:Nat),.int .u32 (cy:Nat)] 53)).drew);apply ztE
  · intro hP
    go_region_with
      (first
       | (go_at_call 18
          refine (CAl.out _ _ HR.out).mono ?_;rintro e w7 ⟨rfl,rfl⟩)
       | fail)
    all_goals exact hP
  clear a4 a9 HR E5;generalize (W5.alloc (.cells #[.int .u32 (cx:Nat),.int .u32 (cy:Nat)] 53)).drew=W6 at *
  go_wp2_with fail
  refine (CP1.out _).mono ?_;rintro e w7 ⟨rfl,hB⟩;have E7:=Lib.hid ((E6.out.step hB).box #[.string M48,.int .i64 48] 50 (w7.heap.size) rfl);have HW7:Hid (w.heap.size≤w7.heap.size):=(E6.out.step hB).size;have HN7:Hid (∀ p∈[(w6.heap.size,#[Value.string PY,Value.int IntKind.i64 (ny:Nat)],(50:TypeId)),(w5.heap.size,#[Value.string PX,Value.int IntKind.i64 (nx:Nat)],50),(g,cur,56)],p.1≠w7.heap.size):=fun p hp=>Nat.ne_of_lt (zab ((E6.out.step hB).2 p hp));clear hB E6 CP1;have b0:=E7.out.cellv 0 rfl 0 _ rfl;have b1:=E7.out.cellv 0 rfl 1 _ rfl;have g0:=E7.out.frozen 0 rfl
  go_wp2_with fail
  refine (CP2.out _).mono ?_;rintro e w8 ⟨rfl,hB⟩;have E8:=Lib.hid (E7.out.step hB);clear hB E7 CP2 b0 b1 g0;have b0:=E8.out.cellv 0 rfl 0 _ rfl;have b1:=E8.out.cellv 0 rfl 1 _ rfl;have g0:=E8.out.frozen 0 rfl
  go_upto_region 16 with (fail)
  have E9:=Lib.hid (E8.out.set2 HW7.out HN7.out (.string ME) (.int .i64 80));clear E8 b0 b1 g0 HW7 HN7;generalize (w8.setCell ⟨w7.heap.size,0,none⟩ (.string ME)).setCell ⟨w7.heap.size,1,none⟩ (.int .i64 80)=W9 at *
  have hA4:(4:Int)≤(A0.size:Int):=by omega
  go_upto_region 17 with (fail)
  have E10:=Lib.hid (E9.out.box #[.string HT,.int .i64 32] 50 (W9.heap.size) rfl);generalize hz9:W9.heap.size=z9 at *
  generalize W9.alloc (.cells #[.string HT,.int .i64 32] 50)=W10 at *
  clear E9;have l0:=E10.out.cellv 0 rfl 0 _ rfl;have l1:=E10.out.cellv 0 rfl 1 _ rfl;have l2:=E10.out.cellv 1 rfl 0 _ rfl;have l3:=E10.out.cellv 1 rfl 1 _ rfl;have l4:=E10.out.cellv 2 rfl 0 _ rfl;have l5:=E10.out.cellv 2 rfl 1 _ rfl;have l6:=E10.out.cellv 3 rfl 0 _ rfl;have l7:=E10.out.cellv 3 rfl 1 _ rfl
  go_wp2_with fail
  refine (CC0.out _ _ (zap (zae _ _ _ rfl) rfl (by rfl) (by simp[maxLen]))).mono ?_
  rintro e w11 ⟨rfl,hB⟩;have E11:=Lib.hid (((E10.out.alloc (.cells #[.string HT,.int .i64 32,.string PX,.int .i64 (nx:Nat),.string PY,.int .i64 (ny:Nat),.string ME,.int .i64 80] 50)).step hB).box #[.string A0,.int .i64 (n0:Nat)] 50 (w11.heap.size) rfl);clear hB E10 CC0 l0 l1 l2 l3 l4 l5 l6 l7;have l0:=E11.out.cellv 1 rfl 0 _ rfl;have l1:=E11.out.cellv 1 rfl 1 _ rfl;have l2:=E11.out.cellv 2 rfl 0 _ rfl;have l3:=E11.out.cellv 2 rfl 1 _ rfl;have l4:=E11.out.cellv 3 rfl 0 _ rfl;have l5:=E11.out.cellv 3 rfl 1 _ rfl;have l6:=E11.out.cellv 4 rfl 0 _ rfl;have l7:=E11.out.cellv 4 rfl 1 _ rfl
  go_upto_region 18 with (fail)
  generalize w11.alloc (.cells #[.string A0,.int .i64 (n0:Nat)] 50)=W11 at *
  go_wp2_with fail
  refine (CC1.out _ _ (zap (zae _ _ _ rfl) rfl (by rfl) (by simp[maxLen]))).mono ?_
  rintro e w12 ⟨rfl,hB⟩;have E12:=Lib.hid (((E11.out.alloc (.cells #[.string HT,.int .i64 32,.string PY,.int .i64 (ny:Nat),.string PX,.int .i64 (nx:Nat),.string ME,.int .i64 80] 50)).step hB).box #[.string A1,.int .i64 (n1:Nat)] 50 (w12.heap.size) rfl);clear hB E11 CC1 l0 l1 l2 l3 l4 l5 l6 l7;have l0:=E12.out.cellv 0 rfl 0 _ rfl
  go_wp2_with fail
  refine (CR.out _).mono ?_;rintro e w13 ⟨rfl,hB⟩;have E13:=Lib.hid (E12.out.step hB);clear hB E12 CR l0;have a4:=E13.out.cellv 6 rfl 4 _ HC4.out;have a9:=E13.out.cellv 6 rfl 9 _ HC9.out;have HR:Hid (Rd (w13.alloc (.cells #[.int .u32 (cy:Nat),.int .u32 (cx:Nat)] 53)).drew (w13.alloc (.cells #[.int .u32 (cy:Nat),.int .u32 (cx:Nat)] 53)).drew.heap.size 1 (.slice (some ⟨w13.heap.size,0,none⟩) 2 2) 2 [.int .u32 (cy:Nat),.int .u32 (cx:Nat)]):=zap (w:=(w13.alloc (.cells #[.int .u32 (cy:Nat),.int .u32 (cx:Nat)] 53)).drew) (zae w13 (.cells #[.int .u32 (cy:Nat),.int .u32 (cx:Nat)] 53) _ rfl) rfl (by rfl) (by simp[maxLen])
  have E14:=Lib.hid ((E13.out.alloc (.cells #[.int .u32 (cy:Nat),.int .u32 (cx:Nat)] 53)).drew)
  go_wp2_with fail
  apply ztE
  · intro hP
    go_region_with
      (first
       | (go_at_call 18
          refine (CAl2.out _ _ HR.out).mono ?_;rintro e w7 ⟨rfl,rfl⟩)
       | fail)
    all_goals exact hP
  clear a4 a9 HR E13 CAl2;generalize (w13.alloc (.cells #[.int .u32 (cy:Nat),.int .u32 (cx:Nat)] 53)).drew=W14 at *
  have l0:=E14.out.cellv 1 rfl 0 _ rfl;rcases HRU.out with ⟨hq,rfl,rfl⟩ | ⟨hq,rfl,rfl⟩
  all_goals clear HRU CR HC4 HC9 hzl hzl2
  · subst hq
    go_wp2_with fail
    refine (CSx.out _).mono ?_;rintro e w15 ⟨rfl,hB⟩;have E15:=Lib.hid (E14.out.step hB);clear hB E14 CSx l0
    go_wp2_with fail
    refine (CSy.out _).mono ?_;rintro e w16 ⟨rfl,hB⟩;have E16:=Lib.hid (E15.out.step hB);clear hB E15 CSy
    go_wp2_with fail
    refine (CAl.out _ _ (zap (zae _ _ _ rfl) rfl (by rfl) (by simp[maxLen]))).mono ?_
    rintro e w17 ⟨rfl,rfl⟩;have E17:=Lib.hid (E16.out.alloc (.cells #[.int .u32 (cx:Nat),.int .u32 (cy:Nat)] 53));clear E16 CAl
    go_wp2
    go_ret
    exact⟨rfl,E17.out.bel⟩
  · have hq2:((z2:Int) == (z:Int))=false:=beq_eq_false_iff_ne.2 (by omega)
    clear hq
    go_wp2_with fail
    refine (CSx.out _).mono ?_;rintro e w15 ⟨rfl,hB⟩;have E15:=Lib.hid (E14.out.step hB);clear hB E14 CSx l0
    go_wp2_with fail
    refine (CSy.out _).mono ?_;rintro e w16 ⟨rfl,hB⟩;have E16:=Lib.hid (E15.out.step hB);clear hB E15 CSy
    go_wp2_with fail
    refine (CAl.out _ _ (zap (zae _ _ _ rfl) rfl (by rfl) (by simp[maxLen]))).mono ?_
    rintro e w17 ⟨rfl,rfl⟩;have E17:=Lib.hid (E16.out.alloc (.cells #[.int .u32 (cx:Nat),.int .u32 (cy:Nat)] 53));clear E16 CAl
    go_wp2
    go_ret
    exact⟨rfl,E17.out.bel⟩
theorem zsK (w:World) (m:Int) (hm:w.cell? ⟨0,0,none⟩=some (.int .i64 m)) (s t:ByteArray) (level:Int) (h1:-9223372036854775808≤level) (h2:level≤9223372036854775807) :
    Calls Tryz.prog 4 #[.string s,.string t,.int .i64 level] w fun e w'=>e=.returned (.bool true)∧Below w.heap.size w w':=by
  obtain⟨x,hx⟩:∃ x,s.extract 0 (min s.size 30)=x:=⟨_,rfl⟩;obtain⟨y,hy⟩:∃ y,t.extract 0 (min t.size 30)=y:=⟨_,rfl⟩;cases he:x.toList.isEmpty with
  | true=>exact ziA w m hm s t level x y hx hy (.inl he)
  | false =>
    cases hf:y.toList.isEmpty with
    | true=>exact ziA w m hm s t level x y hx hy (.inr ⟨he,hf⟩)
    | false=>exact zqt w m hm s t level h1 h2 x y hx hy he hf
end Go.Proofs.YtoejfkeofbdalaaGreatDoor
namespace Go.Proofs.YtoejfkeofbdalaaGreatDoor.topSums
open Go.ChangeShapes Go.WideShapes Go.ChangeAt Go.RowKit
open Go.ChangeMaps (open_string shut_string)
theorem own:ownKnob Tryz.prog.godebug=none:=by kernel_rfl
theorem zv7 (a0:ByteArray) (a1:ByteArray) (a2:Int) (w2:(Lit.int .i64 a2).wf=true) (w:World) (hsh:w.ShapedOpen Tryz.prog) :
    Calls Tryz.prog 4 #[.string a0,.string a1,.int .i64 a2] w fun e w'=>e=.returned (.bool true)∧Below w.heap.size w w':=by
  obtain⟨h1,h2⟩:=zva w2;obtain⟨m,hm⟩:=zms w hsh;exact zsK w m hm a0 a1 a2 (by omega) (by omega)
theorem lifted (os:Os) (started:os.Started) (H:Type) (enc:TypeId × Value→H) :
    ReturnsInHanded {} Tryz.checked os 4 .any (fun w args=>(Rows.topSumsSpec.pre enc Tryz.prog Tryz.f4 Rows.topSumsRow.domain false w args∧laidMetH Tryz.prog Rows.topSumsRow.laid w)∧sizedMet enc Tryz.prog Tryz.f4 (OpenSpec.ofChange Rows.topSumsSpec) false w args)
      (Rows.topSumsSpec.post enc Tryz.prog Tryz.f4 false true false false):=by
  refine returnsInHanded_of_calls own started (by kernel_rfl)
    (ChangeSpec.witness_shaped (enc:=enc) (C:=Tryz.checked) (os:=os) (X:=fun w _=>laidMetH Tryz.prog Rows.topSumsRow.laid w) false (laidW os) #[.string ByteArray.empty,.string ByteArray.empty,.int .i64 0] 8 (ztv os)
      (zlB os _) (by kernel_rfl) (by kernel_rfl) (by kernel_rfl) (zqx os _)) ?_
  intro w0 tape i _ hsh _ hok hpre _;obtain⟨_,_,_,fn',hfn',_,_,_,_,hval0⟩:=hok;obtain rfl:fn'=Tryz.f4:=Option.some.inj (hfn'.symm.trans Tryz.func4);obtain⟨⟨⟨ds,gs,before,hw0,-⟩,-⟩,-⟩:=hpre;have hW:=DataW.Whole.of_heap (w':=w0.forCall tape i) (by rfl) hw0
  generalize w0.forCall tape i=W at *
  generalize i.args=args at *
  have hval:∀ (j:Nat) t v,Tryz.f4.params[j]?=some t→args[j]?=some v→Value.okWide Tryz.prog W .any w0.heap.size t v:=hval0;have hW':=hW;obtain⟨p,q,hA0,hV,rfl,hfz,hnd⟩:=hW;have hA:DataW.TrodAll enc Tryz.prog W 0 (fun _=>true) true Tryz.f4.params.toList args.toList ds p:=hA0;rw[Tryz.params4] at hA hval;obtain⟨v0,vs0,d0,ds0,p0,q0,hargs,rfl,rfl,h0,r0⟩:=trodAll_cons hA;obtain⟨v1,vs1,d1,ds1,p1,q1,rfl,rfl,rfl,h1,r1⟩:=trodAll_cons r0;obtain⟨v2,vs2,d2,ds2,p2,q2,rfl,rfl,rfl,h2,r2⟩:=trodAll_cons r1;obtain⟨rfl,rfl,rfl⟩:=trodAll_nil r2;obtain rfl:args=#[v0,v1,v2]:=by cases args;simp_all
  obtain⟨rfl,rfl⟩:=trodVars_none hV;obtain⟨a0,rfl,rfl,rfl,w0⟩:=open_string Tryz.underlying9 (hval 0 9 v0 rfl rfl) h0;obtain⟨a1,rfl,rfl,rfl,w1⟩:=open_string Tryz.underlying9 (hval 1 9 v1 rfl rfl) h1;obtain⟨a2,rfl,rfl,rfl,w2⟩:=open_int Tryz.underlying3 (hval 2 3 v2 rfl rfl) h2;clear hA0 hval0;refine (zv7 a0 a1 a2 w2 W hsh).mono fun e W' ⟨he,bel⟩=>?_;subst he;refine ChangeSpec.post_blind ?_;exact⟨_,_,_,[],_,[],hW',(trodAll_cons_mk (shut_bool Tryz.underlying4 _) trodAll_mk0),(trodAll_cons_mk (shut_string Tryz.underlying9 w0) (trodAll_cons_mk (shut_string Tryz.underlying9 w1) (trodAll_cons_mk (shut_int Tryz.underlying3 w2) trodAll_mk0))),rfl,bel.frame _,fun h=>by cases h⟩
end Go.Proofs.YtoejfkeofbdalaaGreatDoor.topSums
