import Derived.Test.YtoejfkeofbdalaaGreatDoorM12
import Derived.Shelf.Sort.Plain
import Derived.Shelf.Lays
import Derived.Ground.Names2Prog
import Derived.Shelf.LaysM
import Derived.Shelf.Strings.BuilderF
import Derived.Shelf.Strings.BuilderK
import Derived.Shelf.Strings.OnBuilder
import Derived.Shelf.Small.Bits
import Derived.Shelf.Small.Strs
import Derived.Shelf.Small.Wraps
import Derived.Shelf.Strconv.Atoi
import Derived.Shelf.Strconv.Itoa3
import Derived.Shelf.Strings.Split
import Derived.Shelf.Strings.Prefix
set_option linter.all false
set_option maxRecDepth 100000
set_option maxHeartbeats 8000000
namespace Go.Proofs
open Go.Shelf
def Tryz.lays189_ren:Go.Shelf.Ren:=⟨λ|189=>96|125=>144|257=>143|128=>210|129=>211|294=>201|295=>202|296=>203|297=>204|298=>205|299=>206|216=>207|300=>208|301=>209|328=>247|329=>248|330=>249|331=>250|332=>251|215=>213|343=>278|n=>n,λ|28=>67|3=>3|46=>142|0=>0|51=>53|53=>58|4=>4|183=>307|182=>306|131=>311|5=>5|9=>9|218=>360|222=>364|228=>398|229=>188|n=>n,λ|n=>n⟩
theorem Tryz.lays189:Go.Proofs.Lays.n189 Tryz.prog Tryz.lays189_ren:={
 mixed:=by kernel_rfl
 f125:=Tryz.func144.trans (congrArg some (by kernel_rfl))
 f128:=Tryz.func210.trans (congrArg some (by kernel_rfl))
 f129:=Tryz.func211.trans (congrArg some (by kernel_rfl))
 f189:=Tryz.func96.trans (congrArg some (by kernel_rfl))
 f215:=Tryz.func213.trans (congrArg some (by kernel_rfl))
 f216:=Tryz.func207.trans (congrArg some (by kernel_rfl))
 f257:=Tryz.func143.trans (congrArg some (by kernel_rfl))
 f294:=Tryz.func201.trans (congrArg some (by kernel_rfl))
 f295:=Tryz.func202.trans (congrArg some (by kernel_rfl))
 f296:=Tryz.func203.trans (congrArg some (by kernel_rfl))
 f297:=Tryz.func204.trans (congrArg some (by kernel_rfl))
 f298:=Tryz.func205.trans (congrArg some (by kernel_rfl))
 f299:=Tryz.func206.trans (congrArg some (by kernel_rfl))
 f300:=Tryz.func208.trans (congrArg some (by kernel_rfl))
 f301:=Tryz.func209.trans (congrArg some (by kernel_rfl))
 f328:=Tryz.func247.trans (congrArg some (by kernel_rfl))
 f329:=Tryz.func248.trans (congrArg some (by kernel_rfl))
 f330:=Tryz.func249.trans (congrArg some (by kernel_rfl))
 f331:=Tryz.func250.trans (congrArg some (by kernel_rfl))
 f332:=Tryz.func251.trans (congrArg some (by kernel_rfl))
 f343:=Tryz.func278.trans (congrArg some (by kernel_rfl))
 t0:=Tryz.underlying0
 a0:=Tryz.isAgg0
 z0:=Tryz.sizeOf0
 v0:=Tryz.zeroValue0
 t3:=Tryz.underlying3
 a3:=Tryz.isAgg3
 z3:=Tryz.sizeOf3
 v3:=Tryz.zeroValue3
 t4:=Tryz.underlying4
 a4:=Tryz.isAgg4
 z4:=Tryz.sizeOf4
 v4:=Tryz.zeroValue4
 t5:=Tryz.underlying5
 a5:=Tryz.isAgg5
 z5:=Tryz.sizeOf5
 v5:=Tryz.zeroValue5
 t9:=Tryz.underlying9
 a9:=Tryz.isAgg9
 z9:=Tryz.sizeOf9
 v9:=Tryz.zeroValue9
 t28:=Tryz.underlying67
 a28:=Tryz.isAgg67
 z28:=Tryz.sizeOf67
 v28:=Tryz.zeroValue67
 t46:=Tryz.underlying142
 a46:=Tryz.isAgg142
 z46:=Tryz.sizeOf142
 v46:=Tryz.zeroValue142
 t51:=Tryz.underlying53
 a51:=Tryz.isAgg53
 z51:=Tryz.sizeOf53
 v51:=Tryz.zeroValue53
 t53:=Tryz.underlying58
 a53:=Tryz.isAgg58
 z53:=Tryz.sizeOf58
 v53:=Tryz.zeroValue58
 t131:=Tryz.underlying311
 a131:=Tryz.isAgg311
 z131:=Tryz.sizeOf311
 v131:=Tryz.zeroValue311
 t182:=Tryz.underlying306
 a182:=Tryz.isAgg306
 z182:=Tryz.sizeOf306
 v182:=Tryz.zeroValue306
 t183:=Tryz.underlying307
 a183:=Tryz.isAgg307
 z183:=Tryz.sizeOf307
 v183:=Tryz.zeroValue307
 t218:=Tryz.underlying360
 a218:=Tryz.isAgg360
 z218:=Tryz.sizeOf360
 v218:=Tryz.zeroValue360
 t222:=Tryz.underlying364
 a222:=Tryz.isAgg364
 z222:=Tryz.sizeOf364
 v222:=Tryz.zeroValue364
 t228:=Tryz.underlying398
 a228:=Tryz.isAgg398
 z228:=Tryz.sizeOf398
 v228:=Tryz.zeroValue398
 t229:=Tryz.underlying188
 a229:=Tryz.isAgg188
 z229:=Tryz.sizeOf188
 v229:=Tryz.zeroValue188 }
open Go.Sort Go.RowKit in
theorem Tryz.slices_Sort_int(b c d:Nat)(a:List Int)(w:World)(f:Holds (Value.int .i64) w b c a.toArray)(j:b<w.heap.size)(i:a.length<4611686018427387904) :
 Calls Tryz.prog 96 #[.slice (some ⟨b,c,none⟩) a.length d] w λe h =>
  e=.returned (.tuple #[])/\∃n g,h=grow (putRow (Value.int .i64) (Sort.ahead w n) b c (a.mergeSort λx y=>decide (x<=y)).toArray) g:=Any.slices_Sort_int Tryz.lays189 b c d a w f j i
end Go.Proofs
namespace Go.Proofs.YtoejfkeofbdalaaGreatDoor
open Go.RowKit
variable {f:List Nat} {n:Nat} {s:List Value} {w:World}
theorem zsg(h:Aq w n f s):Sort.Holds (Value.int .i64) w n 0 (ints f).toArray:=by
 intro j a;have b:j<f.length:=by simpa [ints] using a
 rw[DC];refine⟨?_,h.frozen j⟩;rw[h.cell j f[j] (Az b),getElem!_pos _ j a];simp[ints]
theorem zn6(h:Aq w n f s)(a:List Nat)(g:a.length=f.length)(m:Nat)(c:Array Obj) :
 Aq (Sort.grow (Sort.putRow (Value.int .i64) (Sort.ahead w m) n 0 (ints a).toArray) c) n a s/\Ab n w (Sort.grow (Sort.putRow (Value.int .i64) (Sort.ahead w m) n 0 (ints a).toArray) c):=by
 obtain⟨i,e,l⟩:=h;have q:=Aj e;have d:(Sort.putRow (Value.int .i64) (Sort.ahead w m) n 0 (ints a).toArray).heap.size=w.heap.size:=by rw[Sort.size_putRow];rfl
 refine⟨⟨Sort.putCells (Value.int .i64) 0 (ints a).toArray i,?_,?_⟩,rfl,rfl,rfl,?_,λj p b=>?_⟩
 ·show(_++c)[n]?=_
  rw[Vm (by rw[d];exact q)]
  show(w.heap.modify n _)[n]?=_
  rw[QZ,if_pos rfl,e];rfl
 ·have r:(C4 (ints f)).length=a.length:=by rw[I5,Bj,g]
  apply KF
  intro k;rw[Lj];unfold Sort.putCells;rw[Array.getElem?_mapIdx,<-Lj,l]
  by_cases b:k<a.length
  ·rw[FP Q0,FP (by rw[I5,Bj];exact b),Az Q0]
   simp only[Iz];rw[if_pos ⟨BI _,by simpa [ints] using b⟩,getElem!_pos _ _ (by simpa [ints] using b)]
   simp[C4,ints,b]
  ·have o:(C4 (ints f)++s)[k]?=(C4 (ints a)++s)[k]?:=by
    rw[F7 Q0,F7 (by rw[I5,Bj];omega),I5,I5,Bj,Bj,g]
   rw[<-o];cases(C4 (ints f)++s)[k]? with
   |none=>rfl
   | some x =>
     simp only[Iz];rw[if_neg];simp[ints];omega
 ·show _<=(_++c).size
  rw[Array.size_append,d];omega
 ·show(_++c)[j]?=_
  rw[Vm (by rw[d];exact p)]
  show(w.heap.modify n _)[j]?=_
  rw[QZ,if_neg (Ne.symm b)]
theorem zrz(g:f.Perm (List.range n)):((ints f).mergeSort λx y=>decide (x<=y))=ints (List.range n):=by
 refine List.Perm.eq_of_pairwise (le:=(·<=·)) (λa b _ _ d e=>Int.le_antisymm d e) ?_ ?_ ?_
 ·have:=List.pairwise_mergeSort (le:=λx y:Int=>decide (x<=y)) (λa b c d e=>by simp at*;omega) (λa b=>by simp;omega) (ints f)
  exact this.imp λh=>by simpa using h
 ·unfold ints
  rw[List.pairwise_map];exact List.pairwise_le_range.imp λh=>by omega
 ·exact(List.mergeSort_perm _ _).trans (g.map _)
theorem zm9(w:World)(g n f:Nat)(L:List Nat)(E:List Value)(a:Aq w g L E)(o:n<=1000000)(d:L.Perm (List.range n)) :
 Qk 96 #[Qs g 0 n f] w λe b=>e=.returned (.tuple #[])/\Aq b g (List.range n) E/\Ab g w b:=by
 have c:L.length=n:=by rw[d.length_eq,Gn]
 have k:(ints L).length=n:=by rw[Bj,c]
 have h:=Tryz.slices_Sort_int g 0 f (ints L) w (zsg a) a.lt Q0
 rw[k,zrz d] at h;refine h.mono ?_;rintro e b ⟨rfl,m,l,rfl⟩;obtain⟨i,j⟩:=zn6 a (List.range n) (by rw[Gn,c]) m l
 exact⟨rfl,i,j⟩
end Go.Proofs.YtoejfkeofbdalaaGreatDoor
namespace Go.Proofs
open Go.Shelf
def Tryz.lays170_ren:Go.Shelf.Ren:=⟨λ|170=>324|n=>n,λ|70=>132|3=>3|0=>0|72=>134|37=>89|5=>5|n=>n,λ|n=>n⟩
theorem Tryz.lays170:Go.Proofs.Lays.n170 Tryz.prog Tryz.lays170_ren:={
 mixed:=by kernel_rfl
 f170:=Tryz.func324.trans (congrArg some (by kernel_rfl))
 t0:=Tryz.underlying0
 a0:=Tryz.isAgg0
 z0:=Tryz.sizeOf0
 v0:=Tryz.zeroValue0
 t3:=Tryz.underlying3
 a3:=Tryz.isAgg3
 z3:=Tryz.sizeOf3
 v3:=Tryz.zeroValue3
 t37:=Tryz.underlying89
 a37:=Tryz.isAgg89
 z37:=Tryz.sizeOf89
 v37:=Tryz.zeroValue89
 t70:=Tryz.underlying132
 a70:=Tryz.isAgg132
 z70:=Tryz.sizeOf132
 v70:=Tryz.zeroValue132
 t72:=Tryz.underlying134
 a72:=Tryz.isAgg134
 z72:=Tryz.sizeOf134
 v72:=Tryz.zeroValue134 }
def Tryz.lays169_ren:Go.Shelf.Ren:=⟨λ|169=>71|n=>n,λ|70=>132|9=>9|0=>0|72=>134|37=>89|127=>227|3=>3|5=>5|n=>n,λ|n=>n⟩
theorem Tryz.lays169:Go.Proofs.Lays.n169 Tryz.prog Tryz.lays169_ren:={
 mixed:=by kernel_rfl
 f169:=Tryz.func71.trans (congrArg some (by kernel_rfl))
 t0:=Tryz.underlying0
 a0:=Tryz.isAgg0
 z0:=Tryz.sizeOf0
 v0:=Tryz.zeroValue0
 t3:=Tryz.underlying3
 a3:=Tryz.isAgg3
 z3:=Tryz.sizeOf3
 v3:=Tryz.zeroValue3
 t9:=Tryz.underlying9
 a9:=Tryz.isAgg9
 z9:=Tryz.sizeOf9
 v9:=Tryz.zeroValue9
 t37:=Tryz.underlying89
 a37:=Tryz.isAgg89
 z37:=Tryz.sizeOf89
 v37:=Tryz.zeroValue89
 t70:=Tryz.underlying132
 a70:=Tryz.isAgg132
 z70:=Tryz.sizeOf132
 v70:=Tryz.zeroValue132
 t72:=Tryz.underlying134
 a72:=Tryz.isAgg134
 z72:=Tryz.sizeOf134
 v72:=Tryz.zeroValue134
 t127:=Tryz.underlying227
 a127:=Tryz.isAgg227
 z127:=Tryz.sizeOf227
 v127:=Tryz.zeroValue227 }
theorem Tryz.Builder_Extra_169:Builder.Extra Tryz.prog Tryz.lays169_ren:={
 sizeBuilder:=by kernel_rfl
 liesBuilder:=by kernel_rfl
 t5:=Tryz.underlying5
 a5:=Tryz.isAgg5
 z5:=Tryz.sizeOf5
 v5:=Tryz.zeroValue5
 infoByte:=by kernel_rfl
 cellsByte:=by kernel_rfl
 sizeByte:=by kernel_rfl
 neB5:=by decide }
def Tryz.lays156_ren:Go.Shelf.Ren:=⟨λ|156=>246|165=>277|166=>70|169=>71|240=>129|241=>306|276=>176|277=>333|n=>n,λ|31=>77|9=>9|3=>3|4=>4|0=>0|20=>20|72=>134|76=>137|70=>132|37=>89|75=>93|127=>227|164=>294|5=>5|80=>139|n=>n,λ|n=>n⟩
theorem Tryz.lays156:Go.Proofs.Lays.n156 Tryz.prog Tryz.lays156_ren:={
 mixed:=by kernel_rfl
 f156:=Tryz.func246.trans (congrArg some (by kernel_rfl))
 f165:=Tryz.func277.trans (congrArg some (by kernel_rfl))
 f166:=Tryz.func70.trans (congrArg some (by kernel_rfl))
 f169:=Tryz.func71.trans (congrArg some (by kernel_rfl))
 f240:=Tryz.func129.trans (congrArg some (by kernel_rfl))
 f241:=Tryz.func306.trans (congrArg some (by kernel_rfl))
 f276:=Tryz.func176.trans (congrArg some (by kernel_rfl))
 f277:=Tryz.func333.trans (congrArg some (by kernel_rfl))
 t0:=Tryz.underlying0
 a0:=Tryz.isAgg0
 z0:=Tryz.sizeOf0
 v0:=Tryz.zeroValue0
 t3:=Tryz.underlying3
 a3:=Tryz.isAgg3
 z3:=Tryz.sizeOf3
 v3:=Tryz.zeroValue3
 t4:=Tryz.underlying4
 a4:=Tryz.isAgg4
 z4:=Tryz.sizeOf4
 v4:=Tryz.zeroValue4
 t9:=Tryz.underlying9
 a9:=Tryz.isAgg9
 z9:=Tryz.sizeOf9
 v9:=Tryz.zeroValue9
 t20:=Tryz.underlying20
 a20:=Tryz.isAgg20
 z20:=Tryz.sizeOf20
 v20:=Tryz.zeroValue20
 t31:=Tryz.underlying77
 a31:=Tryz.isAgg77
 z31:=Tryz.sizeOf77
 v31:=Tryz.zeroValue77
 t37:=Tryz.underlying89
 a37:=Tryz.isAgg89
 z37:=Tryz.sizeOf89
 v37:=Tryz.zeroValue89
 t70:=Tryz.underlying132
 a70:=Tryz.isAgg132
 z70:=Tryz.sizeOf132
 v70:=Tryz.zeroValue132
 t72:=Tryz.underlying134
 a72:=Tryz.isAgg134
 z72:=Tryz.sizeOf134
 v72:=Tryz.zeroValue134
 t75:=Tryz.underlying93
 a75:=Tryz.isAgg93
 z75:=Tryz.sizeOf93
 v75:=Tryz.zeroValue93
 t76:=Tryz.underlying137
 a76:=Tryz.isAgg137
 z76:=Tryz.sizeOf137
 v76:=Tryz.zeroValue137
 t127:=Tryz.underlying227
 a127:=Tryz.isAgg227
 z127:=Tryz.sizeOf227
 v127:=Tryz.zeroValue227
 t164:=Tryz.underlying294
 a164:=Tryz.isAgg294
 z164:=Tryz.sizeOf294
 v164:=Tryz.zeroValue294 }
theorem Tryz.Builder_Extra_156:Builder.Extra Tryz.prog Tryz.lays156_ren:={
 sizeBuilder:=by kernel_rfl
 liesBuilder:=by kernel_rfl
 t5:=Tryz.underlying5
 a5:=Tryz.isAgg5
 z5:=Tryz.sizeOf5
 v5:=Tryz.zeroValue5
 infoByte:=by kernel_rfl
 cellsByte:=by kernel_rfl
 sizeByte:=by kernel_rfl
 neB5:=by decide }
open Go.RowKit in
theorem Tryz.strings_Join(b o c:Nat)(a:List ByteArray)(d:ByteArray)(w:World)(l:∀(j:Nat) x,a[j]?=some x->w.cell? ⟨b,o+j,none⟩=some (.string x))(h:b<w.heap.size)(f:a.length<=140737488355328)(i:a.length<=c)(k:(Lib.join (a.map (·.data.toList)) d.data.toList).length<=140737488355328) :
 Calls Tryz.prog 246 #[.slice (some ⟨b,o,none⟩) a.length c,.string d] w λe g=>e=.returned (.string ⟨(Lib.join (a.map (·.data.toList)) d.data.toList).toArray⟩)/\Below w.heap.size w g:=Any.strings_Join Tryz.lays156 Tryz.Builder_Extra_156 b o c a d w l h f i k
def Tryz.lays125_ren:Go.Shelf.Ren:=⟨λ|125=>144|128=>210|129=>211|n=>n,λ|46=>142|3=>3|51=>53|53=>58|4=>4|5=>5|9=>9|n=>n,λ|n=>n⟩
theorem Tryz.lays125:Go.Proofs.Lays.n125 Tryz.prog Tryz.lays125_ren:={
 mixed:=by kernel_rfl
 f125:=Tryz.func144.trans (congrArg some (by kernel_rfl))
 f128:=Tryz.func210.trans (congrArg some (by kernel_rfl))
 f129:=Tryz.func211.trans (congrArg some (by kernel_rfl))
 t3:=Tryz.underlying3
 a3:=Tryz.isAgg3
 z3:=Tryz.sizeOf3
 v3:=Tryz.zeroValue3
 t4:=Tryz.underlying4
 a4:=Tryz.isAgg4
 z4:=Tryz.sizeOf4
 v4:=Tryz.zeroValue4
 t5:=Tryz.underlying5
 a5:=Tryz.isAgg5
 z5:=Tryz.sizeOf5
 v5:=Tryz.zeroValue5
 t9:=Tryz.underlying9
 a9:=Tryz.isAgg9
 z9:=Tryz.sizeOf9
 v9:=Tryz.zeroValue9
 t46:=Tryz.underlying142
 a46:=Tryz.isAgg142
 z46:=Tryz.sizeOf142
 v46:=Tryz.zeroValue142
 t51:=Tryz.underlying53
 a51:=Tryz.isAgg53
 z51:=Tryz.sizeOf53
 v51:=Tryz.zeroValue53
 t53:=Tryz.underlying58
 a53:=Tryz.isAgg58
 z53:=Tryz.sizeOf58
 v53:=Tryz.zeroValue58 }
theorem Tryz.bits_Len(x:Int)(w:World)(a:0<=x)(b:x<=18446744073709551615) :
 Calls Tryz.prog 144 #[.int .u64 x] w λe c=>e=.returned (.int .i64 (Lib.bitLen x.toNat))/\c=w:=Any.bits_Len Tryz.lays125 x w a b
def Tryz.lays137_ren:Go.Shelf.Ren:=⟨λ|137=>244|217=>264|266=>293|n=>n,λ|9=>9|5=>5|3=>3|n=>n,λ|n=>n⟩
theorem Tryz.lays137:Go.Proofs.Lays.n137 Tryz.prog Tryz.lays137_ren:={
 mixed:=by kernel_rfl
 f137:=Tryz.func244.trans (congrArg some (by kernel_rfl))
 f217:=Tryz.func264.trans (congrArg some (by kernel_rfl))
 f266:=Tryz.func293.trans (congrArg some (by kernel_rfl))
 t3:=Tryz.underlying3
 a3:=Tryz.isAgg3
 z3:=Tryz.sizeOf3
 v3:=Tryz.zeroValue3
 t5:=Tryz.underlying5
 a5:=Tryz.isAgg5
 z5:=Tryz.sizeOf5
 v5:=Tryz.zeroValue5
 t9:=Tryz.underlying9
 a9:=Tryz.isAgg9
 z9:=Tryz.sizeOf9
 v9:=Tryz.zeroValue9 }
open Go.RowKit in
theorem Tryz.strings_IndexByte(s:ByteArray)(c:Int)(w:World) :
 Calls Tryz.prog 244 #[.string s,.int .u8 c] w λe a=>e=.returned (.int .i64 (Lib.indexByte s.data.toList c.toNat.toUInt8))/\a=w:=Any.strings_IndexByte Tryz.lays137 s c w
open Go.RowKit in
theorem Tryz.Builder_Len_f(B b:Nat)(a:List Value)(w:World)(h:Lib.IsBuilderF 134 5 B b a w) :
 Calls Tryz.prog 324 #[.pointer (some ⟨b,0,none⟩)] w λe c=>e=.returned (.int .i64 a.length)/\c=w:=Any.Builder_Len_f Tryz.lays170 B b a w h
open Go.RowKit in
theorem Tryz.Builder_String_any_k(B b:Nat)(l:List UInt8)(w:World)(h:Lib.IsBuilderF 134 5 B b (Lib.byteCells l) w)(c:B<=w.heap.size) :
 Calls Tryz.prog 71 #[.pointer (some ⟨b,0,none⟩)] w λe a=>e=.returned (.string ⟨l.toArray⟩)/\(Lib.IsBuilderF 134 5 B b (Lib.byteCells l) a/\Below B w a/\Lib.OthersKept 5 (some b) w a):=Any.Builder_String_any_k Tryz.lays169 Tryz.Builder_Extra_169 B b l w h c
def Tryz.lays172_ren:Go.Shelf.Ren:=⟨λ|172=>196|244=>241|245=>242|247=>270|279=>271|280=>272|281=>273|282=>274|287=>299|316=>300|171=>197|205=>301|321=>327|322=>328|243=>243|246=>275|283=>302|284=>303|285=>304|286=>305|129=>211|317=>329|318=>330|319=>331|320=>332|337=>345|338=>346|n=>n,λ|9=>9|3=>3|75=>93|76=>137|4=>4|5=>5|167=>390|37=>89|0=>0|85=>391|2=>2|168=>393|53=>58|175=>420|46=>142|210=>423|127=>227|145=>454|143=>452|21=>21|171=>425|173=>427|212=>456|51=>53|20=>20|213=>457|232=>489|233=>490|80=>139|n=>n,λ|15=>3|16=>4|17=>5|18=>7|19=>8|n=>n⟩
theorem Tryz.lays172:Go.Proofs.Lays.n172 Tryz.prog Tryz.lays172_ren:={
 mixed:=by kernel_rfl
 f129:=Tryz.func211.trans (congrArg some (by kernel_rfl))
 f171:=Tryz.func197.trans (congrArg some (by kernel_rfl))
 f172:=Tryz.func196.trans (congrArg some (by kernel_rfl))
 f205:=Tryz.func301.trans (congrArg some (by kernel_rfl))
 f243:=Tryz.func243.trans (congrArg some (by kernel_rfl))
 f244:=Tryz.func241.trans (congrArg some (by kernel_rfl))
 f245:=Tryz.func242.trans (congrArg some (by kernel_rfl))
 f246:=Tryz.func275.trans (congrArg some (by kernel_rfl))
 f247:=Tryz.func270.trans (congrArg some (by kernel_rfl))
 f279:=Tryz.func271.trans (congrArg some (by kernel_rfl))
 f280:=Tryz.func272.trans (congrArg some (by kernel_rfl))
 f281:=Tryz.func273.trans (congrArg some (by kernel_rfl))
 f282:=Tryz.func274.trans (congrArg some (by kernel_rfl))
 f283:=Tryz.func302.trans (congrArg some (by kernel_rfl))
 f284:=Tryz.func303.trans (congrArg some (by kernel_rfl))
 f285:=Tryz.func304.trans (congrArg some (by kernel_rfl))
 f286:=Tryz.func305.trans (congrArg some (by kernel_rfl))
 f287:=Tryz.func299.trans (congrArg some (by kernel_rfl))
 f316:=Tryz.func300.trans (congrArg some (by kernel_rfl))
 f317:=Tryz.func329.trans (congrArg some (by kernel_rfl))
 f318:=Tryz.func330.trans (congrArg some (by kernel_rfl))
 f319:=Tryz.func331.trans (congrArg some (by kernel_rfl))
 f320:=Tryz.func332.trans (congrArg some (by kernel_rfl))
 f321:=Tryz.func327.trans (congrArg some (by kernel_rfl))
 f322:=Tryz.func328.trans (congrArg some (by kernel_rfl))
 f337:=Tryz.func345.trans (congrArg some (by kernel_rfl))
 f338:=Tryz.func346.trans (congrArg some (by kernel_rfl))
 t0:=Tryz.underlying0
 a0:=Tryz.isAgg0
 z0:=Tryz.sizeOf0
 v0:=Tryz.zeroValue0
 t2:=Tryz.underlying2
 a2:=Tryz.isAgg2
 z2:=Tryz.sizeOf2
 v2:=Tryz.zeroValue2
 t3:=Tryz.underlying3
 a3:=Tryz.isAgg3
 z3:=Tryz.sizeOf3
 v3:=Tryz.zeroValue3
 t4:=Tryz.underlying4
 a4:=Tryz.isAgg4
 z4:=Tryz.sizeOf4
 v4:=Tryz.zeroValue4
 t5:=Tryz.underlying5
 a5:=Tryz.isAgg5
 z5:=Tryz.sizeOf5
 v5:=Tryz.zeroValue5
 t9:=Tryz.underlying9
 a9:=Tryz.isAgg9
 z9:=Tryz.sizeOf9
 v9:=Tryz.zeroValue9
 t20:=Tryz.underlying20
 a20:=Tryz.isAgg20
 z20:=Tryz.sizeOf20
 v20:=Tryz.zeroValue20
 t21:=Tryz.underlying21
 a21:=Tryz.isAgg21
 z21:=Tryz.sizeOf21
 v21:=Tryz.zeroValue21
 t37:=Tryz.underlying89
 a37:=Tryz.isAgg89
 z37:=Tryz.sizeOf89
 v37:=Tryz.zeroValue89
 t46:=Tryz.underlying142
 a46:=Tryz.isAgg142
 z46:=Tryz.sizeOf142
 v46:=Tryz.zeroValue142
 t51:=Tryz.underlying53
 a51:=Tryz.isAgg53
 z51:=Tryz.sizeOf53
 v51:=Tryz.zeroValue53
 t53:=Tryz.underlying58
 a53:=Tryz.isAgg58
 z53:=Tryz.sizeOf58
 v53:=Tryz.zeroValue58
 t75:=Tryz.underlying93
 a75:=Tryz.isAgg93
 z75:=Tryz.sizeOf93
 v75:=Tryz.zeroValue93
 t76:=Tryz.underlying137
 a76:=Tryz.isAgg137
 z76:=Tryz.sizeOf137
 v76:=Tryz.zeroValue137
 t85:=Tryz.underlying391
 a85:=Tryz.isAgg391
 z85:=Tryz.sizeOf391
 v85:=Tryz.zeroValue391
 t127:=Tryz.underlying227
 a127:=Tryz.isAgg227
 z127:=Tryz.sizeOf227
 v127:=Tryz.zeroValue227
 t143:=Tryz.underlying452
 a143:=Tryz.isAgg452
 z143:=Tryz.sizeOf452
 v143:=Tryz.zeroValue452
 t145:=Tryz.underlying454
 a145:=Tryz.isAgg454
 z145:=Tryz.sizeOf454
 v145:=Tryz.zeroValue454
 t167:=Tryz.underlying390
 a167:=Tryz.isAgg390
 z167:=Tryz.sizeOf390
 v167:=Tryz.zeroValue390
 t168:=Tryz.underlying393
 a168:=Tryz.isAgg393
 z168:=Tryz.sizeOf393
 v168:=Tryz.zeroValue393
 t171:=Tryz.underlying425
 a171:=Tryz.isAgg425
 z171:=Tryz.sizeOf425
 v171:=Tryz.zeroValue425
 t173:=Tryz.underlying427
 a173:=Tryz.isAgg427
 z173:=Tryz.sizeOf427
 v173:=Tryz.zeroValue427
 t175:=Tryz.underlying420
 a175:=Tryz.isAgg420
 z175:=Tryz.sizeOf420
 v175:=Tryz.zeroValue420
 t210:=Tryz.underlying423
 a210:=Tryz.isAgg423
 z210:=Tryz.sizeOf423
 v210:=Tryz.zeroValue423
 t212:=Tryz.underlying456
 a212:=Tryz.isAgg456
 z212:=Tryz.sizeOf456
 v212:=Tryz.zeroValue456
 t213:=Tryz.underlying457
 a213:=Tryz.isAgg457
 z213:=Tryz.sizeOf457
 t232:=Tryz.underlying489
 a232:=Tryz.isAgg489
 z232:=Tryz.sizeOf489
 v232:=Tryz.zeroValue489
 t233:=Tryz.underlying490
 a233:=Tryz.isAgg490
 z233:=Tryz.sizeOf490
 v233:=Tryz.zeroValue490
 g15:=by kernel_rfl
 g16:=by kernel_rfl
 g17:=by kernel_rfl
 g18:=by kernel_rfl
 g19:=by kernel_rfl }
open Go.RowKit in
theorem Tryz.strconv_Atoi(s:ByteArray)(n:Int)(a:s.size<=18)(h:Lib.atoi s.data.toList=some n)(w:World) :
 Calls Tryz.prog 196 #[.string s] w λe b=>e=.returned (.tuple #[.int .i64 n,.nilIface])/\∃t,b=Lib.bytesWorld w 5 t:=Any.strconv_Atoi Tryz.lays172 s n a h w
def Tryz.laysM171_ren:Go.Shelf.Ren:=⟨λ|171=>197|243=>243|246=>275|283=>302|284=>303|285=>304|286=>305|129=>211|317=>329|318=>330|319=>331|320=>332|337=>345|338=>346|n=>n,λ|3=>3|9=>9|2=>2|4=>4|171=>425|0=>0|53=>58|37=>89|5=>5|173=>427|212=>456|51=>53|20=>20|213=>457|46=>142|232=>489|233=>490|n=>n,λ|17=>5|18=>7|19=>8|n=>n⟩
theorem Tryz.laysM171:Go.Proofs.LaysM.n171 Tryz.prog Tryz.laysM171_ren:={
 mixed:=by kernel_rfl
 f129:=Tryz.func211.trans (congrArg some (by kernel_rfl))
 f171:=Tryz.func197.trans (congrArg some (by kernel_rfl))
 f243:=Tryz.func243.trans (congrArg some (by kernel_rfl))
 f246:=Tryz.func275.trans (congrArg some (by kernel_rfl))
 f283:=Tryz.func302.trans (congrArg some (by kernel_rfl))
 f284:=Tryz.func303.trans (congrArg some (by kernel_rfl))
 f285:=Tryz.func304.trans (congrArg some (by kernel_rfl))
 f286:=Tryz.func305.trans (congrArg some (by kernel_rfl))
 f317:=Tryz.func329.trans (congrArg some (by kernel_rfl))
 f318:=Tryz.func330.trans (congrArg some (by kernel_rfl))
 f319:=Tryz.func331.trans (congrArg some (by kernel_rfl))
 f320:=Tryz.func332.trans (congrArg some (by kernel_rfl))
 f337:=Tryz.func345.trans (congrArg some (by kernel_rfl))
 f338:=Tryz.func346.trans (congrArg some (by kernel_rfl))
 t0:=Tryz.underlying0
 a0:=Tryz.isAgg0
 z0:=Tryz.sizeOf0
 v0:=Tryz.zeroValue0
 t2:=Tryz.underlying2
 a2:=Tryz.isAgg2
 z2:=Tryz.sizeOf2
 v2:=Tryz.zeroValue2
 t3:=Tryz.underlying3
 a3:=Tryz.isAgg3
 z3:=Tryz.sizeOf3
 v3:=Tryz.zeroValue3
 t4:=Tryz.underlying4
 a4:=Tryz.isAgg4
 z4:=Tryz.sizeOf4
 v4:=Tryz.zeroValue4
 t5:=Tryz.underlying5
 a5:=Tryz.isAgg5
 z5:=Tryz.sizeOf5
 v5:=Tryz.zeroValue5
 t9:=Tryz.underlying9
 a9:=Tryz.isAgg9
 z9:=Tryz.sizeOf9
 v9:=Tryz.zeroValue9
 t20:=Tryz.underlying20
 a20:=Tryz.isAgg20
 z20:=Tryz.sizeOf20
 v20:=Tryz.zeroValue20
 t37:=Tryz.underlying89
 a37:=Tryz.isAgg89
 z37:=Tryz.sizeOf89
 v37:=Tryz.zeroValue89
 t46:=Tryz.underlying142
 a46:=Tryz.isAgg142
 z46:=Tryz.sizeOf142
 v46:=Tryz.zeroValue142
 t51:=Tryz.underlying53
 a51:=Tryz.isAgg53
 z51:=Tryz.sizeOf53
 v51:=Tryz.zeroValue53
 t53:=Tryz.underlying58
 a53:=Tryz.isAgg58
 z53:=Tryz.sizeOf58
 v53:=Tryz.zeroValue58
 t171:=Tryz.underlying425
 a171:=Tryz.isAgg425
 z171:=Tryz.sizeOf425
 v171:=Tryz.zeroValue425
 t173:=Tryz.underlying427
 a173:=Tryz.isAgg427
 z173:=Tryz.sizeOf427
 v173:=Tryz.zeroValue427
 t212:=Tryz.underlying456
 a212:=Tryz.isAgg456
 z212:=Tryz.sizeOf456
 v212:=Tryz.zeroValue456
 t213:=Tryz.underlying457
 a213:=Tryz.isAgg457
 z213:=Tryz.sizeOf457
 t232:=Tryz.underlying489
 a232:=Tryz.isAgg489
 z232:=Tryz.sizeOf489
 v232:=Tryz.zeroValue489
 t233:=Tryz.underlying490
 a233:=Tryz.isAgg490
 z233:=Tryz.sizeOf490
 v233:=Tryz.zeroValue490
 g17:=by kernel_rfl
 g18:=by kernel_rfl
 g19:=by kernel_rfl
 i0:=by kernel_rfl
 i2:=by kernel_rfl
 i3:=by kernel_rfl
 i4:=by kernel_rfl
 i5:=by kernel_rfl
 i9:=by kernel_rfl
 i20:=by kernel_rfl
 i37:=by kernel_rfl
 i46:=by kernel_rfl
 i51:=by kernel_rfl
 i53:=by kernel_rfl
 i171:=by kernel_rfl
 i173:=by kernel_rfl
 i212:=by kernel_rfl
 i232:=by kernel_rfl
 i233:=by kernel_rfl
 m17:=by kernel_rfl
 m18:=by kernel_rfl
 m19:=by kernel_rfl }
open Go.RowKit Go.Sort Go.Lib in
theorem Tryz.strconv_Itoa(n:Int)(a:-9223372036854775808<=n)(b:n<=9223372036854775807)(w:World)(f:Lib.TabIs Tryz.prog w "internal/strconv.uint64pow10" .u64 Lib.pow10Tab) :
 Calls Tryz.prog 197 #[.int .i64 n] w λe d=>e=.returned (.string ⟨(Lib.itoa n).toArray⟩)/\∃k c,d=grow (w.drewN k) c:=Any.strconv_Itoa Tryz.laysM171 n a b w f
def Tryz.lays171_ren:Go.Shelf.Ren:=⟨λ|171=>197|243=>243|246=>275|283=>302|284=>303|285=>304|286=>305|129=>211|317=>329|318=>330|319=>331|320=>332|337=>345|338=>346|n=>n,λ|3=>3|9=>9|2=>2|4=>4|171=>425|0=>0|53=>58|37=>89|5=>5|173=>427|212=>456|51=>53|20=>20|213=>457|46=>142|232=>489|233=>490|n=>n,λ|17=>5|18=>7|19=>8|n=>n⟩
theorem Tryz.lays171:Go.Proofs.Lays.n171 Tryz.prog Tryz.lays171_ren:={
 mixed:=by kernel_rfl
 f129:=Tryz.func211.trans (congrArg some (by kernel_rfl))
 f171:=Tryz.func197.trans (congrArg some (by kernel_rfl))
 f243:=Tryz.func243.trans (congrArg some (by kernel_rfl))
 f246:=Tryz.func275.trans (congrArg some (by kernel_rfl))
 f283:=Tryz.func302.trans (congrArg some (by kernel_rfl))
 f284:=Tryz.func303.trans (congrArg some (by kernel_rfl))
 f285:=Tryz.func304.trans (congrArg some (by kernel_rfl))
 f286:=Tryz.func305.trans (congrArg some (by kernel_rfl))
 f317:=Tryz.func329.trans (congrArg some (by kernel_rfl))
 f318:=Tryz.func330.trans (congrArg some (by kernel_rfl))
 f319:=Tryz.func331.trans (congrArg some (by kernel_rfl))
 f320:=Tryz.func332.trans (congrArg some (by kernel_rfl))
 f337:=Tryz.func345.trans (congrArg some (by kernel_rfl))
 f338:=Tryz.func346.trans (congrArg some (by kernel_rfl))
 t0:=Tryz.underlying0
 a0:=Tryz.isAgg0
 z0:=Tryz.sizeOf0
 v0:=Tryz.zeroValue0
 t2:=Tryz.underlying2
 a2:=Tryz.isAgg2
 z2:=Tryz.sizeOf2
 v2:=Tryz.zeroValue2
 t3:=Tryz.underlying3
 a3:=Tryz.isAgg3
 z3:=Tryz.sizeOf3
 v3:=Tryz.zeroValue3
 t4:=Tryz.underlying4
 a4:=Tryz.isAgg4
 z4:=Tryz.sizeOf4
 v4:=Tryz.zeroValue4
 t5:=Tryz.underlying5
 a5:=Tryz.isAgg5
 z5:=Tryz.sizeOf5
 v5:=Tryz.zeroValue5
 t9:=Tryz.underlying9
 a9:=Tryz.isAgg9
 z9:=Tryz.sizeOf9
 v9:=Tryz.zeroValue9
 t20:=Tryz.underlying20
 a20:=Tryz.isAgg20
 z20:=Tryz.sizeOf20
 v20:=Tryz.zeroValue20
 t37:=Tryz.underlying89
 a37:=Tryz.isAgg89
 z37:=Tryz.sizeOf89
 v37:=Tryz.zeroValue89
 t46:=Tryz.underlying142
 a46:=Tryz.isAgg142
 z46:=Tryz.sizeOf142
 v46:=Tryz.zeroValue142
 t51:=Tryz.underlying53
 a51:=Tryz.isAgg53
 z51:=Tryz.sizeOf53
 v51:=Tryz.zeroValue53
 t53:=Tryz.underlying58
 a53:=Tryz.isAgg58
 z53:=Tryz.sizeOf58
 v53:=Tryz.zeroValue58
 t171:=Tryz.underlying425
 a171:=Tryz.isAgg425
 z171:=Tryz.sizeOf425
 v171:=Tryz.zeroValue425
 t173:=Tryz.underlying427
 a173:=Tryz.isAgg427
 z173:=Tryz.sizeOf427
 v173:=Tryz.zeroValue427
 t212:=Tryz.underlying456
 a212:=Tryz.isAgg456
 z212:=Tryz.sizeOf456
 v212:=Tryz.zeroValue456
 t213:=Tryz.underlying457
 a213:=Tryz.isAgg457
 z213:=Tryz.sizeOf457
 t232:=Tryz.underlying489
 a232:=Tryz.isAgg489
 z232:=Tryz.sizeOf489
 v232:=Tryz.zeroValue489
 t233:=Tryz.underlying490
 a233:=Tryz.isAgg490
 z233:=Tryz.sizeOf490
 v233:=Tryz.zeroValue490
 g17:=by kernel_rfl
 g18:=by kernel_rfl
 g19:=by kernel_rfl }
open Go.RowKit Go.Sort Go.Lib in
theorem Tryz.strconv_Itoa_small(i:Nat)(a:i<100)(w:World) :
 Calls Tryz.prog 197 #[.int .i64 i] w λe b=>e=.returned (.string ⟨(Lib.decDigits i).toArray⟩)/\b=w:=Any.strconv_Itoa_small Tryz.lays171 i a w
def Tryz.lays102_ren:Go.Shelf.Ren:=⟨λ|102=>76|209=>137|207=>200|n=>n,λ|9=>9|4=>4|3=>3|n=>n,λ|n=>n⟩
theorem Tryz.lays102:Go.Proofs.Lays.n102 Tryz.prog Tryz.lays102_ren:={
 mixed:=by kernel_rfl
 f102:=Tryz.func76.trans (congrArg some (by kernel_rfl))
 f207:=Tryz.func200.trans (congrArg some (by kernel_rfl))
 f209:=Tryz.func137.trans (congrArg some (by kernel_rfl))
 t3:=Tryz.underlying3
 a3:=Tryz.isAgg3
 z3:=Tryz.sizeOf3
 v3:=Tryz.zeroValue3
 t4:=Tryz.underlying4
 a4:=Tryz.isAgg4
 z4:=Tryz.sizeOf4
 v4:=Tryz.zeroValue4
 t9:=Tryz.underlying9
 a9:=Tryz.isAgg9
 z9:=Tryz.sizeOf9
 v9:=Tryz.zeroValue9 }
open Go.RowKit Go.Lib in
theorem Tryz.strings_TrimSuffix(s p:ByteArray)(w:World)(a:s.size<=9223372036854775807) :
 Calls Tryz.prog 76 #[.string s,.string p] w λe b=>e=.returned (.string ⟨(Lib.trimSuffix s.data.toList p.data.toList).toArray⟩)/\b=w:=Any.strings_TrimSuffix Tryz.lays102 s p w a
def Tryz.lays221_ren:Go.Shelf.Ren:=⟨λ|221=>132|268=>177|138=>178|143=>179|195=>233|197=>234|218=>235|219=>236|260=>263|217=>264|225=>265|224=>266|267=>267|266=>293|314=>294|n=>n,λ|9=>9|3=>3|31=>77|4=>4|0=>0|105=>350|21=>21|5=>5|46=>142|119=>411|139=>414|138=>413|146=>415|51=>53|n=>n,λ|1=>0|3=>1|4=>2|n=>n⟩
theorem Tryz.lays221:Go.Proofs.Lays.n221 Tryz.prog Tryz.lays221_ren:={
 mixed:=by kernel_rfl
 f138:=Tryz.func178.trans (congrArg some (by kernel_rfl))
 f143:=Tryz.func179.trans (congrArg some (by kernel_rfl))
 f195:=Tryz.func233.trans (congrArg some (by kernel_rfl))
 f197:=Tryz.func234.trans (congrArg some (by kernel_rfl))
 f217:=Tryz.func264.trans (congrArg some (by kernel_rfl))
 f218:=Tryz.func235.trans (congrArg some (by kernel_rfl))
 f219:=Tryz.func236.trans (congrArg some (by kernel_rfl))
 f221:=Tryz.func132.trans (congrArg some (by kernel_rfl))
 f224:=Tryz.func266.trans (congrArg some (by kernel_rfl))
 f225:=Tryz.func265.trans (congrArg some (by kernel_rfl))
 f260:=Tryz.func263.trans (congrArg some (by kernel_rfl))
 f266:=Tryz.func293.trans (congrArg some (by kernel_rfl))
 f267:=Tryz.func267.trans (congrArg some (by kernel_rfl))
 f268:=Tryz.func177.trans (congrArg some (by kernel_rfl))
 f314:=Tryz.func294.trans (congrArg some (by kernel_rfl))
 t0:=Tryz.underlying0
 a0:=Tryz.isAgg0
 z0:=Tryz.sizeOf0
 v0:=Tryz.zeroValue0
 t3:=Tryz.underlying3
 a3:=Tryz.isAgg3
 z3:=Tryz.sizeOf3
 v3:=Tryz.zeroValue3
 t4:=Tryz.underlying4
 a4:=Tryz.isAgg4
 z4:=Tryz.sizeOf4
 v4:=Tryz.zeroValue4
 t5:=Tryz.underlying5
 a5:=Tryz.isAgg5
 z5:=Tryz.sizeOf5
 v5:=Tryz.zeroValue5
 t9:=Tryz.underlying9
 a9:=Tryz.isAgg9
 z9:=Tryz.sizeOf9
 v9:=Tryz.zeroValue9
 t21:=Tryz.underlying21
 a21:=Tryz.isAgg21
 z21:=Tryz.sizeOf21
 v21:=Tryz.zeroValue21
 t31:=Tryz.underlying77
 a31:=Tryz.isAgg77
 z31:=Tryz.sizeOf77
 v31:=Tryz.zeroValue77
 t46:=Tryz.underlying142
 a46:=Tryz.isAgg142
 z46:=Tryz.sizeOf142
 v46:=Tryz.zeroValue142
 t51:=Tryz.underlying53
 a51:=Tryz.isAgg53
 z51:=Tryz.sizeOf53
 v51:=Tryz.zeroValue53
 t105:=Tryz.underlying350
 a105:=Tryz.isAgg350
 z105:=Tryz.sizeOf350
 v105:=Tryz.zeroValue350
 t119:=Tryz.underlying411
 a119:=Tryz.isAgg411
 z119:=Tryz.sizeOf411
 t138:=Tryz.underlying413
 a138:=Tryz.isAgg413
 z138:=Tryz.sizeOf413
 v138:=Tryz.zeroValue413
 t139:=Tryz.underlying414
 a139:=Tryz.isAgg414
 z139:=Tryz.sizeOf414
 v139:=Tryz.zeroValue414
 t146:=Tryz.underlying415
 a146:=Tryz.isAgg415
 z146:=Tryz.sizeOf415
 v146:=Tryz.zeroValue415
 g1:=by kernel_rfl
 g3:=by kernel_rfl
 g4:=by kernel_rfl }
open Go.RowKit Go.Lib in
theorem Tryz.strings_genSplit(s a:ByteArray)(b:Nat)(n:Int)(N:Nat)(m:Int)(w:World)(g:s.size<4294967281)(f:w.cell? ⟨0,0,none⟩=some (.int .i64 m))(c:1<=a.size)(j:b<=a.size)(i:n≠0)(k:n<=9223372036854775807)(d:(N:Int)=min (if n<0 then(Lib.countB s a:Int)+1 else n) ((s.size:Int)+1)) :
 Calls Tryz.prog 132 #[.string s,.string a,.int .i64 b,.int .i64 n] w λe h =>
  e=.returned (.slice (some ⟨w.heap.size,0,none⟩) (Lib.splitB a b (N-1) s).length N)/\h=w.alloc (.cells (Lib.cellsOf (Lib.splitB a b (N-1) s) N) 9):=Any.strings_genSplit Tryz.lays221 (by kernel_rfl) s a b n N m w g f c j i k d
def Tryz.lays146_ren:Go.Shelf.Ren:=⟨λ|146=>133|221=>132|268=>177|138=>178|143=>179|195=>233|197=>234|218=>235|219=>236|260=>263|217=>264|225=>265|224=>266|267=>267|266=>293|314=>294|n=>n,λ|9=>9|31=>77|3=>3|4=>4|0=>0|105=>350|21=>21|5=>5|46=>142|119=>411|139=>414|138=>413|146=>415|51=>53|n=>n,λ|1=>0|3=>1|4=>2|n=>n⟩
theorem Tryz.lays146:Go.Proofs.Lays.n146 Tryz.prog Tryz.lays146_ren:={
 mixed:=by kernel_rfl
 f138:=Tryz.func178.trans (congrArg some (by kernel_rfl))
 f143:=Tryz.func179.trans (congrArg some (by kernel_rfl))
 f146:=Tryz.func133.trans (congrArg some (by kernel_rfl))
 f195:=Tryz.func233.trans (congrArg some (by kernel_rfl))
 f197:=Tryz.func234.trans (congrArg some (by kernel_rfl))
 f217:=Tryz.func264.trans (congrArg some (by kernel_rfl))
 f218:=Tryz.func235.trans (congrArg some (by kernel_rfl))
 f219:=Tryz.func236.trans (congrArg some (by kernel_rfl))
 f221:=Tryz.func132.trans (congrArg some (by kernel_rfl))
 f224:=Tryz.func266.trans (congrArg some (by kernel_rfl))
 f225:=Tryz.func265.trans (congrArg some (by kernel_rfl))
 f260:=Tryz.func263.trans (congrArg some (by kernel_rfl))
 f266:=Tryz.func293.trans (congrArg some (by kernel_rfl))
 f267:=Tryz.func267.trans (congrArg some (by kernel_rfl))
 f268:=Tryz.func177.trans (congrArg some (by kernel_rfl))
 f314:=Tryz.func294.trans (congrArg some (by kernel_rfl))
 t0:=Tryz.underlying0
 a0:=Tryz.isAgg0
 z0:=Tryz.sizeOf0
 v0:=Tryz.zeroValue0
 t3:=Tryz.underlying3
 a3:=Tryz.isAgg3
 z3:=Tryz.sizeOf3
 v3:=Tryz.zeroValue3
 t4:=Tryz.underlying4
 a4:=Tryz.isAgg4
 z4:=Tryz.sizeOf4
 v4:=Tryz.zeroValue4
 t5:=Tryz.underlying5
 a5:=Tryz.isAgg5
 z5:=Tryz.sizeOf5
 v5:=Tryz.zeroValue5
 t9:=Tryz.underlying9
 a9:=Tryz.isAgg9
 z9:=Tryz.sizeOf9
 v9:=Tryz.zeroValue9
 t21:=Tryz.underlying21
 a21:=Tryz.isAgg21
 z21:=Tryz.sizeOf21
 v21:=Tryz.zeroValue21
 t31:=Tryz.underlying77
 a31:=Tryz.isAgg77
 z31:=Tryz.sizeOf77
 v31:=Tryz.zeroValue77
 t46:=Tryz.underlying142
 a46:=Tryz.isAgg142
 z46:=Tryz.sizeOf142
 v46:=Tryz.zeroValue142
 t51:=Tryz.underlying53
 a51:=Tryz.isAgg53
 z51:=Tryz.sizeOf53
 v51:=Tryz.zeroValue53
 t105:=Tryz.underlying350
 a105:=Tryz.isAgg350
 z105:=Tryz.sizeOf350
 v105:=Tryz.zeroValue350
 t119:=Tryz.underlying411
 a119:=Tryz.isAgg411
 z119:=Tryz.sizeOf411
 t138:=Tryz.underlying413
 a138:=Tryz.isAgg413
 z138:=Tryz.sizeOf413
 v138:=Tryz.zeroValue413
 t139:=Tryz.underlying414
 a139:=Tryz.isAgg414
 z139:=Tryz.sizeOf414
 v139:=Tryz.zeroValue414
 t146:=Tryz.underlying415
 a146:=Tryz.isAgg415
 z146:=Tryz.sizeOf415
 v146:=Tryz.zeroValue415
 g1:=by kernel_rfl
 g3:=by kernel_rfl
 g4:=by kernel_rfl }
open Go.RowKit Go.Lib in
theorem Tryz.strings_Split(s a:ByteArray)(m:Int)(w:World)(d:s.size<4294967281)(c:w.cell? ⟨0,0,none⟩=some (.int .i64 m))(b:1<=a.size) :
 Calls Tryz.prog 133 #[.string s,.string a] w λe f =>
  e=.returned (.slice (some ⟨w.heap.size,0,none⟩) (Lib.countB s a+1) (Lib.countB s a+1))/\f=w.alloc (.cells ((Lib.splitB a 0 (Lib.countB s a) s).map Value.string).toArray 9):=Any.strings_Split Tryz.lays146 (by kernel_rfl) s a m w d c b
end Go.Proofs