import Derived.Test.YtoejfkeofbdalaaGreatDoorM01
import Derived.Test.YtoejfkeofbdalaaGreatDoorRows
import Derived.LaidHandle
import Derived.Lay
import Derived.Stop.Joined
import Derived.HandedShaped
import Derived.Shelf.Vars
import Derived.KernelRfl
set_option linter.all false
set_option maxRecDepth 100000
set_option maxHeartbeats 8000000
namespace Go.Proofs.YtoejfkeofbdalaaGreatDoor
open Go
def ztD:List (String × DataW Unit):=Rows.topSumsRow.laid.filter λx=>x.2.handleName?.isNone
noncomputable def handleW (os:Os):World :=
 let w:=World.holding Tryz.prog os ⟨#[],#[],[]⟩
 { w with heap:=w.heap.modify 6 fun
  | .cells _ t frozen=>.cells #[.iface (((Tryz.prog.cutTypes.find? (·.1 == "internal/reflectlite.rtype")).map (·.2)).getD 0) (.agg #[typeHandle Tryz.prog 93])] t frozen
  |o=>o }
noncomputable def laidW (os:Os):World:=(handleW os).layVars Tryz.prog ztD
theorem zx5(a:Os):(laidW a).os=a:=World.layVars_os _ _ _
theorem zjV{P:Program}{a v:World}{l:List (String × DataW Unit)}(f:v.heap=(a.layVars P l).heap)(e:a.layFits P l []=true)(g:a.layIfaces P l v=true):laidMet P l v:=by
 have b:(l.filter λx=>(l.map (·.1)).contains x.1)=l:=List.filter_eq_self.2 λx c=>List.contains_iff_mem.2 (C8.2 ⟨x,c,rfl⟩);have d:(l.filter λx=>!(l.map (·.1)).contains x.1)=[]:=List.filter_eq_nil_iff.2 λx c=>by rw[List.contains_iff_mem.2 (C8.2 ⟨x,c,rfl⟩)];simp
 exact laidMet_layVars (l.map (·.1)) [] (by rw[b];exact f) (by rw[b];exact e) (by rw[b];exact g) (by rw[d];exact LaidIn.none)
theorem zuD(b:Os)(c:Array Value):laidMetH Tryz.prog Rows.topSumsRow.laid ((laidW b).forCall (λ_ _=>0) ⟨#[],c,[]⟩).memory :=
 laidMetH_of_parts (zjV (a:=handleW b) (by simp[World.memory,World.forCall,Input.heap];rfl) Q2 Q2) Q2
theorem znB(a:Os)(b:Array Value):((laidW a).forCall (λ_ _=>0) ⟨#[],b,[]⟩).Shaped Tryz.prog:=World.shaped_of_ZipB Q2 Q2
theorem zoG(w:World)(h:w.ShapedOpen Tryz.prog):∃m,Qc w 0 0 (Qi m):=Go.Proofs.cell_of_shapedOpen_int (zero:=#[Qi 0]) (t:=3) h (Kk Q2) Q2 rfl Q2 Q2 J4
