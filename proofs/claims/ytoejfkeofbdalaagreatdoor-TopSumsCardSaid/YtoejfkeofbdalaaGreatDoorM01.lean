import Derived.Test.YtoejfkeofbdalaaGreatDoorRows
import Derived.LaidHandle
import Derived.Lay
import Derived.Stop.Joined
import Derived.HandedShaped
import Derived.Shelf.Vars
import Derived.KernelRfl
set_option linter.unusedVariables false
set_option maxRecDepth 100000
set_option maxHeartbeats 8000000
namespace Go.Proofs.YtoejfkeofbdalaaGreatDoor
open Go
def zro:List (String × DataW Unit):=Rows.topSumsRow.laid.filter fun x=>x.2.handleName?.isNone
noncomputable def handleW (os:Os):World :=
  let w:=World.holding Tryz.prog os ⟨#[],#[],[]⟩
  { w with heap:=w.heap.modify 6 fun
      | .cells _ t frozen=>.cells #[.iface (((Tryz.prog.cutTypes.find? (·.1 == "internal/reflectlite.rtype")).map (·.2)).getD 0) (.agg #[typeHandle Tryz.prog 93])] t frozen
      | o=>o }
noncomputable def laidW (os:Os):World:=(handleW os).layVars Tryz.prog zro
theorem ztv (os:Os):(laidW os).os=os:=World.layVars_os _ _ _
theorem zih {P:Program} {a b:World} {l:List (String × DataW Unit)} (hh:b.heap=(a.layVars P l).heap) (hf:a.layFits P l []=true) (hi:a.layIfaces P l b=true):laidMet P l b:=by
  have e1:(l.filter fun x=>(l.map (·.1)).contains x.1)=l:=List.filter_eq_self.2 fun x hx=>List.contains_iff_mem.2 (List.mem_map.2 ⟨x,hx,rfl⟩);have e2:(l.filter fun x=>!(l.map (·.1)).contains x.1)=[]:=List.filter_eq_nil_iff.2 fun x hx=>by rw[List.contains_iff_mem.2 (List.mem_map.2 ⟨x,hx,rfl⟩)];simp
  exact laidMet_layVars (l.map (·.1)) [] (by rw[e1];exact hh) (by rw[e1];exact hf) (by rw[e1];exact hi) (by rw[e2];exact LaidIn.none)
theorem zqx (os:Os) (args:Array Value):laidMetH Tryz.prog Rows.topSumsRow.laid ((laidW os).forCall (fun _ _=>0) ⟨#[],args,[]⟩).memory :=
  laidMetH_of_parts (zih (a:=handleW os) (by simp[World.memory,World.forCall,Input.heap];rfl) (by kernel_rfl) (by kernel_rfl)) (by kernel_rfl)
theorem zlB (os:Os) (args:Array Value):((laidW os).forCall (fun _ _=>0) ⟨#[],args,[]⟩).Shaped Tryz.prog:=World.shaped_of_ZipB (by kernel_rfl) (by kernel_rfl)
theorem zms (w:World) (h:w.ShapedOpen Tryz.prog):∃ m,w.cell? ⟨0,0,none⟩=some (.int .i64 m):=Go.Proofs.cell_of_shapedOpen_int (zero:=#[.int .i64 0]) (t:=3) h (of_decide_eq_true (by kernel_rfl)) (by kernel_rfl) rfl (by kernel_rfl) (by kernel_rfl) Tryz.underlying3
end Go.Proofs.YtoejfkeofbdalaaGreatDoor
