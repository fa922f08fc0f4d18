/- The closed facts of the whole program: the type table's out of 'Checked', the others one by one. -/
import Derived.Test.YtlkimpjcgcacdaaGreatDoorChecked
import Derived.ClosedOfChecked
import Derived.JoinedOf
import GoSem.ClaimGoes
import Derived.KernelRfl
namespace Go.Proofs.YtlkimpjcgcacdaaGreatDoor.Closed
open Go
theorem types : Tryz.prog.types = Tryz.src.types := by kernel_rfl
theorem spec : ClosedOfChecked.AllSpec Tryz.prog := ClosedOfChecked.allSpec_of Tryz.wellFormed types
theorem rest : (Tryz.prog.globals.all (fun g => decide (g.type < Tryz.prog.types.size)) && Tryz.prog.funcs.all (fun f => f.params.all fun t => decide (t < Tryz.prog.types.size))) = true := by kernel_rfl
theorem laidOut : laidOutB Tryz.prog = true := ClosedOfChecked.laidOutB_of spec rest
theorem mapsRowed : mapsRowed Tryz.prog = true := ClosedOfChecked.mapsRowed_of spec
theorem stops : Tryz.prog.stops = [] := by kernel_rfl
theorem stopKnobs : Tryz.prog.stopKnobs = [] := by kernel_rfl
theorem stopsHeard : Tryz.prog.stopsHeard = true := by kernel_rfl
theorem mayEnter : Tryz.prog.mayEnter = true := by kernel_rfl
theorem noGo : Tryz.prog.funcs.any Func.goes = false := by kernel_rfl
theorem plainKeys : Tryz.prog.plainKeys = false := by kernel_rfl
end Go.Proofs.YtlkimpjcgcacdaaGreatDoor.Closed
