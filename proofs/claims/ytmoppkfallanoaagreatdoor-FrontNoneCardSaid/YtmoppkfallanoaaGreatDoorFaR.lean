/-
  The run of FrontNone: its arguments unknown, awake taken by contract.
-/
import Derived.Test.YtmoppkfallanoaaGreatDoorSiG
import Derived.Test.YtmoppkfallanoaaGreatDoorProg
import Derived.KernelRfl
set_option maxRecDepth 100000
set_option Elab.async false
namespace Go.Proofs.YtmoppkfallanoaaGreatDoor.frontNone
open Go
theorem all_ok : Tryz.prog.funcs.toList.all Sh.okFn = true := by kernel_rfl
theorem mixed : Tryz.prog.follows .mixedOrders = true := by kernel_rfl
/-- Of this argument the types of its cells alone are known. -/
def a0 : Sh.SV := .agg [.sym 1 (.int .i64), .sym 2 (.int .i64), .sym 3 (.int .i64), .sym 4 (.int .i64), .sym 5 (.int .i64), .sym 6 (.int .i64), .sym 7 .slice]
theorem arg0 : Sh.symArg Tryz.prog 36 1 = some a0 := by kernel_rfl
/-- Of this argument the types of its cells alone are known. -/
def a1 : Sh.SV := .sym 101 (.int .i64)
theorem arg1 : Sh.symArg Tryz.prog 3 101 = some a1 := by kernel_rfl
theorem goes : Sh.goes (Sh.envOf Tryz.prog (Sh.orcTrue 15)) [] [] 4 [a0, a1] Sh.isTrue 2000 = true := by kernel_rfl
end Go.Proofs.YtmoppkfallanoaaGreatDoor.frontNone
