/-
  The run of BenchNone: its arguments unknown, awake taken by contract.
-/
import Derived.Test.YtmoppkfallanoaaGreatDoorSiG
import Derived.Test.YtmoppkfallanoaaGreatDoorProg
import Derived.KernelRfl
set_option maxRecDepth 100000
set_option Elab.async false
namespace Go.Proofs.YtmoppkfallanoaaGreatDoor.benchNone
open Go
theorem all_ok : Tryz.prog.funcs.toList.all Sh.okFn = true := by kernel_rfl
theorem mixed : Tryz.prog.follows .mixedOrders = true := by kernel_rfl
/-- Of this argument the types of its cells alone are known. -/
def a0 : Sh.SV := .sym 1 .string
theorem arg0 : Sh.symArg Tryz.prog 9 1 = some a0 := by kernel_rfl
theorem goes : Sh.goes (Sh.envOf Tryz.prog (Sh.orcTrue 23)) [] [] 5 [a0] Sh.isTrue 1000 = true := by kernel_rfl
end Go.Proofs.YtmoppkfallanoaaGreatDoor.benchNone
