/-
  No function starts a goroutine.
-/
import Derived.Test.YtmoppkfallanoaaGreatDoorProg
import Derived.KernelRfl
import GoSem.ClaimGoes
set_option linter.unusedVariables false
set_option maxRecDepth 100000
set_option Elab.async false
namespace Go.Proofs.YtmoppkfallanoaaGreatDoor.fac
open Go
theorem g2 : Tryz.prog.funcs.any Func.goes = false := by kernel_rfl
end Go.Proofs.YtmoppkfallanoaaGreatDoor.fac
