/-
  The last piece of the run of FrontKnown.
-/
import Derived.Test.YtmoppkfallanoaaGreatDoorFkC
import Derived.KernelRfl
set_option linter.unusedVariables false
set_option maxRecDepth 100000
namespace Go.Proofs.YtmoppkfallanoaaGreatDoor.frontKnown
theorem first : Sh.startS Ev gl0 3 = some st0 := by kernel_rfl
theorem pz : Sh.runKB Ev (Sh.endOk 3) 9000 s10 = true := by kernel_rfl
end Go.Proofs.YtmoppkfallanoaaGreatDoor.frontKnown
