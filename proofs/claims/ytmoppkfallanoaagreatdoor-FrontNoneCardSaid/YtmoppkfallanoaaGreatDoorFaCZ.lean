/-
  The last piece of the run of awake, which FrontNone calls.
-/
import Derived.Test.YtmoppkfallanoaaGreatDoorFaC
import Derived.KernelRfl
set_option linter.unusedVariables false
set_option maxRecDepth 100000
namespace Go.Proofs.YtmoppkfallanoaaGreatDoor.frontAwake
theorem first : Sh.startS Ev gl0 15 = some st0 := by kernel_rfl
theorem pz : Sh.runKB Ev (Sh.endOk 15) 15000 s2 = true := by kernel_rfl
end Go.Proofs.YtmoppkfallanoaaGreatDoor.frontAwake
