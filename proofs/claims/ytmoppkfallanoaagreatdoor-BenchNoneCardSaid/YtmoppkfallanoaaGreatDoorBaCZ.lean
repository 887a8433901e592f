/-
  The last piece of the run of awake, which BenchNone calls.
-/
import Derived.Test.YtmoppkfallanoaaGreatDoorBaC
import Derived.KernelRfl
set_option linter.unusedVariables false
set_option maxRecDepth 100000
namespace Go.Proofs.YtmoppkfallanoaaGreatDoor.benchAwake
theorem first : Sh.startS Ev gl0 23 = some st0 := by kernel_rfl
theorem pz : Sh.runKB Ev (Sh.endOk 23) 1000 s1 = true := by kernel_rfl
end Go.Proofs.YtmoppkfallanoaaGreatDoor.benchAwake
