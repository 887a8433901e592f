/-
  The last piece of the run of BenchKnown.
-/
import Derived.Test.YtmoppkfallanoaaGreatDoorBkC
import Derived.KernelRfl
set_option linter.unusedVariables false
set_option maxRecDepth 100000
namespace Go.Proofs.YtmoppkfallanoaaGreatDoor.benchKnown
theorem first : Sh.startS Ev gl0 6 = some st0 := by kernel_rfl
theorem pz : Sh.runKB Ev (Sh.endOk 6) 7000 s4 = true := by kernel_rfl
end Go.Proofs.YtmoppkfallanoaaGreatDoor.benchKnown
