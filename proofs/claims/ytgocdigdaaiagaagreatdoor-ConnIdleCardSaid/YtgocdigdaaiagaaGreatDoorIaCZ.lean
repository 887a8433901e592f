/-
  The last piece of the run of awake, which ConnIdle calls.
-/
import Derived.Test.YtgocdigdaaiagaaGreatDoorIaC
import Derived.KernelRfl
set_option linter.unusedVariables false
set_option maxRecDepth 100000
namespace Go.Proofs.YtgocdigdaaiagaaGreatDoor.idleAwake
theorem first : Sh.startS Ev gl0 4 = some st0 := by kernel_rfl
theorem pz : Sh.runKB Ev (Sh.endOk 4) 4000 st0 = true := by kernel_rfl
end Go.Proofs.YtgocdigdaaiagaaGreatDoor.idleAwake
