/-
  The last piece of the run of awake, which TaskNone calls.
-/
import Derived.Test.YtbiaiionecpdgaaTaC
import Derived.KernelRfl
set_option linter.unusedVariables false
set_option maxRecDepth 100000
namespace Go.Proofs.Ytbiaiionecpdgaa.taskAwake
theorem first : Sh.startS Ev gl0 21 = some st0 := by kernel_rfl
theorem pz : Sh.runKB Ev (Sh.endOk 21) 5000 st0 = true := by kernel_rfl
end Go.Proofs.Ytbiaiionecpdgaa.taskAwake
