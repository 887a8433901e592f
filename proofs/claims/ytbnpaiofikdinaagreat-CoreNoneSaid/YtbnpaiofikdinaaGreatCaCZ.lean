/-
  The last piece of the run of awake, which CoreNone calls.
-/
import Derived.Test.YtbnpaiofikdinaaGreatCaC
import Derived.KernelRfl
set_option linter.unusedVariables false
set_option maxRecDepth 100000
namespace Go.Proofs.YtbnpaiofikdinaaGreat.coreAwake
theorem first : Sh.startS Ev gl0 16 = some st0 := by kernel_rfl
theorem pz : Sh.runKB Ev (Sh.endOk 16) 12000 st0 = true := by kernel_rfl
end Go.Proofs.YtbnpaiofikdinaaGreat.coreAwake
