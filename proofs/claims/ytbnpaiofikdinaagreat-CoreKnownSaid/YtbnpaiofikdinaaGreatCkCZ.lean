/-
  The last piece of the run of CoreKnown.
-/
import Derived.Test.YtbnpaiofikdinaaGreatCkC
import Derived.KernelRfl
set_option linter.unusedVariables false
set_option maxRecDepth 100000
namespace Go.Proofs.YtbnpaiofikdinaaGreat.coreKnown
theorem first : Sh.startS Ev gl0 3 = some st0 := by kernel_rfl
theorem pz : Sh.runKB Ev (Sh.endOk 3) 17000 s1 = true := by kernel_rfl
end Go.Proofs.YtbnpaiofikdinaaGreat.coreKnown
