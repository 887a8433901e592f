/-
  Piece 0 of the run of CoreKnown.
-/
import Derived.Test.YtbnpaiofikdinaaGreatCkC
import Derived.KernelRfl
set_option linter.unusedVariables false
set_option maxRecDepth 100000
namespace Go.Proofs.YtbnpaiofikdinaaGreat.coreKnown
theorem p0 : Sh.runK' Ev 22000 st0 (fun o => o.map (Sh.keepS [1,2,26,28,29,30,31,32,33,44,54,56,57,59,166,167,169,181,280,287,331,342,352,354,355,374,375,377,482,483,485,497,596,599,601,604,605,606,607,608,609,610,611,649,684,685,686,687,688,689])) = some s0 := by kernel_rfl
end Go.Proofs.YtbnpaiofikdinaaGreat.coreKnown
