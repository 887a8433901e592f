/-
  What each function leads to: part 1.
-/
import Derived.Test.YtmoppkfallanoaaGreatDoorTiT
set_option linter.unusedVariables false
set_option maxRecDepth 100000
namespace Go.Proofs.YtmoppkfallanoaaGreatDoor.clo
open Go
theorem t1 : ((Tryz.prog.funcs.toList.drop 70).take 70).map Tryz.prog.leadsTo = tb1 := by kernel_rfl
end Go.Proofs.YtmoppkfallanoaaGreatDoor.clo
