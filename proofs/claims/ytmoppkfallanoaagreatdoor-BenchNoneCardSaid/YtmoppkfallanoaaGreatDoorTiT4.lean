/-
  What each function leads to: part 4.
-/
import Derived.Test.YtmoppkfallanoaaGreatDoorTiT
set_option linter.unusedVariables false
set_option maxRecDepth 100000
namespace Go.Proofs.YtmoppkfallanoaaGreatDoor.clo
open Go
theorem t4 : ((Tryz.prog.funcs.toList.drop 280).take 70).map Tryz.prog.leadsTo = tb4 := by kernel_rfl
end Go.Proofs.YtmoppkfallanoaaGreatDoor.clo
