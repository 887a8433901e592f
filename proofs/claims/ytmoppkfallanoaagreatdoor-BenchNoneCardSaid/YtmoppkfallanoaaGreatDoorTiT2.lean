/-
  What each function leads to: part 2.
-/
import Derived.Test.YtmoppkfallanoaaGreatDoorTiT
set_option linter.unusedVariables false
set_option maxRecDepth 100000
namespace Go.Proofs.YtmoppkfallanoaaGreatDoor.clo
open Go
theorem t2 : ((Tryz.prog.funcs.toList.drop 140).take 70).map Tryz.prog.leadsTo = tb2 := by kernel_rfl
end Go.Proofs.YtmoppkfallanoaaGreatDoor.clo
