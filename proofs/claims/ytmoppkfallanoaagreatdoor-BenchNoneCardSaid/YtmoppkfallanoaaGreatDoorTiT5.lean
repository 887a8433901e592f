/-
  What each function leads to: part 5.
-/
import Derived.Test.YtmoppkfallanoaaGreatDoorTiT
set_option linter.unusedVariables false
set_option maxRecDepth 100000
namespace Go.Proofs.YtmoppkfallanoaaGreatDoor.clo
open Go
theorem t5 : ((Tryz.prog.funcs.toList.drop 350).take 70).map Tryz.prog.leadsTo = tb5 := by kernel_rfl
end Go.Proofs.YtmoppkfallanoaaGreatDoor.clo
