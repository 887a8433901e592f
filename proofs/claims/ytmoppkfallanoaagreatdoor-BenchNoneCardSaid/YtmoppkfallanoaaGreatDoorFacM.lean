/-
  mapsRowed of the program.
-/
import Derived.Test.YtmoppkfallanoaaGreatDoorProg
import Derived.KernelRfl
import Derived.Stop.Joined
import Derived.SevenTiedAt
set_option linter.unusedVariables false
set_option maxRecDepth 100000
set_option Elab.async false
namespace Go.Proofs.YtmoppkfallanoaaGreatDoor.fac
open Go
theorem mapsRowed_ : mapsRowed Tryz.prog = true := by kernel_rfl
end Go.Proofs.YtmoppkfallanoaaGreatDoor.fac
