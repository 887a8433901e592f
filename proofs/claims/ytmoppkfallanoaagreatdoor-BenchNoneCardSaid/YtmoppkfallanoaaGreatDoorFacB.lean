/-
  The facts of the program alone.
-/
import Derived.Test.YtmoppkfallanoaaGreatDoorProg
import Derived.KernelRfl
import Derived.Stop.Joined
import Derived.SevenTiedAt
import GoSem.ClaimGoes
set_option linter.unusedVariables false
set_option maxRecDepth 100000
set_option Elab.async false
namespace Go.Proofs.YtmoppkfallanoaaGreatDoor.fac
open Go
theorem stops : (Tryz.prog.stops == []) = true := by kernel_rfl
theorem knobs : (Tryz.prog.stopKnobs == []) = true := by kernel_rfl
theorem heard : Tryz.prog.stopsHeard = true := by kernel_rfl
theorem enter : Tryz.prog.mayEnter = true := by kernel_rfl
end Go.Proofs.YtmoppkfallanoaaGreatDoor.fac
