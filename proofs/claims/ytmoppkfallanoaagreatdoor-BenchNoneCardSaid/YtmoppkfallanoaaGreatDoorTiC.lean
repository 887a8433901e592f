/-
  The tie of the package-level variables, in parts, since one text of all facts passes the limit of memory: the run ends.
-/
import Derived.Test.YtmoppkfallanoaaGreatDoorRows
import Derived.LaidByTextLater
import Derived.SevenTiedAt
namespace Go.Proofs.YtmoppkfallanoaaGreatDoor.ties
open Go
theorem f7 : ∀ os tape, varsDone Tryz.prog 400 (varsId Tryz.prog) os tape = true := fun _ _ => by kernel_rfl
end Go.Proofs.YtmoppkfallanoaaGreatDoor.ties
