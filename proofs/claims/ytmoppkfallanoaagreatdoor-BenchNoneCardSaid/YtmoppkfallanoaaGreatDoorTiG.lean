/-
  The tie of the package-level variables, in parts, since one text of all facts passes the limit of memory: what is pinned.
-/
import Derived.Test.YtmoppkfallanoaaGreatDoorRows
import Derived.LaidByTextLater
import Derived.SevenTiedAt
namespace Go.Proofs.YtmoppkfallanoaaGreatDoor.ties
open Go
theorem pin_laid_unicode_utf8_first : Tryz.pinned.checked.prog.pinnedFits "unicode/utf8.first" = true := by kernel_rfl
end Go.Proofs.YtmoppkfallanoaaGreatDoor.ties
