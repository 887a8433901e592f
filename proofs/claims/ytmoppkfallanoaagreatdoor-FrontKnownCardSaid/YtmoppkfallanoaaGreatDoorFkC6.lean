/-
  Piece 6 of the run of FrontKnown.
-/
import Derived.Test.YtmoppkfallanoaaGreatDoorFkC
import Derived.KernelRfl
set_option linter.unusedVariables false
set_option maxRecDepth 100000
namespace Go.Proofs.YtmoppkfallanoaaGreatDoor.frontKnown
theorem p6 : Sh.runK' Ev 22000 s5 (fun o => o.map (Sh.keepS [1,2,4,5,6,7,32,34,35,36,37,38,39,40,41,42,43,44,45,46,47,48,147,341,593,598,604,854,1724,1727,1731,1870,2192,2194,2292,2627,3007,3009,3107,3402,3514,3696,3960,3962,4282,4284,4285,4286,4287,4288,4310,4311,4312,4325,4326])) = some s6 := by kernel_rfl
end Go.Proofs.YtmoppkfallanoaaGreatDoor.frontKnown
