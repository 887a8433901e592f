/-
  Piece 4 of the run of FrontKnown.
-/
import Derived.Test.YtmoppkfallanoaaGreatDoorFkC
import Derived.KernelRfl
set_option linter.unusedVariables false
set_option maxRecDepth 100000
namespace Go.Proofs.YtmoppkfallanoaaGreatDoor.frontKnown
theorem p4 : Sh.runK' Ev 22000 s3 (fun o => o.map (Sh.keepS [1,2,4,5,6,7,32,34,35,36,37,38,39,40,41,42,43,44,45,46,47,48,147,341,593,598,604,854,1724,1727,1731,1870,1872,2192,2194,2292,2627,3007,3009,3107,3110,3111,3112,3113,3142,3143,3144,3194,3195,3196])) = some s4 := by kernel_rfl
end Go.Proofs.YtmoppkfallanoaaGreatDoor.frontKnown
