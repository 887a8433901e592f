/-
  Piece 0 of the run of awake, which FrontNone calls.
-/
import Derived.Test.YtmoppkfallanoaaGreatDoorFaC
import Derived.KernelRfl
set_option linter.unusedVariables false
set_option maxRecDepth 100000
namespace Go.Proofs.YtmoppkfallanoaaGreatDoor.frontAwake
theorem p0 : Sh.runK' Ev 22000 st0 (fun o => o.map (Sh.keepS [1,2,4,5,6,7,32,34,35,36,37,38,39,40,41,42,43,44,45,46,47,48,147,150,151,152,244,313,341,342,343,345,346,347,357,367,369,370,371,372,374,375,376,453,454,479,480,482,486,487,492,493,494,496,497,498,499,511,546,547,548,549,550,551,577,579,584,585,586])) = some s0 := by kernel_rfl
end Go.Proofs.YtmoppkfallanoaaGreatDoor.frontAwake
