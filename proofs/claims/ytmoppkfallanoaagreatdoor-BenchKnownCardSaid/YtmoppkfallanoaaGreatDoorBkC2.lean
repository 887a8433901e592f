/-
  Piece 2 of the run of BenchKnown.
-/
import Derived.Test.YtmoppkfallanoaaGreatDoorBkC
import Derived.KernelRfl
set_option linter.unusedVariables false
set_option maxRecDepth 100000
namespace Go.Proofs.YtmoppkfallanoaaGreatDoor.benchKnown
theorem p2 : Sh.runK' Ev 22000 s1 (fun o => o.map (Sh.keepS [0,51,54,132,133,134,135,160,162,163,164,165,166,167,168,169,170,171,172,173,174,175,176,416,485,513,529,539,541,542,543,544,546,651,652,654,666,765,770,773,776,838,1046,1047,1048,1049,1050,1051,1052,1053,1054,1055,1056,1057,1058,1059,1060,1061])) = some s2 := by kernel_rfl
end Go.Proofs.YtmoppkfallanoaaGreatDoor.benchKnown
