/-
  Piece 1 of the run of awake, which BenchNone calls.
-/
import Derived.Test.YtmoppkfallanoaaGreatDoorBaC
import Derived.KernelRfl
set_option linter.unusedVariables false
set_option maxRecDepth 100000
namespace Go.Proofs.YtmoppkfallanoaaGreatDoor.benchAwake
theorem p1 : Sh.runK' Ev 22000 s0 (fun o => o.map (Sh.keepS [0,51,54,132,133,134,135,160,162,163,164,165,166,167,168,169,170,171,172,173,174,175,176,416,485,513,529,539,541,542,543,544,546,651,652,654,666,770,773,844,845,846,847,848,849,850,851,852,853,854,855,856,857,858,859])) = some s1 := by kernel_rfl
end Go.Proofs.YtmoppkfallanoaaGreatDoor.benchAwake
