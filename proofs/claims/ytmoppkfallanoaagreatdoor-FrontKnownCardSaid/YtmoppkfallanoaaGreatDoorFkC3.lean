/-
  Piece 3 of the run of FrontKnown.
-/
import Derived.Test.YtmoppkfallanoaaGreatDoorFkC
import Derived.KernelRfl
set_option linter.unusedVariables false
set_option maxRecDepth 100000
namespace Go.Proofs.YtmoppkfallanoaaGreatDoor.frontKnown
theorem p3 : Sh.runK' Ev 22000 s2 (fun o => o.map (Sh.keepS [1,2,4,5,6,7,32,34,35,36,37,38,39,40,41,42,43,44,45,46,47,48,147,341,593,598,601,604,854,1724,1727,1731,1870,1872,2192,2194,2292,2295,2296,2297,2389,2458,2489,2490,2492,2493,2494,2495,2504,2505,2514,2515,2516,2517])) = some s3 := by kernel_rfl
end Go.Proofs.YtmoppkfallanoaaGreatDoor.frontKnown
