/-
  Piece 1 of the run of awake, which FrontNone calls.
-/
import Derived.Test.YtmoppkfallanoaaGreatDoorFaC
import Derived.KernelRfl
set_option linter.unusedVariables false
set_option maxRecDepth 100000
namespace Go.Proofs.YtmoppkfallanoaaGreatDoor.frontAwake
theorem p1 : Sh.runK' Ev 22000 s0 (fun o => o.map (Sh.keepS [1,2,4,5,6,7,32,34,35,36,37,38,39,40,41,42,43,44,45,46,47,48,147,244,313,341,357,367,369,370,371,372,374,479,480,482,494,593,598,601,604,854,855,856,857,972,974,1031,1112,1113,1114,1115,1116,1117,1118,1119,1157,1192,1193,1194,1195,1196,1197,1223,1225,1226])) = some s1 := by kernel_rfl
end Go.Proofs.YtmoppkfallanoaaGreatDoor.frontAwake
