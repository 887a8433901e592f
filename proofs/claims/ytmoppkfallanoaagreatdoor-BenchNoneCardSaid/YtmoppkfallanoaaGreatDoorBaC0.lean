/-
  Piece 0 of the run of awake, which BenchNone calls.
-/
import Derived.Test.YtmoppkfallanoaaGreatDoorBaC
import Derived.KernelRfl
set_option linter.unusedVariables false
set_option maxRecDepth 100000
namespace Go.Proofs.YtmoppkfallanoaaGreatDoor.benchAwake
theorem p0 : Sh.runK' Ev 22000 st0 (fun o => o.map (Sh.keepS [0,51,54,132,133,134,135,160,162,163,164,165,166,167,168,169,170,171,172,173,174,175,176,180,181,182,183,184,185,186,187,188,189,190,191,192,195,321,323,324,325])) = some s0 := by kernel_rfl
end Go.Proofs.YtmoppkfallanoaaGreatDoor.benchAwake
