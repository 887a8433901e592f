/-
  Piece 7 of the run of FrontKnown.
-/
import Derived.Test.YtmoppkfallanoaaGreatDoorFkC
import Derived.KernelRfl
set_option linter.unusedVariables false
set_option maxRecDepth 100000
namespace Go.Proofs.YtmoppkfallanoaaGreatDoor.frontKnown
theorem p7 : Sh.runK' Ev 22000 s6 (fun o => o.map (Sh.keepS [1,2,4,5,6,7,32,34,35,36,37,38,39,40,41,42,43,44,45,46,47,48,147,341,593,598,604,854,1724,1727,1731,1870,2192,2194,2292,2627,3007,3009,3107,3402,3514,3696,3960,3962,4282,4284,4335,4336,4337,4343,4345,4429,4589,4643,4645,4650,4651,4653,4654,4655,4656,4681,4683,4684,4685,4686,4687,4688,4689,4690,4691,4692,4693,4694,4695,4696,4697,4796,4799,4800,4801,4802,4831,4832,4833,4834,4835,4836,4837,4838,4839,4840,4841,4842,4843,4844,4845,4846,4847])) = some s7 := by kernel_rfl
end Go.Proofs.YtmoppkfallanoaaGreatDoor.frontKnown
