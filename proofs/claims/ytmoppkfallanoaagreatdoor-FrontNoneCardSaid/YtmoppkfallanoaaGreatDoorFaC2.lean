/-
  Piece 2 of the run of awake, which FrontNone calls.
-/
import Derived.Test.YtmoppkfallanoaaGreatDoorFaC
import Derived.KernelRfl
set_option linter.unusedVariables false
set_option maxRecDepth 100000
namespace Go.Proofs.YtmoppkfallanoaaGreatDoor.frontAwake
theorem p2 : Sh.runK' Ev 22000 s1 (fun o => o.map (Sh.keepS [1,2,4,5,6,7,32,34,35,36,37,38,39,40,41,42,43,44,45,46,47,48,147,244,313,341,593,598,601,604,854,855,856,857,1724,1727,1731,1812,1814,1816,1817,1818,1819,1822,1823,1824,1827,1828,1830,1847,1848,1849,1870,1872,1873,1874])) = some s2 := by kernel_rfl
end Go.Proofs.YtmoppkfallanoaaGreatDoor.frontAwake
