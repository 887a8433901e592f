/-
  Piece 4 of the run of BenchKnown.
-/
import Derived.Test.YtmoppkfallanoaaGreatDoorBkC
import Derived.KernelRfl
set_option linter.unusedVariables false
set_option maxRecDepth 100000
namespace Go.Proofs.YtmoppkfallanoaaGreatDoor.benchKnown
theorem p4 : Sh.runK' Ev 22000 s3 (fun o => o.map (Sh.keepS [0,51,54,132,133,134,135,160,162,163,164,165,166,167,168,169,170,171,172,173,174,175,176,416,485,513,529,539,541,542,543,544,546,651,652,654,666,765,770,773,776,838,1046,1047,1098,1101,1179,1180,1181,1182,1207,1209,1210,1211,1212,1213,1214,1215,1216,1217,1218,1219,1220,1221,1222,1223,1463,1532,1560,1576,1586,1588,1589,1590,1591,1593,1698,1699,1701,1713,1817,1820,1891,1892,1893,1894,1895,1896,1897,1898,1899,1900,1901,1902,1903,1904,1905,1910,1911,1912])) = some s4 := by kernel_rfl
end Go.Proofs.YtmoppkfallanoaaGreatDoor.benchKnown
