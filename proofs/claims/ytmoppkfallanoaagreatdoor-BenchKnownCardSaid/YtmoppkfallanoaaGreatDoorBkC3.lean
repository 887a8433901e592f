/-
  Piece 3 of the run of BenchKnown.
-/
import Derived.Test.YtmoppkfallanoaaGreatDoorBkC
import Derived.KernelRfl
set_option linter.unusedVariables false
set_option maxRecDepth 100000
namespace Go.Proofs.YtmoppkfallanoaaGreatDoor.benchKnown
theorem p3 : Sh.runK' Ev 22000 s2 (fun o => o.map (Sh.keepS [0,51,54,132,133,134,135,160,162,163,164,165,166,167,168,169,170,171,172,173,174,175,176,416,485,513,529,539,541,542,543,544,546,651,652,654,666,765,770,773,776,838,1046,1047,1098,1101,1179,1180,1181,1182,1207,1209,1210,1211,1212,1213,1214,1215,1216,1217,1218,1219,1220,1221,1222,1223,1227,1228,1229,1230,1231,1232,1233,1234,1235,1236,1237,1238,1239,1242,1368,1370,1371,1372,1373,1374,1375,1376,1377,1378,1379,1380,1381,1382,1383,1384,1397,1398])) = some s3 := by kernel_rfl
end Go.Proofs.YtmoppkfallanoaaGreatDoor.benchKnown
