/-
  Piece 1 of the run of CoreKnown.
-/
import Derived.Test.YtbnpaiofikdinaaGreatCkC
import Derived.KernelRfl
set_option linter.unusedVariables false
set_option maxRecDepth 100000
namespace Go.Proofs.YtbnpaiofikdinaaGreat.coreKnown
theorem p1 : Sh.runK' Ev 22000 s0 (fun o => o.map (Sh.keepS [1,2,26,28,29,30,31,32,33,280,287,342,352,354,355,374,375,482,483,485,497,596,599,601,604,605,855,1216,1219,1223,1306,1307,1308,1309,1310,1313,1315,1320,1322,1324,1333,1343,1353,1355,1356,1375,1376,1378,1379,1380,1383,1384,1409])) = some s1 := by kernel_rfl
end Go.Proofs.YtbnpaiofikdinaaGreat.coreKnown
