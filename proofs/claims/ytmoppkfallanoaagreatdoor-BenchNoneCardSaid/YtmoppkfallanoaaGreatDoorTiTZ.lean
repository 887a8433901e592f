/-
  The closure of the calls, of each function that is asked for.
-/
import Derived.Test.YtmoppkfallanoaaGreatDoorTiT0
import Derived.Test.YtmoppkfallanoaaGreatDoorTiT1
import Derived.Test.YtmoppkfallanoaaGreatDoorTiT2
import Derived.Test.YtmoppkfallanoaaGreatDoorTiT3
import Derived.Test.YtmoppkfallanoaaGreatDoorTiT4
import Derived.Test.YtmoppkfallanoaaGreatDoorTiT5
import Derived.Test.YtmoppkfallanoaaGreatDoorTiT6
import Derived.Test.YtmoppkfallanoaaGreatDoorTiT7
import Derived.Test.YtmoppkfallanoaaGreatDoorTiT8
import Derived.Test.YtmoppkfallanoaaGreatDoorTiT9
set_option linter.unusedVariables false
set_option maxRecDepth 100000
namespace Go.Proofs.YtmoppkfallanoaaGreatDoor.clo
open Go
theorem d10 : (Tryz.prog.funcs.toList.drop 700).map Tryz.prog.leadsTo = [] := by kernel_rfl
theorem d9 : (Tryz.prog.funcs.toList.drop 630).map Tryz.prog.leadsTo = tb9 ++ [] := chunks 630 70 t9 d10
theorem d8 : (Tryz.prog.funcs.toList.drop 560).map Tryz.prog.leadsTo = tb8 ++ (tb9 ++ []) := chunks 560 70 t8 d9
theorem d7 : (Tryz.prog.funcs.toList.drop 490).map Tryz.prog.leadsTo = tb7 ++ (tb8 ++ (tb9 ++ [])) := chunks 490 70 t7 d8
theorem d6 : (Tryz.prog.funcs.toList.drop 420).map Tryz.prog.leadsTo = tb6 ++ (tb7 ++ (tb8 ++ (tb9 ++ []))) := chunks 420 70 t6 d7
theorem d5 : (Tryz.prog.funcs.toList.drop 350).map Tryz.prog.leadsTo = tb5 ++ (tb6 ++ (tb7 ++ (tb8 ++ (tb9 ++ [])))) := chunks 350 70 t5 d6
theorem d4 : (Tryz.prog.funcs.toList.drop 280).map Tryz.prog.leadsTo = tb4 ++ (tb5 ++ (tb6 ++ (tb7 ++ (tb8 ++ (tb9 ++ []))))) := chunks 280 70 t4 d5
theorem d3 : (Tryz.prog.funcs.toList.drop 210).map Tryz.prog.leadsTo = tb3 ++ (tb4 ++ (tb5 ++ (tb6 ++ (tb7 ++ (tb8 ++ (tb9 ++ [])))))) := chunks 210 70 t3 d4
theorem d2 : (Tryz.prog.funcs.toList.drop 140).map Tryz.prog.leadsTo = tb2 ++ (tb3 ++ (tb4 ++ (tb5 ++ (tb6 ++ (tb7 ++ (tb8 ++ (tb9 ++ []))))))) := chunks 140 70 t2 d3
theorem d1 : (Tryz.prog.funcs.toList.drop 70).map Tryz.prog.leadsTo = tb1 ++ (tb2 ++ (tb3 ++ (tb4 ++ (tb5 ++ (tb6 ++ (tb7 ++ (tb8 ++ (tb9 ++ [])))))))) := chunks 70 70 t1 d2
theorem d0 : (Tryz.prog.funcs.toList.drop 0).map Tryz.prog.leadsTo = tb0 ++ (tb1 ++ (tb2 ++ (tb3 ++ (tb4 ++ (tb5 ++ (tb6 ++ (tb7 ++ (tb8 ++ (tb9 ++ []))))))))) := chunks 0 70 t0 d1
theorem all : Tryz.prog.funcs.toList.map Tryz.prog.leadsTo = tb := by
  have h := d0
  rw [List.drop_zero] at h
  exact h.trans (by kernel_rfl)
theorem fuel : 1 + (tb.map fun l => l.length + 1).sum = 1968 := by kernel_rfl
end Go.Proofs.YtmoppkfallanoaaGreatDoor.clo
