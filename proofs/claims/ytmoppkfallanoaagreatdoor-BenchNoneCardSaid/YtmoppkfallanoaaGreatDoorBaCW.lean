/-
  awake, which BenchNone calls: the pieces of its run, joined: it returns true, and turns nothing that was there.
-/
import Derived.Test.YtmoppkfallanoaaGreatDoorBaC0
import Derived.Test.YtmoppkfallanoaaGreatDoorBaC1
import Derived.Test.YtmoppkfallanoaaGreatDoorBaCZ
set_option linter.unusedVariables false
set_option maxRecDepth 100000
namespace Go.Proofs.YtmoppkfallanoaaGreatDoor.benchAwake
open Go.RowKit
theorem all_ok : Tryz.prog.funcs.toList.all Sh.okFn = true := by kernel_rfl
theorem mixed : Tryz.prog.follows .mixedOrders = true := by kernel_rfl
theorem ev_ok : Sh.EnvOK Tryz.prog Ev := letI : Sh.Syms := Sh.Syms.none; Sh.envOf_ok all_ok mixed
theorem all : Sh.Leads Tryz.prog Ev st0 s1 :=
  Sh.Leads.trans (Sh.Leads.trans (Sh.Leads.refl Tryz.prog Ev st0) (Sh.leads ev_ok p0)) (Sh.leads ev_ok p1)
theorem walk (w : World) (h : Lib.TabIs Tryz.prog w "internal/strconv.uint64pow10" .u64 [1,10,100,1000,10000,100000,1000000,10000000,100000000,1000000000,10000000000,100000000000,1000000000000,10000000000000,100000000000000,1000000000000000,10000000000000000,100000000000000000,1000000000000000000,10000000000000000000]) : Calls Tryz.prog 23 #[] w fun e w' => e = .returned (.bool true) ∧ Below w.heap.size w w' :=
  Sh.cut_true all_ok mixed first all pz w (letI : Sh.Syms := Sh.Syms.none; Sh.globOK_tab (by kernel_rfl) h)
end Go.Proofs.YtmoppkfallanoaaGreatDoor.benchAwake
