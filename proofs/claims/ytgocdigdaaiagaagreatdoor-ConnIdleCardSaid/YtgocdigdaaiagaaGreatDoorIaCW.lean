/-
  awake, which ConnIdle calls: the pieces of its run, joined: it returns true, and turns nothing that was there.
-/
import Derived.Test.YtgocdigdaaiagaaGreatDoorIaCZ
set_option linter.unusedVariables false
set_option maxRecDepth 100000
namespace Go.Proofs.YtgocdigdaaiagaaGreatDoor.idleAwake
open Go.RowKit
theorem all_ok : Tryz.prog.funcs.toList.all Sh.okFn = true := by kernel_rfl
theorem mixed : Tryz.prog.follows .mixedOrders = true := by kernel_rfl
theorem ev_ok : Sh.EnvOK Tryz.prog Ev := letI : Sh.Syms := Sh.Syms.none; Sh.envOf_ok all_ok mixed
theorem all : Sh.Leads Tryz.prog Ev st0 st0 :=
  Sh.Leads.refl Tryz.prog Ev st0
theorem walk (w : World) : Calls Tryz.prog 4 #[] w fun e w' => e = .returned (.bool true) ∧ Below w.heap.size w w' :=
  Sh.cut_true all_ok mixed first all pz w (letI : Sh.Syms := Sh.Syms.none; Sh.GlobOK.nil w)
end Go.Proofs.YtgocdigdaaiagaaGreatDoor.idleAwake
