/-
  awake, which TaskNone calls: the pieces of its run, joined: it returns true, and turns nothing that was there.
-/
import Derived.Test.YtbiaiionecpdgaaTaCZ
set_option linter.unusedVariables false
set_option maxRecDepth 100000
namespace Go.Proofs.Ytbiaiionecpdgaa.taskAwake
open Go.RowKit
theorem all_ok : Try.prog.funcs.toList.all Sh.okFn = true := by kernel_rfl
theorem mixed : Try.prog.follows .mixedOrders = true := by kernel_rfl
theorem ev_ok : Sh.EnvOK Try.prog Ev := letI : Sh.Syms := Sh.Syms.none; Sh.envOf_ok all_ok mixed
theorem all : Sh.Leads Try.prog Ev st0 st0 :=
  Sh.Leads.refl Try.prog Ev st0
theorem walk (w : World) : Calls Try.prog 21 #[] w fun e w' => e = .returned (.bool true) ∧ Below w.heap.size w w' :=
  Sh.cut_true all_ok mixed first all pz w (letI : Sh.Syms := Sh.Syms.none; Sh.GlobOK.nil w)
end Go.Proofs.Ytbiaiionecpdgaa.taskAwake
