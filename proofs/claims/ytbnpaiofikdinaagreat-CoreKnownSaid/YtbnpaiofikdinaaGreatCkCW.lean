/-
  CoreKnown: the pieces of its run, joined: it returns true, and turns nothing that was there.
-/
import Derived.Test.YtbnpaiofikdinaaGreatCkC0
import Derived.Test.YtbnpaiofikdinaaGreatCkC1
import Derived.Test.YtbnpaiofikdinaaGreatCkCZ
set_option linter.unusedVariables false
set_option maxRecDepth 100000
namespace Go.Proofs.YtbnpaiofikdinaaGreat.coreKnown
open Go.RowKit
theorem all_ok : Tryz.prog.funcs.toList.all Sh.okFn = true := by kernel_rfl
theorem mixed : Tryz.prog.follows .mixedOrders = true := by kernel_rfl
theorem ev_ok : Sh.EnvOK Tryz.prog Ev := letI : Sh.Syms := Sh.Syms.none; Sh.envOf_ok all_ok mixed
theorem all : Sh.Leads Tryz.prog Ev st0 s1 :=
  Sh.Leads.trans (Sh.Leads.trans (Sh.Leads.refl Tryz.prog Ev st0) (Sh.leads ev_ok p0)) (Sh.leads ev_ok p1)
theorem walk (w : World) : Calls Tryz.prog 3 #[] w fun e w' => e = .returned (.bool true) ∧ Below w.heap.size w w' :=
  Sh.cut_true all_ok mixed first all pz w (letI : Sh.Syms := Sh.Syms.none; Sh.GlobOK.nil w)
end Go.Proofs.YtbnpaiofikdinaaGreat.coreKnown
