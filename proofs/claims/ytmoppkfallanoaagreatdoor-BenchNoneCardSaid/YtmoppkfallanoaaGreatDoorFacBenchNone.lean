/-
  The closed facts of the row of BenchNone, one by one.
-/
import Derived.Test.YtmoppkfallanoaaGreatDoorRows
import Derived.Test.YtmoppkfallanoaaGreatDoorTiC5
import Derived.Test.YtmoppkfallanoaaGreatDoorFacL
import Derived.Test.YtmoppkfallanoaaGreatDoorFacM
import Derived.Test.YtmoppkfallanoaaGreatDoorFacB
import Derived.Test.YtmoppkfallanoaaGreatDoorFacG
import Derived.KernelRfl
import Derived.SevenTiedAt
import Derived.Stop.Joined
import Derived.ProofKit
import GoSem.ClaimGoes
set_option linter.unusedVariables false
set_option maxRecDepth 100000
set_option Elab.async false
namespace Go.Proofs.YtmoppkfallanoaaGreatDoor.fac.benchNone
open Go Go.ChangeShapes Go.WideShapes Go.ChangeAt Go.RowKit
theorem unf : Tryz.prog.unfollowed 5 = true := by unfold Program.unfollowed; rw [clo.closure5]; kernel_rfl
theorem p0 : (Rows.benchNoneRow.wf (OpenSpec.ofChange Rows.benchNoneSpec)) = true := by kernel_rfl
theorem p1 : (laidOutB Tryz.prog) = true := by exact laid
theorem p2 : (mapsRowed Tryz.prog) = true := by exact mapsRowed_
theorem p3 : (Tryz.f5.params.all (Tryz.prog.readableRec ·)) = true := by kernel_rfl
theorem p4 : (namedTie Tryz.prog Rows.benchNoneRow.named Rows.benchNoneSpec.vars) = true := by kernel_rfl
theorem p5 : ((Rows.benchNoneRow.stops == [])) = true := by kernel_rfl
theorem p6 : ((Tryz.prog.stops == [])) = true := by exact stops
theorem p7 : ((Rows.benchNoneRow.knobs == [])) = true := by kernel_rfl
theorem p8 : ((Tryz.prog.stopKnobs == [])) = true := by exact knobs
theorem p9 : ((Rows.benchNoneRow.inPlace == Tryz.prog.inPlace 5)) = true := by unfold Program.inPlace; rw [clo.closure5]; kernel_rfl
theorem p10 : ((Rows.benchNoneRow.unfollowed == Tryz.prog.unfollowed 5)) = true := by rw [unf]; kernel_rfl
theorem p11 : ((Rows.benchNoneRow.recurses == Tryz.prog.recurses 5)) = true := by unfold Program.recurses; rw [unf, Bool.true_or]; kernel_rfl
theorem p12 : ((Rows.benchNoneRow.named == Tryz.prog.varsNamed 5)) = true := by unfold Program.varsNamed; rw [clo.closure5]; kernel_rfl
theorem p13 : ((Rows.benchNoneRow.maps == (Tryz.f5.params.toList ++ Rows.benchNoneSpec.plain.varTypes Tryz.prog).any (Tryz.prog.mapsRec ·))) = true := by kernel_rfl
theorem p14 : ((Rows.benchNoneRow.ifaces == (Tryz.f5.params.toList ++ Rows.benchNoneSpec.plain.varTypes Tryz.prog).any (Tryz.prog.ifacesRec ·))) = true := by kernel_rfl
theorem p15 : ((Rows.benchNoneRow.mapsOut == Tryz.prog.mapsAmong Tryz.f5.resultTypes.toList)) = true := by kernel_rfl
theorem p16 : ((Rows.benchNoneRow.loops == (Tryz.f5.params.toList ++ Rows.benchNoneSpec.plain.varTypes Tryz.prog).any (Tryz.prog.loopsFrom ·))) = true := by kernel_rfl
theorem p17 : ((Rows.benchNoneRow.wideKeys == (Tryz.f5.params.toList ++ Rows.benchNoneSpec.plain.varTypes Tryz.prog ++ Tryz.f5.resultTypes.toList).any (Tryz.prog.wideKeysFrom ·))) = true := by kernel_rfl
theorem p18 : (Rows.benchNoneSpec.vars.all (Tryz.prog.varReadable ·)) = true := by kernel_rfl
theorem p19 : (Tryz.f5.resultTypes.all (fun t => Tryz.prog.readableRec t && decide (t < Tryz.prog.types.size))) = true := by kernel_rfl
theorem p20 : ((Rows.benchNoneRow.ifacesOut == Tryz.f5.resultTypes.toList.any (Tryz.prog.ifacesRec ·))) = true := by kernel_rfl
theorem p21 : ((Rows.benchNoneRow.loopsOut == Tryz.f5.resultTypes.toList.any (Tryz.prog.loopsFrom ·))) = true := by kernel_rfl
theorem p22 : ((Rows.benchNoneRow.plainKeys == Tryz.prog.plainKeys)) = true := by kernel_rfl
theorem p23 : (Rows.benchNoneRow.shortTexts.isNone) = true := by kernel_rfl
theorem p24 : (Tryz.prog.stopsHeard) = true := by exact heard
theorem p25 : (Tryz.prog.mayEnter) = true := by exact enter
theorem p26 : ((Rows.benchNoneRow.lifted == Tryz.prog.liftsFinal)) = true := by kernel_rfl
theorem p27 : ((Tryz.prog.make == some Rows.benchNoneRow.make)) = true := by kernel_rfl
theorem p28 : ((Rows.benchNoneRow.kinds == (if Rows.benchNoneRow.domain.isEmpty then [] else Tryz.f5.params.toList.map fun t => match Tryz.prog.underlying t with | some (.int k) => some k | _ => none))) = true := by kernel_rfl
theorem p29 : ((Rows.benchNoneRow.pinned == Rows.benchNoneRow.pinnedBy)) = true := by kernel_rfl
theorem p30 : ((Rows.benchNoneRow.veiled == (Tryz.f5.params.toList ++ Rows.benchNoneSpec.plain.varTypes Tryz.prog ++ Tryz.f5.resultTypes.toList).any (Tryz.prog.veiledRec ·))) = true := by kernel_rfl
theorem p31 : (Rows.benchNoneRow.veiledFits Tryz.prog Tryz.f5.params.toList (Tryz.f5.params.toList ++ Rows.benchNoneSpec.plain.varTypes Tryz.prog ++ Tryz.f5.resultTypes.toList)) = true := by kernel_rfl
theorem joined : joinedFacts Tryz.pinned.checked.prog 5 Tryz.f5 Rows.benchNoneSpec Rows.benchNoneRow = true :=
  Bool.and_eq_true_iff.2 ⟨Bool.and_eq_true_iff.2 ⟨Bool.and_eq_true_iff.2 ⟨Bool.and_eq_true_iff.2 ⟨Bool.and_eq_true_iff.2 ⟨Bool.and_eq_true_iff.2 ⟨Bool.and_eq_true_iff.2 ⟨Bool.and_eq_true_iff.2 ⟨Bool.and_eq_true_iff.2 ⟨Bool.and_eq_true_iff.2 ⟨Bool.and_eq_true_iff.2 ⟨Bool.and_eq_true_iff.2 ⟨Bool.and_eq_true_iff.2 ⟨Bool.and_eq_true_iff.2 ⟨Bool.and_eq_true_iff.2 ⟨Bool.and_eq_true_iff.2 ⟨Bool.and_eq_true_iff.2 ⟨Bool.and_eq_true_iff.2 ⟨Bool.and_eq_true_iff.2 ⟨Bool.and_eq_true_iff.2 ⟨Bool.and_eq_true_iff.2 ⟨Bool.and_eq_true_iff.2 ⟨Bool.and_eq_true_iff.2 ⟨Bool.and_eq_true_iff.2 ⟨Bool.and_eq_true_iff.2 ⟨Bool.and_eq_true_iff.2 ⟨Bool.and_eq_true_iff.2 ⟨Bool.and_eq_true_iff.2 ⟨Bool.and_eq_true_iff.2 ⟨Bool.and_eq_true_iff.2 ⟨Bool.and_eq_true_iff.2 ⟨p0, p1⟩, p2⟩, p3⟩, p4⟩, p5⟩, p6⟩, p7⟩, p8⟩, p9⟩, p10⟩, p11⟩, p12⟩, p13⟩, p14⟩, p15⟩, p16⟩, p17⟩, p18⟩, p19⟩, p20⟩, p21⟩, p22⟩, p23⟩, p24⟩, p25⟩, p26⟩, p27⟩, p28⟩, p29⟩, p30⟩, p31⟩
theorem g1 : (clo.c5.any fun g => (Tryz.prog.funcs[g]?).any Func.goes) = false := by kernel_rfl
theorem nm : Tryz.prog.funcNamed "ostiary/ostiarylaw32.BenchNone" = some 5 := by kernel_rfl
theorem go1 : Tryz.prog.goes 5 = false := by unfold Program.goes; rw [clo.closure5, g1, g2, Bool.and_false]; rfl
theorem goes : false = Rows.benchNoneRow.goesBy Tryz.pinned.checked.prog := by
  show false = (((Tryz.prog.funcNamed "ostiary/ostiarylaw32.BenchNone").any Tryz.prog.goes) || false)
  rw [nm, Option.any_some, go1]
  rfl
end Go.Proofs.YtmoppkfallanoaaGreatDoor.fac.benchNone
