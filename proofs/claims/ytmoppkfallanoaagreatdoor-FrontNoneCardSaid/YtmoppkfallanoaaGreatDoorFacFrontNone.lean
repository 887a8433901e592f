/-
  The closed facts of the row of FrontNone, one by one.
-/
import Derived.Test.YtmoppkfallanoaaGreatDoorRows
import Derived.Test.YtmoppkfallanoaaGreatDoorTiC4
import Derived.Test.YtmoppkfallanoaaGreatDoorFacL
import Derived.Test.YtmoppkfallanoaaGreatDoorFacM
import Derived.Test.YtmoppkfallanoaaGreatDoorFacB
import Derived.Test.YtmoppkfallanoaaGreatDoorFacG
import Derived.KernelRfl
import Derived.SevenTiedAt
import Derived.Stop.Joined
import Derived.ProofKit
import GoSem.ClaimGoes
set_option linter.unusedVariables false
set_option maxRecDepth 100000
set_option Elab.async false
namespace Go.Proofs.YtmoppkfallanoaaGreatDoor.fac.frontNone
open Go Go.ChangeShapes Go.WideShapes Go.ChangeAt Go.RowKit
theorem unf : Tryz.prog.unfollowed 4 = true := by unfold Program.unfollowed; rw [clo.closure4]; kernel_rfl
theorem p0 : (Rows.frontNoneRow.wf (OpenSpec.ofChange Rows.frontNoneSpec)) = true := by kernel_rfl
theorem p1 : (laidOutB Tryz.prog) = true := by exact laid
theorem p2 : (mapsRowed Tryz.prog) = true := by exact mapsRowed_
theorem p3 : (Tryz.f4.params.all (Tryz.prog.readableRec ·)) = true := by kernel_rfl
theorem p4 : (namedTie Tryz.prog Rows.frontNoneRow.named Rows.frontNoneSpec.vars) = true := by kernel_rfl
theorem p5 : ((Rows.frontNoneRow.stops == [])) = true := by kernel_rfl
theorem p6 : ((Tryz.prog.stops == [])) = true := by exact stops
theorem p7 : ((Rows.frontNoneRow.knobs == [])) = true := by kernel_rfl
theorem p8 : ((Tryz.prog.stopKnobs == [])) = true := by exact knobs
theorem p9 : ((Rows.frontNoneRow.inPlace == Tryz.prog.inPlace 4)) = true := by unfold Program.inPlace; rw [clo.closure4]; kernel_rfl
theorem p10 : ((Rows.frontNoneRow.unfollowed == Tryz.prog.unfollowed 4)) = true := by rw [unf]; kernel_rfl
theorem p11 : ((Rows.frontNoneRow.recurses == Tryz.prog.recurses 4)) = true := by unfold Program.recurses; rw [unf, Bool.true_or]; kernel_rfl
theorem p12 : ((Rows.frontNoneRow.named == Tryz.prog.varsNamed 4)) = true := by unfold Program.varsNamed; rw [clo.closure4]; kernel_rfl
theorem p13 : ((Rows.frontNoneRow.maps == (Tryz.f4.params.toList ++ Rows.frontNoneSpec.plain.varTypes Tryz.prog).any (Tryz.prog.mapsRec ·))) = true := by kernel_rfl
theorem p14 : ((Rows.frontNoneRow.ifaces == (Tryz.f4.params.toList ++ Rows.frontNoneSpec.plain.varTypes Tryz.prog).any (Tryz.prog.ifacesRec ·))) = true := by kernel_rfl
theorem p15 : ((Rows.frontNoneRow.mapsOut == Tryz.prog.mapsAmong Tryz.f4.resultTypes.toList)) = true := by kernel_rfl
theorem p16 : ((Rows.frontNoneRow.loops == (Tryz.f4.params.toList ++ Rows.frontNoneSpec.plain.varTypes Tryz.prog).any (Tryz.prog.loopsFrom ·))) = true := by kernel_rfl
theorem p17 : ((Rows.frontNoneRow.wideKeys == (Tryz.f4.params.toList ++ Rows.frontNoneSpec.plain.varTypes Tryz.prog ++ Tryz.f4.resultTypes.toList).any (Tryz.prog.wideKeysFrom ·))) = true := by kernel_rfl
theorem p18 : (Rows.frontNoneSpec.vars.all (Tryz.prog.varReadable ·)) = true := by kernel_rfl
theorem p19 : (Tryz.f4.resultTypes.all (fun t => Tryz.prog.readableRec t && decide (t < Tryz.prog.types.size))) = true := by kernel_rfl
theorem p20 : ((Rows.frontNoneRow.ifacesOut == Tryz.f4.resultTypes.toList.any (Tryz.prog.ifacesRec ·))) = true := by kernel_rfl
theorem p21 : ((Rows.frontNoneRow.loopsOut == Tryz.f4.resultTypes.toList.any (Tryz.prog.loopsFrom ·))) = true := by kernel_rfl
theorem p22 : ((Rows.frontNoneRow.plainKeys == Tryz.prog.plainKeys)) = true := by kernel_rfl
theorem p23 : (Rows.frontNoneRow.shortTexts.isNone) = true := by kernel_rfl
theorem p24 : (Tryz.prog.stopsHeard) = true := by exact heard
theorem p25 : (Tryz.prog.mayEnter) = true := by exact enter
theorem p26 : ((Rows.frontNoneRow.lifted == Tryz.prog.liftsFinal)) = true := by kernel_rfl
theorem p27 : ((Tryz.prog.make == some Rows.frontNoneRow.make)) = true := by kernel_rfl
theorem p28 : ((Rows.frontNoneRow.kinds == (if Rows.frontNoneRow.domain.isEmpty then [] else Tryz.f4.params.toList.map fun t => match Tryz.prog.underlying t with | some (.int k) => some k | _ => none))) = true := by kernel_rfl
theorem p29 : ((Rows.frontNoneRow.pinned == Rows.frontNoneRow.pinnedBy)) = true := by kernel_rfl
theorem p30 : ((Rows.frontNoneRow.veiled == (Tryz.f4.params.toList ++ Rows.frontNoneSpec.plain.varTypes Tryz.prog ++ Tryz.f4.resultTypes.toList).any (Tryz.prog.veiledRec ·))) = true := by kernel_rfl
theorem p31 : (Rows.frontNoneRow.veiledFits Tryz.prog Tryz.f4.params.toList (Tryz.f4.params.toList ++ Rows.frontNoneSpec.plain.varTypes Tryz.prog ++ Tryz.f4.resultTypes.toList)) = true := by kernel_rfl
theorem joined : joinedFacts Tryz.pinned.checked.prog 4 Tryz.f4 Rows.frontNoneSpec Rows.frontNoneRow = true :=
  Bool.and_eq_true_iff.2 ⟨Bool.and_eq_true_iff.2 ⟨Bool.and_eq_true_iff.2 ⟨Bool.and_eq_true_iff.2 ⟨Bool.and_eq_true_iff.2 ⟨Bool.and_eq_true_iff.2 ⟨Bool.and_eq_true_iff.2 ⟨Bool.and_eq_true_iff.2 ⟨Bool.and_eq_true_iff.2 ⟨Bool.and_eq_true_iff.2 ⟨Bool.and_eq_true_iff.2 ⟨Bool.and_eq_true_iff.2 ⟨Bool.and_eq_true_iff.2 ⟨Bool.and_eq_true_iff.2 ⟨Bool.and_eq_true_iff.2 ⟨Bool.and_eq_true_iff.2 ⟨Bool.and_eq_true_iff.2 ⟨Bool.and_eq_true_iff.2 ⟨Bool.and_eq_true_iff.2 ⟨Bool.and_eq_true_iff.2 ⟨Bool.and_eq_true_iff.2 ⟨Bool.and_eq_true_iff.2 ⟨Bool.and_eq_true_iff.2 ⟨Bool.and_eq_true_iff.2 ⟨Bool.and_eq_true_iff.2 ⟨Bool.and_eq_true_iff.2 ⟨Bool.and_eq_true_iff.2 ⟨Bool.and_eq_true_iff.2 ⟨Bool.and_eq_true_iff.2 ⟨Bool.and_eq_true_iff.2 ⟨Bool.and_eq_true_iff.2 ⟨p0, p1⟩, p2⟩, p3⟩, p4⟩, p5⟩, p6⟩, p7⟩, p8⟩, p9⟩, p10⟩, p11⟩, p12⟩, p13⟩, p14⟩, p15⟩, p16⟩, p17⟩, p18⟩, p19⟩, p20⟩, p21⟩, p22⟩, p23⟩, p24⟩, p25⟩, p26⟩, p27⟩, p28⟩, p29⟩, p30⟩, p31⟩
theorem g1 : (clo.c4.any fun g => (Tryz.prog.funcs[g]?).any Func.goes) = false := by kernel_rfl
theorem nm : Tryz.prog.funcNamed "ostiary/ostiarylaw30.FrontNone" = some 4 := by kernel_rfl
theorem go1 : Tryz.prog.goes 4 = false := by unfold Program.goes; rw [clo.closure4, g1, g2, Bool.and_false]; rfl
theorem goes : false = Rows.frontNoneRow.goesBy Tryz.pinned.checked.prog := by
  show false = (((Tryz.prog.funcNamed "ostiary/ostiarylaw30.FrontNone").any Tryz.prog.goes) || false)
  rw [nm, Option.any_some, go1]
  rfl
end Go.Proofs.YtmoppkfallanoaaGreatDoor.fac.frontNone
