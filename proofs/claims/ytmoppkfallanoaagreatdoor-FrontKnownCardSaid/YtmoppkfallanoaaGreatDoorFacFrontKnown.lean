/-
  The closed facts of the row of FrontKnown, one by one.
-/
import Derived.Test.YtmoppkfallanoaaGreatDoorRows
import Derived.Test.YtmoppkfallanoaaGreatDoorTiC3
import Derived.Test.YtmoppkfallanoaaGreatDoorFacL
import Derived.Test.YtmoppkfallanoaaGreatDoorFacM
import Derived.Test.YtmoppkfallanoaaGreatDoorFacB
import Derived.Test.YtmoppkfallanoaaGreatDoorFacG
import Derived.KernelRfl
import Derived.SevenTiedAt
import Derived.Stop.Joined
import Derived.ProofKit
import GoSem.ClaimGoes
set_option linter.unusedVariables false
set_option maxRecDepth 100000
set_option Elab.async false
namespace Go.Proofs.YtmoppkfallanoaaGreatDoor.fac.frontKnown
open Go Go.ChangeShapes Go.WideShapes Go.ChangeAt Go.RowKit
theorem unf : Tryz.prog.unfollowed 3 = true := by unfold Program.unfollowed; rw [clo.closure3]; kernel_rfl
theorem p0 : (Rows.frontKnownRow.wf (OpenSpec.ofChange Rows.frontKnownSpec)) = true := by kernel_rfl
theorem p1 : (laidOutB Tryz.prog) = true := by exact laid
theorem p2 : (mapsRowed Tryz.prog) = true := by exact mapsRowed_
theorem p3 : (Tryz.f3.params.all (Tryz.prog.readableRec ·)) = true := by kernel_rfl
theorem p4 : (namedTie Tryz.prog Rows.frontKnownRow.named Rows.frontKnownSpec.vars) = true := by kernel_rfl
theorem p5 : ((Rows.frontKnownRow.stops == [])) = true := by kernel_rfl
theorem p6 : ((Tryz.prog.stops == [])) = true := by exact stops
theorem p7 : ((Rows.frontKnownRow.knobs == [])) = true := by kernel_rfl
theorem p8 : ((Tryz.prog.stopKnobs == [])) = true := by exact knobs
theorem p9 : ((Rows.frontKnownRow.inPlace == Tryz.prog.inPlace 3)) = true := by unfold Program.inPlace; rw [clo.closure3]; kernel_rfl
theorem p10 : ((Rows.frontKnownRow.unfollowed == Tryz.prog.unfollowed 3)) = true := by rw [unf]; kernel_rfl
theorem p11 : ((Rows.frontKnownRow.recurses == Tryz.prog.recurses 3)) = true := by unfold Program.recurses; rw [unf, Bool.true_or]; kernel_rfl
theorem p12 : ((Rows.frontKnownRow.named == Tryz.prog.varsNamed 3)) = true := by unfold Program.varsNamed; rw [clo.closure3]; kernel_rfl
theorem p13 : ((Rows.frontKnownRow.maps == (Tryz.f3.params.toList ++ Rows.frontKnownSpec.plain.varTypes Tryz.prog).any (Tryz.prog.mapsRec ·))) = true := by kernel_rfl
theorem p14 : ((Rows.frontKnownRow.ifaces == (Tryz.f3.params.toList ++ Rows.frontKnownSpec.plain.varTypes Tryz.prog).any (Tryz.prog.ifacesRec ·))) = true := by kernel_rfl
theorem p15 : ((Rows.frontKnownRow.mapsOut == Tryz.prog.mapsAmong Tryz.f3.resultTypes.toList)) = true := by kernel_rfl
theorem p16 : ((Rows.frontKnownRow.loops == (Tryz.f3.params.toList ++ Rows.frontKnownSpec.plain.varTypes Tryz.prog).any (Tryz.prog.loopsFrom ·))) = true := by kernel_rfl
theorem p17 : ((Rows.frontKnownRow.wideKeys == (Tryz.f3.params.toList ++ Rows.frontKnownSpec.plain.varTypes Tryz.prog ++ Tryz.f3.resultTypes.toList).any (Tryz.prog.wideKeysFrom ·))) = true := by kernel_rfl
theorem p18 : (Rows.frontKnownSpec.vars.all (Tryz.prog.varReadable ·)) = true := by kernel_rfl
theorem p19 : (Tryz.f3.resultTypes.all (fun t => Tryz.prog.readableRec t && decide (t < Tryz.prog.types.size))) = true := by kernel_rfl
theorem p20 : ((Rows.frontKnownRow.ifacesOut == Tryz.f3.resultTypes.toList.any (Tryz.prog.ifacesRec ·))) = true := by kernel_rfl
theorem p21 : ((Rows.frontKnownRow.loopsOut == Tryz.f3.resultTypes.toList.any (Tryz.prog.loopsFrom ·))) = true := by kernel_rfl
theorem p22 : ((Rows.frontKnownRow.plainKeys == Tryz.prog.plainKeys)) = true := by kernel_rfl
theorem p23 : (Rows.frontKnownRow.shortTexts.isNone) = true := by kernel_rfl
theorem p24 : (Tryz.prog.stopsHeard) = true := by exact heard
theorem p25 : (Tryz.prog.mayEnter) = true := by exact enter
theorem p26 : ((Rows.frontKnownRow.lifted == Tryz.prog.liftsFinal)) = true := by kernel_rfl
theorem p27 : ((Tryz.prog.make == some Rows.frontKnownRow.make)) = true := by kernel_rfl
theorem p28 : ((Rows.frontKnownRow.kinds == (if Rows.frontKnownRow.domain.isEmpty then [] else Tryz.f3.params.toList.map fun t => match Tryz.prog.underlying t with | some (.int k) => some k | _ => none))) = true := by kernel_rfl
theorem p29 : ((Rows.frontKnownRow.pinned == Rows.frontKnownRow.pinnedBy)) = true := by kernel_rfl
theorem p30 : ((Rows.frontKnownRow.veiled == (Tryz.f3.params.toList ++ Rows.frontKnownSpec.plain.varTypes Tryz.prog ++ Tryz.f3.resultTypes.toList).any (Tryz.prog.veiledRec ·))) = true := by kernel_rfl
theorem p31 : (Rows.frontKnownRow.veiledFits Tryz.prog Tryz.f3.params.toList (Tryz.f3.params.toList ++ Rows.frontKnownSpec.plain.varTypes Tryz.prog ++ Tryz.f3.resultTypes.toList)) = true := by kernel_rfl
theorem joined : joinedFacts Tryz.pinned.checked.prog 3 Tryz.f3 Rows.frontKnownSpec Rows.frontKnownRow = true :=
  Bool.and_eq_true_iff.2 ⟨Bool.and_eq_true_iff.2 ⟨Bool.and_eq_true_iff.2 ⟨Bool.and_eq_true_iff.2 ⟨Bool.and_eq_true_iff.2 ⟨Bool.and_eq_true_iff.2 ⟨Bool.and_eq_true_iff.2 ⟨Bool.and_eq_true_iff.2 ⟨Bool.and_eq_true_iff.2 ⟨Bool.and_eq_true_iff.2 ⟨Bool.and_eq_true_iff.2 ⟨Bool.and_eq_true_iff.2 ⟨Bool.and_eq_true_iff.2 ⟨Bool.and_eq_true_iff.2 ⟨Bool.and_eq_true_iff.2 ⟨Bool.and_eq_true_iff.2 ⟨Bool.and_eq_true_iff.2 ⟨Bool.and_eq_true_iff.2 ⟨Bool.and_eq_true_iff.2 ⟨Bool.and_eq_true_iff.2 ⟨Bool.and_eq_true_iff.2 ⟨Bool.and_eq_true_iff.2 ⟨Bool.and_eq_true_iff.2 ⟨Bool.and_eq_true_iff.2 ⟨Bool.and_eq_true_iff.2 ⟨Bool.and_eq_true_iff.2 ⟨Bool.and_eq_true_iff.2 ⟨Bool.and_eq_true_iff.2 ⟨Bool.and_eq_true_iff.2 ⟨Bool.and_eq_true_iff.2 ⟨Bool.and_eq_true_iff.2 ⟨p0, p1⟩, p2⟩, p3⟩, p4⟩, p5⟩, p6⟩, p7⟩, p8⟩, p9⟩, p10⟩, p11⟩, p12⟩, p13⟩, p14⟩, p15⟩, p16⟩, p17⟩, p18⟩, p19⟩, p20⟩, p21⟩, p22⟩, p23⟩, p24⟩, p25⟩, p26⟩, p27⟩, p28⟩, p29⟩, p30⟩, p31⟩
theorem g1 : (clo.c3.any fun g => (Tryz.prog.funcs[g]?).any Func.goes) = false := by kernel_rfl
theorem nm : Tryz.prog.funcNamed "ostiary/ostiarylaw30.FrontKnown" = some 3 := by kernel_rfl
theorem go1 : Tryz.prog.goes 3 = false := by unfold Program.goes; rw [clo.closure3, g1, g2, Bool.and_false]; rfl
theorem goes : false = Rows.frontKnownRow.goesBy Tryz.pinned.checked.prog := by
  show false = (((Tryz.prog.funcNamed "ostiary/ostiarylaw30.FrontKnown").any Tryz.prog.goes) || false)
  rw [nm, Option.any_some, go1]
  rfl
end Go.Proofs.YtmoppkfallanoaaGreatDoor.fac.frontKnown
