/-
  DERIVED. GIVEN WITH THE SEED: THE CARDS: each row of YtgocdigdaaiagaaGreatDoorRows.lean that lists a variable, with what it lists TIED to the program's text (the seventh form; the later family's looks); each row that meets fmt, with fmt's text TOLD by the authors' own Lean function (tested against real Go, not proved from fmt's source: count such statements apart). THE CARD IS WHAT COUNTS. Prove the row's statement (the work); the ties are given (YtgocdigdaaiagaaGreatDoorTie.lean); close each card by the builder's one call (the guide's Derived/Test/ToyasCard.lean, 'card_holds'). Laid BY PROGRAM, IN A SANDBOX (cutbox-door.mjs). By AI agents, Wed Nov 11 2026. No macro, syntax, notation, axiom, sorry.
-/
import Derived.Test.YtgocdigdaaiagaaGreatDoorRows
import GoSem.ClaimSeven
namespace Go.Proofs.YtgocdigdaaiagaaGreatDoor
namespace Rows

/-- THE TIED CARD OF 'ostiarylaw28.ConnIdle'. -/
def connIdleCard : Claim7 := { stood := { row := connIdleRow, standIns := [], harness := (true, "40564d065aeb6a310882f14091ccb790d52308a6471b31a993674fd04f521b7e"), looks := true }, kinds := [], alts := [], laidByText := true, laidKinds := [.data, .data, .data, .data, .sentinel, .sentinel, .pinned], laidTests := true, laidLooks := .later }
def ConnIdleCardSaid : Prop := Claim7.holds Tryz.pinned (.plain (OpenSpec.ofChange connIdleSpec)) connIdleCard

/-- THE SECOND FORM's CARD OF 'ostiarylaw28.ConnIdle'. -/
def connIdleUptoCard : Claim7 := { stood := { row := connIdleUptoRow, standIns := [], harness := (true, "40564d065aeb6a310882f14091ccb790d52308a6471b31a993674fd04f521b7e"), looks := true }, kinds := [], alts := [], laidByText := true, laidKinds := [.data, .data, .data, .data, .sentinel, .sentinel, .pinned], laidTests := true, laidLooks := .later }
def ConnIdleUptoCardSaid : Prop := Claim7.holds Tryz.pinned (.plain (OpenSpec.upto connIdleSpec)) connIdleUptoCard
end Rows
end Go.Proofs.YtgocdigdaaiagaaGreatDoor
