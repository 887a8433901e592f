/-
  DERIVED. GIVEN WITH THE SEED: THE CARDS: each row of YtbnpaiofikdinaaGreatDoorRows.lean that lists a variable, with what it lists TIED to the program's text (the seventh form; the later family's looks); each row that meets fmt, with fmt's text TOLD by the authors' own Lean function (tested against real Go, not proved from fmt's source: count such statements apart). THE CARD IS WHAT COUNTS. Prove the row's statement (the work); the ties are given (YtbnpaiofikdinaaGreatDoorTie.lean); close each card by the builder's one call (the guide's Derived/Test/ToyasCard.lean, 'card_holds'). Laid BY PROGRAM, IN A SANDBOX (cutbox-door.mjs). By AI agents, Wed Nov 11 2026. No macro, syntax, notation, axiom, sorry.
-/
import Derived.Test.YtbnpaiofikdinaaGreatDoorRows
import GoSem.ClaimSeven
namespace Go.Proofs.YtbnpaiofikdinaaGreatDoor
namespace Rows

/-- THE TIED CARD OF 'ostiarylaw28.ConnKnown'. -/
def connKnownCard : Claim7 := { stood := { row := connKnownRow, standIns := [], harness := (true, "84b9f0394a531371453a82fcf1ea89b7c955b22c09fbd90c803d529772e606e4"), looks := true }, kinds := [], alts := [], laidByText := true, laidKinds := [.data, .data, .data, .data, .sentinel, .sentinel, .pinned], laidTests := true, laidLooks := .later }
def ConnKnownCardSaid : Prop := Claim7.holds Tryz.pinned (.plain (OpenSpec.ofChange connKnownSpec)) connKnownCard

/-- THE TIED CARD OF 'ostiarylaw28.ConnNone'. -/
def connNoneCard : Claim7 := { stood := { row := connNoneRow, standIns := [], harness := (true, "84b9f0394a531371453a82fcf1ea89b7c955b22c09fbd90c803d529772e606e4"), looks := true }, kinds := [], alts := [], laidByText := true, laidKinds := [.data, .data, .data, .data, .sentinel, .sentinel, .pinned], laidTests := true, laidLooks := .later }
def ConnNoneCardSaid : Prop := Claim7.holds Tryz.pinned (.plain (OpenSpec.ofChange connNoneSpec)) connNoneCard

/-- THE SECOND FORM's CARD OF 'ostiarylaw28.ConnKnown'. -/
def connKnownUptoCard : Claim7 := { stood := { row := connKnownUptoRow, standIns := [], harness := (true, "84b9f0394a531371453a82fcf1ea89b7c955b22c09fbd90c803d529772e606e4"), looks := true }, kinds := [], alts := [], laidByText := true, laidKinds := [.data, .data, .data, .data, .sentinel, .sentinel, .pinned], laidTests := true, laidLooks := .later }
def ConnKnownUptoCardSaid : Prop := Claim7.holds Tryz.pinned (.plain (OpenSpec.upto connKnownSpec)) connKnownUptoCard

/-- THE SECOND FORM's CARD OF 'ostiarylaw28.ConnNone'. -/
def connNoneUptoCard : Claim7 := { stood := { row := connNoneUptoRow, standIns := [], harness := (true, "84b9f0394a531371453a82fcf1ea89b7c955b22c09fbd90c803d529772e606e4"), looks := true }, kinds := [], alts := [], laidByText := true, laidKinds := [.data, .data, .data, .data, .sentinel, .sentinel, .pinned], laidTests := true, laidLooks := .later }
def ConnNoneUptoCardSaid : Prop := Claim7.holds Tryz.pinned (.plain (OpenSpec.upto connNoneSpec)) connNoneUptoCard
end Rows
end Go.Proofs.YtbnpaiofikdinaaGreatDoor
