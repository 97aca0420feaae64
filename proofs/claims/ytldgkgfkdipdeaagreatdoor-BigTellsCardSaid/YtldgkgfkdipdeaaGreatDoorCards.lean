/-
  DERIVED. GIVEN WITH THE SEED: THE CARDS: each row of YtldgkgfkdipdeaaGreatDoorRows.lean that lists a variable, with what it lists TIED to the program's text (the seventh form; the later family's looks); each row that meets fmt, with fmt's text TOLD by the authors' own Lean function (tested against real Go, not proved from fmt's source: count such statements apart). THE CARD IS WHAT COUNTS. Prove the row's statement (the work); the ties are given (YtldgkgfkdipdeaaGreatDoorTie.lean); close each card by the builder's one call (the guide's Derived/Test/ToyasCard.lean, 'card_holds'). Laid BY PROGRAM, IN A SANDBOX (cutbox-door.mjs). By AI agents, Wed Nov 11 2026. No macro, syntax, notation, axiom, sorry.
-/
import Derived.Test.YtldgkgfkdipdeaaGreatDoorRows
import GoSem.ClaimSeven
namespace Go.Proofs.YtldgkgfkdipdeaaGreatDoor
namespace Rows

/-- THE TIED CARD OF 'consollaw04.BigTells'. -/
def bigTellsCard : Claim7 := { stood := { row := bigTellsRow, standIns := [], harness := (true, "06a79211a3500fdab4c557480908f2738a28b661b9d772a8d850b8852d649c92"), looks := false }, kinds := [], alts := [], laidByText := true, laidKinds := [.data, .data, .data, .data, .pinned], laidTests := true, laidLooks := .later }
def BigTellsCardSaid : Prop := Claim7.holds Tryz.pinned (.plain (OpenSpec.ofChange bigTellsSpec)) bigTellsCard

/-- THE SECOND FORM's CARD OF 'consollaw04.BigTells'. -/
def bigTellsUptoCard : Claim7 := { stood := { row := bigTellsUptoRow, standIns := [], harness := (true, "06a79211a3500fdab4c557480908f2738a28b661b9d772a8d850b8852d649c92"), looks := false }, kinds := [], alts := [], laidByText := true, laidKinds := [.data, .data, .data, .data, .pinned], laidTests := true, laidLooks := .later }
def BigTellsUptoCardSaid : Prop := Claim7.holds Tryz.pinned (.plain (OpenSpec.upto bigTellsSpec)) bigTellsUptoCard
end Rows
end Go.Proofs.YtldgkgfkdipdeaaGreatDoor
