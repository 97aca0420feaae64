/-
  DERIVED. GIVEN WITH THE SEED: THE CARDS: each row of YtldgkgfkdipdeaaDoorRows.lean that lists a variable, with what it lists TIED to the program's text (the seventh form; the later family's looks); each row that meets fmt, with fmt's text TOLD by the authors' own Lean function (tested against real Go, not proved from fmt's source: count such statements apart). THE CARD IS WHAT COUNTS. Prove the row's statement (the work); the ties are given (YtldgkgfkdipdeaaDoorTie.lean); close each card by the builder's one call (the guide's Derived/Test/ToyasCard.lean, 'card_holds'). Laid BY PROGRAM, IN A SANDBOX (cutbox-door.mjs). By AI agents, Wed Nov 11 2026. No macro, syntax, notation, axiom, sorry.
-/
import Derived.Test.YtldgkgfkdipdeaaDoorRows
import GoSem.ClaimSeven
namespace Go.Proofs.YtldgkgfkdipdeaaDoor
namespace Rows

/-- THE TIED CARD OF 'consollaw04.BigGcd'. -/
def bigGcdCard : Claim7 := { stood := { row := bigGcdRow, standIns := [], harness := (true, "ece213018515c5f304c8d5b64a657929279040cf690671af93d6bc49be51f62a"), looks := false }, kinds := [], alts := [], laidByText := true, laidKinds := [.data, .data, .data, .data, .pinned], laidTests := true, laidLooks := .later }
def BigGcdCardSaid : Prop := Claim7.holds Tryd.pinned (.plain (OpenSpec.ofChange bigGcdSpec)) bigGcdCard

/-- THE TIED CARD OF 'consollaw04.BigBack'. -/
def bigBackCard : Claim7 := { stood := { row := bigBackRow, standIns := [], harness := (true, "ece213018515c5f304c8d5b64a657929279040cf690671af93d6bc49be51f62a"), looks := false }, kinds := [], alts := [], laidByText := true, laidKinds := [.data, .data, .data, .data, .pinned], laidTests := true, laidLooks := .later }
def BigBackCardSaid : Prop := Claim7.holds Tryd.pinned (.plain (OpenSpec.ofChange bigBackSpec)) bigBackCard

/-- THE TIED CARD OF 'consollaw04.BigRing'. -/
def bigRingCard : Claim7 := { stood := { row := bigRingRow, standIns := [], harness := (true, "ece213018515c5f304c8d5b64a657929279040cf690671af93d6bc49be51f62a"), looks := false }, kinds := [], alts := [], laidByText := true, laidKinds := [.data, .data, .data, .data, .pinned], laidTests := true, laidLooks := .later }
def BigRingCardSaid : Prop := Claim7.holds Tryd.pinned (.plain (OpenSpec.ofChange bigRingSpec)) bigRingCard

/-- THE TIED CARD OF 'consollaw04.BigDivides'. -/
def bigDividesCard : Claim7 := { stood := { row := bigDividesRow, standIns := [], harness := (true, "ece213018515c5f304c8d5b64a657929279040cf690671af93d6bc49be51f62a"), looks := false }, kinds := [], alts := [], laidByText := true, laidKinds := [.data, .data, .data, .data, .pinned], laidTests := true, laidLooks := .later }
def BigDividesCardSaid : Prop := Claim7.holds Tryd.pinned (.plain (OpenSpec.ofChange bigDividesSpec)) bigDividesCard

/-- THE TIED CARD OF 'consollaw04.BigOrder'. -/
def bigOrderCard : Claim7 := { stood := { row := bigOrderRow, standIns := [], harness := (true, "ece213018515c5f304c8d5b64a657929279040cf690671af93d6bc49be51f62a"), looks := false }, kinds := [], alts := [], laidByText := true, laidKinds := [.data, .data, .data, .data, .pinned], laidTests := true, laidLooks := .later }
def BigOrderCardSaid : Prop := Claim7.holds Tryd.pinned (.plain (OpenSpec.ofChange bigOrderSpec)) bigOrderCard

/-- THE TIED CARD OF 'consollaw04.BigInts'. -/
def bigIntsCard : Claim7 := { stood := { row := bigIntsRow, standIns := [], harness := (true, "ece213018515c5f304c8d5b64a657929279040cf690671af93d6bc49be51f62a"), looks := false }, kinds := [], alts := [], laidByText := true, laidKinds := [.data, .data, .data, .data, .pinned], laidTests := true, laidLooks := .later }
def BigIntsCardSaid : Prop := Claim7.holds Tryd.pinned (.plain (OpenSpec.ofChange bigIntsSpec)) bigIntsCard

/-- THE SECOND FORM's CARD OF 'consollaw04.BigGcd'. -/
def bigGcdUptoCard : Claim7 := { stood := { row := bigGcdUptoRow, standIns := [], harness := (true, "ece213018515c5f304c8d5b64a657929279040cf690671af93d6bc49be51f62a"), looks := false }, kinds := [], alts := [], laidByText := true, laidKinds := [.data, .data, .data, .data, .pinned], laidTests := true, laidLooks := .later }
def BigGcdUptoCardSaid : Prop := Claim7.holds Tryd.pinned (.plain (OpenSpec.upto bigGcdSpec)) bigGcdUptoCard

/-- THE SECOND FORM's CARD OF 'consollaw04.BigBack'. -/
def bigBackUptoCard : Claim7 := { stood := { row := bigBackUptoRow, standIns := [], harness := (true, "ece213018515c5f304c8d5b64a657929279040cf690671af93d6bc49be51f62a"), looks := false }, kinds := [], alts := [], laidByText := true, laidKinds := [.data, .data, .data, .data, .pinned], laidTests := true, laidLooks := .later }
def BigBackUptoCardSaid : Prop := Claim7.holds Tryd.pinned (.plain (OpenSpec.upto bigBackSpec)) bigBackUptoCard

/-- THE SECOND FORM's CARD OF 'consollaw04.BigRing'. -/
def bigRingUptoCard : Claim7 := { stood := { row := bigRingUptoRow, standIns := [], harness := (true, "ece213018515c5f304c8d5b64a657929279040cf690671af93d6bc49be51f62a"), looks := false }, kinds := [], alts := [], laidByText := true, laidKinds := [.data, .data, .data, .data, .pinned], laidTests := true, laidLooks := .later }
def BigRingUptoCardSaid : Prop := Claim7.holds Tryd.pinned (.plain (OpenSpec.upto bigRingSpec)) bigRingUptoCard

/-- THE SECOND FORM's CARD OF 'consollaw04.BigDivides'. -/
def bigDividesUptoCard : Claim7 := { stood := { row := bigDividesUptoRow, standIns := [], harness := (true, "ece213018515c5f304c8d5b64a657929279040cf690671af93d6bc49be51f62a"), looks := false }, kinds := [], alts := [], laidByText := true, laidKinds := [.data, .data, .data, .data, .pinned], laidTests := true, laidLooks := .later }
def BigDividesUptoCardSaid : Prop := Claim7.holds Tryd.pinned (.plain (OpenSpec.upto bigDividesSpec)) bigDividesUptoCard

/-- THE SECOND FORM's CARD OF 'consollaw04.BigOrder'. -/
def bigOrderUptoCard : Claim7 := { stood := { row := bigOrderUptoRow, standIns := [], harness := (true, "ece213018515c5f304c8d5b64a657929279040cf690671af93d6bc49be51f62a"), looks := false }, kinds := [], alts := [], laidByText := true, laidKinds := [.data, .data, .data, .data, .pinned], laidTests := true, laidLooks := .later }
def BigOrderUptoCardSaid : Prop := Claim7.holds Tryd.pinned (.plain (OpenSpec.upto bigOrderSpec)) bigOrderUptoCard

/-- THE SECOND FORM's CARD OF 'consollaw04.BigInts'. -/
def bigIntsUptoCard : Claim7 := { stood := { row := bigIntsUptoRow, standIns := [], harness := (true, "ece213018515c5f304c8d5b64a657929279040cf690671af93d6bc49be51f62a"), looks := false }, kinds := [], alts := [], laidByText := true, laidKinds := [.data, .data, .data, .data, .pinned], laidTests := true, laidLooks := .later }
def BigIntsUptoCardSaid : Prop := Claim7.holds Tryd.pinned (.plain (OpenSpec.upto bigIntsSpec)) bigIntsUptoCard
end Rows
end Go.Proofs.YtldgkgfkdipdeaaDoor
