/-
  DERIVED. GIVEN WITH THE SEED: THE CARDS: each row of YtemiamajgjfnbaaGreatDoorRows.lean that lists a variable, with what it lists TIED to the program's text (the seventh form; the later family's looks); each row that meets fmt, with fmt's text TOLD by the authors' own Lean function (tested against real Go, not proved from fmt's source: count such statements apart). THE CARD IS WHAT COUNTS. Prove the row's statement (the work); the ties are given (YtemiamajgjfnbaaGreatDoorTie.lean); close each card by the builder's one call (the guide's Derived/Test/ToyasCard.lean, 'card_holds'). Laid BY PROGRAM, IN A SANDBOX (cutbox-door.mjs). By AI agents, Wed Nov 11 2026. No macro, syntax, notation, axiom, sorry.
-/
import Derived.Test.YtemiamajgjfnbaaGreatDoorRows
import GoSem.ClaimSeven
namespace Go.Proofs.YtemiamajgjfnbaaGreatDoor
namespace Rows

/-- THE TIED CARD OF 'casementlaw16.VectorNames'. -/
def vectorNamesCard : Claim7 := { stood := { row := vectorNamesRow, standIns := [], harness := (true, "040ddd21f396a1a9d6a348cf7c24f1ca6a5eff16f9e810a71ea38c1141a68d41"), looks := true }, kinds := [], alts := [], laidByText := true, laidKinds := [.data, .data, .data, .data, .handle, .sentinel, .sentinel, .pinned], laidTests := true, laidLooks := .later }
def VectorNamesCardSaid : Prop := Claim7.holds Tryz.pinned (.plain (OpenSpec.ofChange vectorNamesSpec)) vectorNamesCard

/-- THE TIED CARD OF 'casementlaw16.VectorOne'. -/
def vectorOneCard : Claim7 := { stood := { row := vectorOneRow, standIns := [], harness := (true, "040ddd21f396a1a9d6a348cf7c24f1ca6a5eff16f9e810a71ea38c1141a68d41"), looks := true }, kinds := [], alts := [], laidByText := true, laidKinds := [.data, .data, .data, .data, .handle, .sentinel, .sentinel, .pinned], laidTests := true, laidLooks := .later }
def VectorOneCardSaid : Prop := Claim7.holds Tryz.pinned (.plain (OpenSpec.ofChange vectorOneSpec)) vectorOneCard

/-- THE TIED CARD OF 'casementlaw16.VectorEscapes'. -/
def vectorEscapesCard : Claim7 := { stood := { row := vectorEscapesRow, standIns := [], harness := (true, "040ddd21f396a1a9d6a348cf7c24f1ca6a5eff16f9e810a71ea38c1141a68d41"), looks := true }, kinds := [], alts := [], laidByText := true, laidKinds := [.data, .data, .data, .data, .handle, .sentinel, .sentinel, .pinned], laidTests := true, laidLooks := .later }
def VectorEscapesCardSaid : Prop := Claim7.holds Tryz.pinned (.plain (OpenSpec.ofChange vectorEscapesSpec)) vectorEscapesCard

/-- THE SECOND FORM's CARD OF 'casementlaw16.VectorNames'. -/
def vectorNamesUptoCard : Claim7 := { stood := { row := vectorNamesUptoRow, standIns := [], harness := (true, "040ddd21f396a1a9d6a348cf7c24f1ca6a5eff16f9e810a71ea38c1141a68d41"), looks := true }, kinds := [], alts := [], laidByText := true, laidKinds := [.data, .data, .data, .data, .handle, .sentinel, .sentinel, .pinned], laidTests := true, laidLooks := .later }
def VectorNamesUptoCardSaid : Prop := Claim7.holds Tryz.pinned (.plain (OpenSpec.upto vectorNamesSpec)) vectorNamesUptoCard

/-- THE SECOND FORM's CARD OF 'casementlaw16.VectorOne'. -/
def vectorOneUptoCard : Claim7 := { stood := { row := vectorOneUptoRow, standIns := [], harness := (true, "040ddd21f396a1a9d6a348cf7c24f1ca6a5eff16f9e810a71ea38c1141a68d41"), looks := true }, kinds := [], alts := [], laidByText := true, laidKinds := [.data, .data, .data, .data, .handle, .sentinel, .sentinel, .pinned], laidTests := true, laidLooks := .later }
def VectorOneUptoCardSaid : Prop := Claim7.holds Tryz.pinned (.plain (OpenSpec.upto vectorOneSpec)) vectorOneUptoCard

/-- THE SECOND FORM's CARD OF 'casementlaw16.VectorEscapes'. -/
def vectorEscapesUptoCard : Claim7 := { stood := { row := vectorEscapesUptoRow, standIns := [], harness := (true, "040ddd21f396a1a9d6a348cf7c24f1ca6a5eff16f9e810a71ea38c1141a68d41"), looks := true }, kinds := [], alts := [], laidByText := true, laidKinds := [.data, .data, .data, .data, .handle, .sentinel, .sentinel, .pinned], laidTests := true, laidLooks := .later }
def VectorEscapesUptoCardSaid : Prop := Claim7.holds Tryz.pinned (.plain (OpenSpec.upto vectorEscapesSpec)) vectorEscapesUptoCard
end Rows
end Go.Proofs.YtemiamajgjfnbaaGreatDoor
