/-
  DERIVED. GIVEN WITH THE SEED: THE CARDS: each row of YtlhmencjhhpacaaDoorRows.lean that lists a variable, with what it lists TIED to the program's text (the seventh form; the later family's looks); each row that meets fmt, with fmt's text TOLD by the authors' own Lean function (tested against real Go, not proved from fmt's source: count such statements apart). THE CARD IS WHAT COUNTS. Prove the row's statement (the work); the ties are given (YtlhmencjhhpacaaDoorTie.lean); close each card by the builder's one call (the guide's Derived/Test/ToyasCard.lean, 'card_holds'). Laid BY PROGRAM, IN A SANDBOX (cutbox-door.mjs). By AI agents, Wed Nov 11 2026. No macro, syntax, notation, axiom, sorry.
-/
import Derived.Test.YtlhmencjhhpacaaDoorRows
import GoSem.ClaimSeven
namespace Go.Proofs.YtlhmencjhhpacaaDoor
namespace Rows

/-- THE TIED CARD OF 'cahierlaw20.QueryParts'. -/
def queryPartsCard : Claim7 := { stood := { row := queryPartsRow, standIns := [], harness := (true, "2215cc75d2716902c2f59bdfca3c283d989f4d5abddeb62f5a614a5fe47b54e4"), looks := false }, kinds := [], alts := [], laidByText := true, laidKinds := [.data, .pinned], laidTests := true, laidLooks := .later }
def QueryPartsCardSaid : Prop := Claim7.holds Tryd.pinned (.plain (OpenSpec.ofChange queryPartsSpec)) queryPartsCard

/-- THE SECOND FORM's CARD OF 'cahierlaw20.QueryParts'. -/
def queryPartsUptoCard : Claim7 := { stood := { row := queryPartsUptoRow, standIns := [], harness := (true, "2215cc75d2716902c2f59bdfca3c283d989f4d5abddeb62f5a614a5fe47b54e4"), looks := false }, kinds := [], alts := [], laidByText := true, laidKinds := [.data, .pinned], laidTests := true, laidLooks := .later }
def QueryPartsUptoCardSaid : Prop := Claim7.holds Tryd.pinned (.plain (OpenSpec.upto queryPartsSpec)) queryPartsUptoCard
end Rows
end Go.Proofs.YtlhmencjhhpacaaDoor
