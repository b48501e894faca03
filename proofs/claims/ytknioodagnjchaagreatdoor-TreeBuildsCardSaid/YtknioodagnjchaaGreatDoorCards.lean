/-
  DERIVED. GIVEN WITH THE SEED: THE CARDS: each row of YtknioodagnjchaaGreatDoorRows.lean that lists a variable, with what it lists TIED to the program's text (the seventh form; the later family's looks); each row that meets fmt, with fmt's text TOLD by the authors' own Lean function (tested against real Go, not proved from fmt's source: count such statements apart). THE CARD IS WHAT COUNTS. Prove the row's statement (the work); the ties are given (YtknioodagnjchaaGreatDoorTie.lean); close each card by the builder's one call (the guide's Derived/Test/ToyasCard.lean, 'card_holds'). Laid BY PROGRAM, IN A SANDBOX (cutbox-door.mjs). By AI agents, Wed Nov 11 2026. No macro, syntax, notation, axiom, sorry.
-/
import Derived.Test.YtknioodagnjchaaGreatDoorRows
import GoSem.ClaimSeven
namespace Go.Proofs.YtknioodagnjchaaGreatDoor
namespace Rows

/-- THE TIED CARD OF 'cahierlaw16.TreeReads'. -/
def treeReadsCard : Claim7 := { stood := { row := treeReadsRow, standIns := [], harness := (true, "cbae5b208e03e217354d83d2018c8138b44cc3fe91af8418b851dd1a22487af9"), looks := false }, kinds := [], alts := [], laidByText := true, laidKinds := [.data, .pinned], laidTests := true, laidLooks := .later }
def TreeReadsCardSaid : Prop := Claim7.holds Tryz.pinned (.plain (OpenSpec.ofChange treeReadsSpec)) treeReadsCard

/-- THE TIED CARD OF 'cahierlaw16.TreeOrders'. -/
def treeOrdersCard : Claim7 := { stood := { row := treeOrdersRow, standIns := [], harness := (true, "cbae5b208e03e217354d83d2018c8138b44cc3fe91af8418b851dd1a22487af9"), looks := false }, kinds := [], alts := [], laidByText := true, laidKinds := [.data, .pinned], laidTests := true, laidLooks := .later }
def TreeOrdersCardSaid : Prop := Claim7.holds Tryz.pinned (.plain (OpenSpec.ofChange treeOrdersSpec)) treeOrdersCard

/-- THE TIED CARD OF 'cahierlaw16.TreeGone'. -/
def treeGoneCard : Claim7 := { stood := { row := treeGoneRow, standIns := [], harness := (true, "cbae5b208e03e217354d83d2018c8138b44cc3fe91af8418b851dd1a22487af9"), looks := false }, kinds := [], alts := [], laidByText := true, laidKinds := [.data, .pinned], laidTests := true, laidLooks := .later }
def TreeGoneCardSaid : Prop := Claim7.holds Tryz.pinned (.plain (OpenSpec.ofChange treeGoneSpec)) treeGoneCard

/-- THE TIED CARD OF 'cahierlaw16.TreeApart'. -/
def treeApartCard : Claim7 := { stood := { row := treeApartRow, standIns := [], harness := (true, "cbae5b208e03e217354d83d2018c8138b44cc3fe91af8418b851dd1a22487af9"), looks := false }, kinds := [], alts := [], laidByText := true, laidKinds := [.data, .pinned], laidTests := true, laidLooks := .later }
def TreeApartCardSaid : Prop := Claim7.holds Tryz.pinned (.plain (OpenSpec.ofChange treeApartSpec)) treeApartCard

/-- THE TIED CARD OF 'cahierlaw16.TreeFails'. -/
def treeFailsCard : Claim7 := { stood := { row := treeFailsRow, standIns := [], harness := (true, "cbae5b208e03e217354d83d2018c8138b44cc3fe91af8418b851dd1a22487af9"), looks := false }, kinds := [], alts := [], laidByText := true, laidKinds := [.data, .pinned], laidTests := true, laidLooks := .later }
def TreeFailsCardSaid : Prop := Claim7.holds Tryz.pinned (.plain (OpenSpec.ofChange treeFailsSpec)) treeFailsCard

/-- THE TIED CARD OF 'cahierlaw17.WalkFinds'. -/
def walkFindsCard : Claim7 := { stood := { row := walkFindsRow, standIns := [], harness := (true, "cbae5b208e03e217354d83d2018c8138b44cc3fe91af8418b851dd1a22487af9"), looks := false }, kinds := [], alts := [], laidByText := true, laidKinds := [.data, .pinned], laidTests := true, laidLooks := .later }
def WalkFindsCardSaid : Prop := Claim7.holds Tryz.pinned (.plain (OpenSpec.ofChange walkFindsSpec)) walkFindsCard

/-- THE TIED CARD OF 'cahierlaw17.WalkOver'. -/
def walkOverCard : Claim7 := { stood := { row := walkOverRow, standIns := [], harness := (true, "cbae5b208e03e217354d83d2018c8138b44cc3fe91af8418b851dd1a22487af9"), looks := false }, kinds := [], alts := [], laidByText := true, laidKinds := [.data, .pinned], laidTests := true, laidLooks := .later }
def WalkOverCardSaid : Prop := Claim7.holds Tryz.pinned (.plain (OpenSpec.ofChange walkOverSpec)) walkOverCard

/-- THE TIED CARD OF 'cahierlaw17.WalkFails'. -/
def walkFailsCard : Claim7 := { stood := { row := walkFailsRow, standIns := [], harness := (true, "cbae5b208e03e217354d83d2018c8138b44cc3fe91af8418b851dd1a22487af9"), looks := false }, kinds := [], alts := [], laidByText := true, laidKinds := [.data, .pinned], laidTests := true, laidLooks := .later }
def WalkFailsCardSaid : Prop := Claim7.holds Tryz.pinned (.plain (OpenSpec.ofChange walkFailsSpec)) walkFailsCard

/-- THE TIED CARD OF 'cahierlaw17.WalkStops'. -/
def walkStopsCard : Claim7 := { stood := { row := walkStopsRow, standIns := [], harness := (true, "cbae5b208e03e217354d83d2018c8138b44cc3fe91af8418b851dd1a22487af9"), looks := false }, kinds := [], alts := [], laidByText := true, laidKinds := [.data, .pinned], laidTests := true, laidLooks := .later }
def WalkStopsCardSaid : Prop := Claim7.holds Tryz.pinned (.plain (OpenSpec.ofChange walkStopsSpec)) walkStopsCard

/-- THE TIED CARD OF 'cahierlaw17.WalkChanges'. -/
def walkChangesCard : Claim7 := { stood := { row := walkChangesRow, standIns := [], harness := (true, "cbae5b208e03e217354d83d2018c8138b44cc3fe91af8418b851dd1a22487af9"), looks := false }, kinds := [], alts := [], laidByText := true, laidKinds := [.data, .pinned], laidTests := true, laidLooks := .later }
def WalkChangesCardSaid : Prop := Claim7.holds Tryz.pinned (.plain (OpenSpec.ofChange walkChangesSpec)) walkChangesCard

/-- THE TIED CARD OF 'cahierlaw16.TreeBuilds'. -/
def treeBuildsCard : Claim7 := { stood := { row := treeBuildsRow, standIns := [], harness := (true, "cbae5b208e03e217354d83d2018c8138b44cc3fe91af8418b851dd1a22487af9"), looks := false }, kinds := [], alts := [], laidByText := true, laidKinds := [.data, .pinned], laidTests := true, laidLooks := .later }
def TreeBuildsCardSaid : Prop := Claim7.holds Tryz.pinned (.plain (OpenSpec.ofChange treeBuildsSpec)) treeBuildsCard

/-- THE SECOND FORM's CARD OF 'cahierlaw16.TreeReads'. -/
def treeReadsUptoCard : Claim7 := { stood := { row := treeReadsUptoRow, standIns := [], harness := (true, "cbae5b208e03e217354d83d2018c8138b44cc3fe91af8418b851dd1a22487af9"), looks := false }, kinds := [], alts := [], laidByText := true, laidKinds := [.data, .pinned], laidTests := true, laidLooks := .later }
def TreeReadsUptoCardSaid : Prop := Claim7.holds Tryz.pinned (.plain (OpenSpec.upto treeReadsSpec)) treeReadsUptoCard

/-- THE SECOND FORM's CARD OF 'cahierlaw16.TreeOrders'. -/
def treeOrdersUptoCard : Claim7 := { stood := { row := treeOrdersUptoRow, standIns := [], harness := (true, "cbae5b208e03e217354d83d2018c8138b44cc3fe91af8418b851dd1a22487af9"), looks := false }, kinds := [], alts := [], laidByText := true, laidKinds := [.data, .pinned], laidTests := true, laidLooks := .later }
def TreeOrdersUptoCardSaid : Prop := Claim7.holds Tryz.pinned (.plain (OpenSpec.upto treeOrdersSpec)) treeOrdersUptoCard

/-- THE SECOND FORM's CARD OF 'cahierlaw16.TreeGone'. -/
def treeGoneUptoCard : Claim7 := { stood := { row := treeGoneUptoRow, standIns := [], harness := (true, "cbae5b208e03e217354d83d2018c8138b44cc3fe91af8418b851dd1a22487af9"), looks := false }, kinds := [], alts := [], laidByText := true, laidKinds := [.data, .pinned], laidTests := true, laidLooks := .later }
def TreeGoneUptoCardSaid : Prop := Claim7.holds Tryz.pinned (.plain (OpenSpec.upto treeGoneSpec)) treeGoneUptoCard

/-- THE SECOND FORM's CARD OF 'cahierlaw16.TreeApart'. -/
def treeApartUptoCard : Claim7 := { stood := { row := treeApartUptoRow, standIns := [], harness := (true, "cbae5b208e03e217354d83d2018c8138b44cc3fe91af8418b851dd1a22487af9"), looks := false }, kinds := [], alts := [], laidByText := true, laidKinds := [.data, .pinned], laidTests := true, laidLooks := .later }
def TreeApartUptoCardSaid : Prop := Claim7.holds Tryz.pinned (.plain (OpenSpec.upto treeApartSpec)) treeApartUptoCard

/-- THE SECOND FORM's CARD OF 'cahierlaw16.TreeFails'. -/
def treeFailsUptoCard : Claim7 := { stood := { row := treeFailsUptoRow, standIns := [], harness := (true, "cbae5b208e03e217354d83d2018c8138b44cc3fe91af8418b851dd1a22487af9"), looks := false }, kinds := [], alts := [], laidByText := true, laidKinds := [.data, .pinned], laidTests := true, laidLooks := .later }
def TreeFailsUptoCardSaid : Prop := Claim7.holds Tryz.pinned (.plain (OpenSpec.upto treeFailsSpec)) treeFailsUptoCard

/-- THE SECOND FORM's CARD OF 'cahierlaw17.WalkFinds'. -/
def walkFindsUptoCard : Claim7 := { stood := { row := walkFindsUptoRow, standIns := [], harness := (true, "cbae5b208e03e217354d83d2018c8138b44cc3fe91af8418b851dd1a22487af9"), looks := false }, kinds := [], alts := [], laidByText := true, laidKinds := [.data, .pinned], laidTests := true, laidLooks := .later }
def WalkFindsUptoCardSaid : Prop := Claim7.holds Tryz.pinned (.plain (OpenSpec.upto walkFindsSpec)) walkFindsUptoCard

/-- THE SECOND FORM's CARD OF 'cahierlaw17.WalkOver'. -/
def walkOverUptoCard : Claim7 := { stood := { row := walkOverUptoRow, standIns := [], harness := (true, "cbae5b208e03e217354d83d2018c8138b44cc3fe91af8418b851dd1a22487af9"), looks := false }, kinds := [], alts := [], laidByText := true, laidKinds := [.data, .pinned], laidTests := true, laidLooks := .later }
def WalkOverUptoCardSaid : Prop := Claim7.holds Tryz.pinned (.plain (OpenSpec.upto walkOverSpec)) walkOverUptoCard

/-- THE SECOND FORM's CARD OF 'cahierlaw17.WalkFails'. -/
def walkFailsUptoCard : Claim7 := { stood := { row := walkFailsUptoRow, standIns := [], harness := (true, "cbae5b208e03e217354d83d2018c8138b44cc3fe91af8418b851dd1a22487af9"), looks := false }, kinds := [], alts := [], laidByText := true, laidKinds := [.data, .pinned], laidTests := true, laidLooks := .later }
def WalkFailsUptoCardSaid : Prop := Claim7.holds Tryz.pinned (.plain (OpenSpec.upto walkFailsSpec)) walkFailsUptoCard

/-- THE SECOND FORM's CARD OF 'cahierlaw17.WalkStops'. -/
def walkStopsUptoCard : Claim7 := { stood := { row := walkStopsUptoRow, standIns := [], harness := (true, "cbae5b208e03e217354d83d2018c8138b44cc3fe91af8418b851dd1a22487af9"), looks := false }, kinds := [], alts := [], laidByText := true, laidKinds := [.data, .pinned], laidTests := true, laidLooks := .later }
def WalkStopsUptoCardSaid : Prop := Claim7.holds Tryz.pinned (.plain (OpenSpec.upto walkStopsSpec)) walkStopsUptoCard

/-- THE SECOND FORM's CARD OF 'cahierlaw17.WalkChanges'. -/
def walkChangesUptoCard : Claim7 := { stood := { row := walkChangesUptoRow, standIns := [], harness := (true, "cbae5b208e03e217354d83d2018c8138b44cc3fe91af8418b851dd1a22487af9"), looks := false }, kinds := [], alts := [], laidByText := true, laidKinds := [.data, .pinned], laidTests := true, laidLooks := .later }
def WalkChangesUptoCardSaid : Prop := Claim7.holds Tryz.pinned (.plain (OpenSpec.upto walkChangesSpec)) walkChangesUptoCard

/-- THE SECOND FORM's CARD OF 'cahierlaw16.TreeBuilds'. -/
def treeBuildsUptoCard : Claim7 := { stood := { row := treeBuildsUptoRow, standIns := [], harness := (true, "cbae5b208e03e217354d83d2018c8138b44cc3fe91af8418b851dd1a22487af9"), looks := false }, kinds := [], alts := [], laidByText := true, laidKinds := [.data, .pinned], laidTests := true, laidLooks := .later }
def TreeBuildsUptoCardSaid : Prop := Claim7.holds Tryz.pinned (.plain (OpenSpec.upto treeBuildsSpec)) treeBuildsUptoCard
end Rows
end Go.Proofs.YtknioodagnjchaaGreatDoor
