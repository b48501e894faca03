/- cahierlaw16.numbered: a key of a number. -/
import Derived.Test.YtknioodagnjchaaGreatDoorWNu
import Derived.Test.YtknioodagnjchaaGreatDoorWPl
namespace Go.Proofs.YtknioodagnjchaaGreatDoor
open Go.RowKit
end Go.Proofs.YtknioodagnjchaaGreatDoor
