/- cahierlaw16.numbered: a key of a number. -/
import Derived.Test.YtknioodagnjchaaGreatDoorUNu
import Derived.Test.YtknioodagnjchaaGreatDoorUPl
namespace Go.Proofs.YtknioodagnjchaaGreatDoor
open Go.RowKit
end Go.Proofs.YtknioodagnjchaaGreatDoor
