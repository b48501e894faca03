/- cahierlaw16.numbered: a key of a number. -/
import Derived.Test.YtknioodagnjchaaGreatDoorVNu
import Derived.Test.YtknioodagnjchaaGreatDoorVPl
namespace Go.Proofs.YtknioodagnjchaaGreatDoor
open Go.RowKit
end Go.Proofs.YtknioodagnjchaaGreatDoor
