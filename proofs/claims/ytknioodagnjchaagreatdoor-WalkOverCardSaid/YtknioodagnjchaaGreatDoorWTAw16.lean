/- cahierlaw16.awake is true. -/
import Derived.Test.YtknioodagnjchaaGreatDoorWLi
import Derived.Test.YtknioodagnjchaaGreatDoorWTGood
import Derived.Test.YtknioodagnjchaaGreatDoorWPl
import Derived.Test.YtknioodagnjchaaGreatDoorWTShelf4
namespace Go.Proofs.YtknioodagnjchaaGreatDoor
open Go.RowKit
end Go.Proofs.YtknioodagnjchaaGreatDoor
