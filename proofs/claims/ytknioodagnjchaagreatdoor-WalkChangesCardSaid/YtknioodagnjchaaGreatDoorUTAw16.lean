/- cahierlaw16.awake is true. -/
import Derived.Test.YtknioodagnjchaaGreatDoorULi
import Derived.Test.YtknioodagnjchaaGreatDoorUTGood
import Derived.Test.YtknioodagnjchaaGreatDoorUPl
import Derived.Test.YtknioodagnjchaaGreatDoorUTShelf4
namespace Go.Proofs.YtknioodagnjchaaGreatDoor
open Go.RowKit
end Go.Proofs.YtknioodagnjchaaGreatDoor
