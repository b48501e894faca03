/- cahierlaw16.awake is true. -/
import Derived.Test.YtknioodagnjchaaGreatDoorVLi
import Derived.Test.YtknioodagnjchaaGreatDoorVTGood
import Derived.Test.YtknioodagnjchaaGreatDoorVPl
import Derived.Test.YtknioodagnjchaaGreatDoorVTShelf4
namespace Go.Proofs.YtknioodagnjchaaGreatDoor
open Go.RowKit
end Go.Proofs.YtknioodagnjchaaGreatDoor
