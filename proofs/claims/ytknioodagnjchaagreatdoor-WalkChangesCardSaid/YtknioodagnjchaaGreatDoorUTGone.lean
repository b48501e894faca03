/- The walk of cahierlaw16.TreeGone. -/
import Derived.Test.YtknioodagnjchaaGreatDoorUTOrd
import Derived.Deep.RegionHeld3
namespace Go.Proofs.YtknioodagnjchaaGreatDoor
open Go.RowKit
end Go.Proofs.YtknioodagnjchaaGreatDoor
