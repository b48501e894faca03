/- The walk of cahierlaw16.TreeGone. -/
import Derived.Test.YtknioodagnjchaaGreatDoorVTOrd
import Derived.Deep.RegionHeld3
namespace Go.Proofs.YtknioodagnjchaaGreatDoor
open Go.RowKit
end Go.Proofs.YtknioodagnjchaaGreatDoor
