/- cahierref17.Between. -/
import Derived.Test.YtknioodagnjchaaGreatDoorVWc
import Derived.Test.YtknioodagnjchaaGreatDoorVWd
namespace Go.Proofs.YtknioodagnjchaaGreatDoor
open Go.RowKit
end Go.Proofs.YtknioodagnjchaaGreatDoor
