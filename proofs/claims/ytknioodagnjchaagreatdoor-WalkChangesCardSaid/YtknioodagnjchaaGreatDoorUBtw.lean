/- cahierref17.Between. -/
import Derived.Test.YtknioodagnjchaaGreatDoorUWc
import Derived.Test.YtknioodagnjchaaGreatDoorUWd
namespace Go.Proofs.YtknioodagnjchaaGreatDoor
open Go.RowKit
end Go.Proofs.YtknioodagnjchaaGreatDoor
