/- The walk of cahierlaw17.WalkStops. -/
import Derived.Test.YtknioodagnjchaaGreatDoorUWf
import Derived.Test.YtknioodagnjchaaGreatDoorUWc
import Derived.Deep.RegionHeld3
namespace Go.Proofs.YtknioodagnjchaaGreatDoor
open Go.RowKit Go.Shelf
attribute [local go_sem] Oper.semAt_some fg
theorem Stay.pure {B gs gm M:Nat} {FP:Pro (Option Pr)} {GP:By→Pro (Option Pr)} (P:List (Pr × Int)→Prop):Stay B gs gm M FP GP (fun _ pre _=>P pre):=
 ⟨fun _ _ _ _ _ _ h _ _ _=>h,fun _ _ _ _ h=>h,fun _ _ _ _ _ h _ _ _=>h⟩
end Go.Proofs.YtknioodagnjchaaGreatDoor
