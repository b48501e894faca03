/- tree.alter with what Del does. -/
import Derived.Test.YtknioodagnjchaaGreatDoorVTAlt0
namespace Go.Proofs.YtknioodagnjchaaGreatDoor
open Go.RowKit
def altO (n:Nd) (k:By):Option Nd→Pro (Option Nd)
 | none=>.pure none
 | some c=>(settleT n (kidN n k) c).bind fun n'=>.pure (some n')
def altK (act:Nd→Pro (Option Nd)) (k:By) (f:Nat) (n:Nd):Pro (Option Nd):=if n.leaf then act n else match f with
    | 0=>.fail 30
    | f+1=>(alterT act k f (n.kids.getD (kidN n k) 0)).bind (altO n k)
theorem alterT_eq (act:Nd→Pro (Option Nd)) (k:By) (f:Nat) (a:Int):alterT act k f a=(readT a).bind (altK act k f):=by
 cases f <;> (unfold alterT;congr 1)
end Go.Proofs.YtknioodagnjchaaGreatDoor
