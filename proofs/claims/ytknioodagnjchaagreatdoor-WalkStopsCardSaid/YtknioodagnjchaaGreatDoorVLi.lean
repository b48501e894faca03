/- tree: list, List, Drop. The tree's calls, where what they do to their pages is known. -/
import Derived.Test.YtknioodagnjchaaGreatDoorVCb
import Derived.Test.YtknioodagnjchaaGreatDoorVTCut0
import Derived.Test.YtknioodagnjchaaGreatDoorVPl
import Derived.Test.YtknioodagnjchaaGreatDoorVTPutDel
namespace Go.Proofs.YtknioodagnjchaaGreatDoor
open Go.RowKit
def LstP (base:Nat) (w:World) (e:Ending):Ans (List Int)→Prop
 | .ok l=>∃ v,e=.returned (.tuple #[v,.int .i64 0])∧Own iC 1 3 base w v l∧l.length≤10000
 | .err x=>e=.returned (.tuple #[.slice none 0 0,.int .i64 x])∧x≠0
end Go.Proofs.YtknioodagnjchaaGreatDoor
namespace Go.Proofs.YtknioodagnjchaaGreatDoor
open Go.RowKit
section
variable {gs gm:Nat} {s s':Sf} {w:World} {root:Int} {k v:By}
theorem make_ok {n:Int} (hr:makeT.run s=(s',.ok n)) (hS:ShIs w gs gm s):Calls Tryz.prog 24 #[shV gs] w fun e w'=>e=.returned (.tuple #[.int .i64 n,.int .i64 0])∧ShIs w' gs gm s'∧Ch (fun k=>k=gs∨k=gm) w w':=by
 have:=make_any gs gm s w hS
 rw [hr] at this
 exact this
theorem put_ok (hr:(putTr root k v).run s=(s',.ok ())) (hS:ShIs w gs gm s):Calls Tryz.prog 25 #[shV gs,.int .i64 root,.string (mkS k),.string (mkS v)] w fun e w'=>e=.returned (.int .i64 0)∧ShIs w' gs gm s'∧Ch (fun k=>k=gs∨k=gm) w w':=by
 have:=put_any root k v gs gm s w hS
 rw [hr] at this
 exact this
end
end Go.Proofs.YtknioodagnjchaaGreatDoor
