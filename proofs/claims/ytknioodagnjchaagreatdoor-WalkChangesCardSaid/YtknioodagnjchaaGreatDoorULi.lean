/- tree: list, List, Drop. The tree's calls, where what they do to their pages is known. -/
import Derived.Test.YtknioodagnjchaaGreatDoorUCb
import Derived.Test.YtknioodagnjchaaGreatDoorUTCut0
import Derived.Test.YtknioodagnjchaaGreatDoorUPl
import Derived.Test.YtknioodagnjchaaGreatDoorUTPutDel
namespace Go.Proofs.YtknioodagnjchaaGreatDoor
open Go.RowKit
def LstP (base:Nat) (w:World) (e:Ending):Ans (List Int)→Prop
 | .ok l=>∃ v,e=.returned (.tuple #[v,.int .i64 0])∧Own iC 1 3 base w v l∧l.length≤10000
 | .err x=>e=.returned (.tuple #[.slice none 0 0,.int .i64 x])∧x≠0
end Go.Proofs.YtknioodagnjchaaGreatDoor
namespace Go.Proofs.YtknioodagnjchaaGreatDoor
open Go.RowKit
section
variable {gs gm:Nat} {s s':Sf} {w:World} {root:Int} {k v:By}
theorem uk {n:Int} (hr:makeT.run s=(s',.ok n)) (hS:ShIs w gs gm s):Calls Tryz.prog 24 #[bt gs] w fun e w'=>e=.returned (.tuple #[.int .i64 n,.int .i64 0])∧ShIs w' gs gm s'∧Ch (fun k=>k=gs∨k=gm) w w':=by have:=sL gs gm s w hS;rw [hr] at this;exact this
theorem jF (hr:(fX root k v).run s=(s',.ok ())) (hS:ShIs w gs gm s):Calls Tryz.prog 25 #[bt gs,.int .i64 root,.string (ap k),.string (ap v)] w fun e w'=>e=.returned (.int .i64 0)∧ShIs w' gs gm s'∧Ch (fun k=>k=gs∨k=gm) w w':=by have:=tZ root k v gs gm s w hS;rw [hr] at this;exact this
theorem tj {b:Bool} (hr:(lz root k).run s=(s',.ok b)) (hS:ShIs w gs gm s):Calls Tryz.prog 27 #[bt gs,.int .i64 root,.string (ap k)] w fun e w'=>e=.returned (.tuple #[.bool b,.int .i64 0])∧ShIs w' gs gm s'∧Ch (fun k=>k=gs∨k=gm) w w':=by have:=uz root k gs gm s w hS;rw [hr] at this;exact this
theorem oK (hr:(c9 20 root k).run s=(s',.ok (some v))) (hS:ShIs w gs gm s):Calls Tryz.prog 22 #[bt gs,.int .i64 root,.string (ap k)] w fun e w'=>e=.returned (.tuple #[.string (ap v),.bool true,.int .i64 0])∧ShIs w' gs gm s'∧Ch (fun k=>k=gs∨k=gm) w w':=by have:=us root k gs gm s w hS;rw [hr] at this;exact this
end
end Go.Proofs.YtknioodagnjchaaGreatDoor
