/- The walk of cahierlaw16.TreeOrders. -/
import Derived.Test.YtknioodagnjchaaGreatDoorUTAw16
import Derived.Test.YtknioodagnjchaaGreatDoorUTNumb
import Derived.Deep.Cut
import Derived.Deep.CutRange
namespace Go.Proofs.YtknioodagnjchaaGreatDoor
open Go.RowKit
def bC (b:Bool):List Value:=[.bool b]
theorem nD (l:List Bool):l.flatMap bC=l.map Value.bool:=by
 induction l with
 | nil=>rfl
 | cons b l ih=>simp [bC,ih]
def Bools (w:World) (g:Nat) (l:List Bool):Prop:=w.heap[g]?=some (.cells (l.flatMap bC).toArray 4 (0,0))
theorem Bools.cell {w:World} {g:Nat} {l:List Bool} (h:Bools w g l) {j:Nat} (hj:j<l.length):w.cell? ⟨g,j,none⟩=some (.bool l[j]):=by unfold Bools at h;rw [nD] at h;simp [World.cell?,h,hj]
theorem Bools.set {w:World} {g:Nat} {l:List Bool} (h:Bools w g l) (j:Nat) (b:Bool):Bools (w.setCell ⟨g,j,none⟩ (.bool b)) g (l.set j b):=by unfold Bools at h ⊢;rw [nD] at h;simp only [World.setCell,Array.getElem?_modify,h,if_true,Option.map_some,nD];simp [List.map_set]
theorem Bools.keep {w w':World} {g:Nat} {l:List Bool} (h:Bools w g l) (hb:Below w.heap.size w w'):Bools w' g l:=ab h hb
end Go.Proofs.YtknioodagnjchaaGreatDoor
