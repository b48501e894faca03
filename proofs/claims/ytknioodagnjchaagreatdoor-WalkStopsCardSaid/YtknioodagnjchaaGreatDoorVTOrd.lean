/- The walk of cahierlaw16.TreeOrders. -/
import Derived.Test.YtknioodagnjchaaGreatDoorVTAw16
import Derived.Test.YtknioodagnjchaaGreatDoorVTNumb
import Derived.Deep.Cut
import Derived.Deep.CutRange
namespace Go.Proofs.YtknioodagnjchaaGreatDoor
open Go.RowKit
def bC (b:Bool):List Value:=[.bool b]
theorem flat_bC (l:List Bool):l.flatMap bC=l.map Value.bool:=by
 induction l with
 | nil=>rfl
 | cons b l ih=>simp [bC,ih]
def Bools (w:World) (g:Nat) (l:List Bool):Prop:=w.heap[g]?=some (.cells (l.flatMap bC).toArray 4 (0,0))
theorem Bools.cell {w:World} {g:Nat} {l:List Bool} (h:Bools w g l) {j:Nat} (hj:j<l.length):w.cell? ⟨g,j,none⟩=some (.bool l[j]):=by
 unfold Bools at h
 rw [flat_bC] at h
 simp [World.cell?,h,hj]
theorem Bools.set {w:World} {g:Nat} {l:List Bool} (h:Bools w g l) (j:Nat) (b:Bool):Bools (w.setCell ⟨g,j,none⟩ (.bool b)) g (l.set j b):=by
 unfold Bools at h ⊢
 rw [flat_bC] at h
 simp only [World.setCell,Array.getElem?_modify,h,if_true,Option.map_some,flat_bC]
 simp [List.map_set]
theorem Bools.keep {w w':World} {g:Nat} {l:List Bool} (h:Bools w g l) (hb:Below w.heap.size w w'):Bools w' g l:=blk_keep h hb
theorem mod_nat (x:Int) (m:Int) (h0:0<m) (h1:m≤1000000):∃ k:Nat,wrap64 ((IntKind.u64.wrap x).tmod m)=(k:Int)∧(k:Int)<m:=by
 have h0':0≤IntKind.u64.wrap x:=by rw [IntKind.wrap_u64];omega
 rw [Int.tmod_eq_emod_of_nonneg h0']
 have h2:=Int.emod_nonneg (IntKind.u64.wrap x) (show m≠0 by omega)
 have h3:=Int.emod_lt_of_pos (IntKind.u64.wrap x) h0
 generalize IntKind.u64.wrap x % m=r at *
 refine ⟨r.toNat,?_,by omega⟩
 unfold wrap64
 omega
end Go.Proofs.YtknioodagnjchaaGreatDoor
