/- The walks of a cache's ring: an entry leaves; an entry is the one used last. -/
import Derived.Test.YtdmhbgpejppbkaaGreatXGag
import Derived.Test.YtdmhbgpejppbkaaGreatRows
import Derived.WalkKit
import Derived.WalkSpells
import Derived.Handy
import Derived.Lib.Hide
import Derived.RegionTactic
import Derived.BigRegion
set_option maxRecDepth 100000
set_option maxHeartbeats 1000000
namespace Go.Proofs.YtdmhbgpejppbkaaGreat
open Go.Lib (hid)
open Go.RowKit
structure Eqv (w' w:World):Prop where
 heap:w'.heap=w.heap
 os:w'.os=w.os
 tape:w'.tape=w.tape
 output:w'.output=w.output
theorem vU (x p q:Nat) (u v:Value) (w:World) (ho:w.cell? ⟨x,3,none⟩=some (.pointer (some ⟨p,0,none⟩))) (hn:w.cell? ⟨x,4,none⟩=some (.pointer (some ⟨q,0,none⟩)))
  (hpu:w.cell? ⟨p,4,none⟩=some u) (hqv:w.cell? ⟨q,3,none⟩=some v) (fp:w.frozen? ⟨p,4,none⟩=false) (fq:w.frozen? ⟨q,3,none⟩=false):
  Calls Tryz.prog 175 #[.pointer (some ⟨x,0,none⟩)] w fun e w'=>e=.returned (.tuple #[])∧Eqv w' ((w.setCell ⟨p,4,none⟩ (.pointer (some ⟨q,0,none⟩))).setCell ⟨q,3,none⟩ (.pointer (some ⟨p,0,none⟩))):=by
 go_enter Tryz.func175,Tryz.ntmps175;go_wp2;go_region;go_end0;exact ⟨rfl,⟨rfl,rfl,rfl,rfl⟩⟩
theorem pt (c x r l:Nat) (u v u2:Value) (w:World) (hcr:w.cell? ⟨c,1,none⟩=some (.pointer (some ⟨r,0,none⟩))) (hro:w.cell? ⟨r,3,none⟩=some (.pointer (some ⟨l,0,none⟩)))
  (hxu:w.cell? ⟨x,3,none⟩=some u) (hxv:w.cell? ⟨x,4,none⟩=some v) (hlu:w.cell? ⟨l,4,none⟩=some u2) (fx:w.frozen? ⟨x,3,none⟩=false) (fx4:w.frozen? ⟨x,4,none⟩=false) (fl:w.frozen? ⟨l,4,none⟩=false) (fr:w.frozen? ⟨r,3,none⟩=false)
  (hlx:l≠x) (hrx:r≠x):
  Calls Tryz.prog 183 #[.pointer (some ⟨c,0,none⟩),.pointer (some ⟨x,0,none⟩)] w fun e w'=>e=.returned (.tuple #[])∧
   Eqv w' ((((w.setCell ⟨x,3,none⟩ (.pointer (some ⟨l,0,none⟩))).setCell ⟨x,4,none⟩ (.pointer (some ⟨r,0,none⟩))).setCell ⟨l,4,none⟩ (.pointer (some ⟨x,0,none⟩))).setCell ⟨r,3,none⟩ (.pointer (some ⟨x,0,none⟩))):=by
 go_enter Tryz.func183,Tryz.ntmps183;go_wp2;go_region;have c1:((w.setCell ⟨x,3,none⟩ (.pointer (some ⟨l,0,none⟩))).setCell ⟨x,4,none⟩ (.pointer (some ⟨r,0,none⟩))).cell? ⟨x,3,none⟩=some (.pointer (some ⟨l,0,none⟩)):=by rw [World.cell?_setCell_other _ _ _ _ (by simp),World.cell?_setCell_same' _ _ _ (by rw [hxu];rfl)]
 have c2:((w.setCell ⟨x,3,none⟩ (.pointer (some ⟨l,0,none⟩))).setCell ⟨x,4,none⟩ (.pointer (some ⟨r,0,none⟩))).cell? ⟨x,4,none⟩=some (.pointer (some ⟨r,0,none⟩)):=by rw [World.cell?_setCell_same' _ _ _ (by rw [World.cell?_setCell_other _ _ _ _ (by simp),hxv];rfl)]
 have c3:((w.setCell ⟨x,3,none⟩ (.pointer (some ⟨l,0,none⟩))).setCell ⟨x,4,none⟩ (.pointer (some ⟨r,0,none⟩))).cell? ⟨l,4,none⟩=some u2:=by rw [World.cell?_setCell_other _ _ _ _ (fun h=>by cases h <;> exact hlx rfl),World.cell?_setCell_other _ _ _ _ (fun h=>by cases h <;> exact hlx rfl),hlu]
 have c4:((w.setCell ⟨x,3,none⟩ (.pointer (some ⟨l,0,none⟩))).setCell ⟨x,4,none⟩ (.pointer (some ⟨r,0,none⟩))).cell? ⟨r,3,none⟩=some (.pointer (some ⟨l,0,none⟩)):=by rw [World.cell?_setCell_other _ _ _ _ (fun h=>by cases h <;> exact hrx rfl),World.cell?_setCell_other _ _ _ _ (fun h=>by cases h <;> exact hrx rfl),hro]
 have f3:((w.setCell ⟨x,3,none⟩ (.pointer (some ⟨l,0,none⟩))).setCell ⟨x,4,none⟩ (.pointer (some ⟨r,0,none⟩))).frozen? ⟨l,4,none⟩=false:=by rw [World.frozen?_setCell,World.frozen?_setCell,fl]
 have f4:((w.setCell ⟨x,3,none⟩ (.pointer (some ⟨l,0,none⟩))).setCell ⟨x,4,none⟩ (.pointer (some ⟨r,0,none⟩))).frozen? ⟨r,3,none⟩=false:=by rw [World.frozen?_setCell,World.frozen?_setCell,fr]
 generalize hw1:(w.setCell ⟨x,3,none⟩ (.pointer (some ⟨l,0,none⟩))).setCell ⟨x,4,none⟩ (.pointer (some ⟨r,0,none⟩))=w1 at *;have HW:=hid hw1;clear hw1;go_wp2;go_region;go_end0;exact ⟨rfl,by rw [HW.out];exact ⟨rfl,rfl,rfl,rfl⟩⟩
end Go.Proofs.YtdmhbgpejppbkaaGreat
