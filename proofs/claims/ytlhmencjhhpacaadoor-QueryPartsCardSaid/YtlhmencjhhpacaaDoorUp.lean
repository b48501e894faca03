/- A region that draws its order and holds calls that only make new memory: walked once, in the text's order, in any world above the one at hand. -/
import Derived.Test.YtlhmencjhhpacaaDoorMem
namespace Go.Proofs.YtlhmencjhhpacaaDoor
open Go.RowKit

theorem blk_new {w0 : World} {o : Obj} {g : Nat} (h : g = w0.heap.size) : (w0.alloc o).heap[g]? = some o := by subst h; exact heap_alloc_new _ _
theorem blk_keep {w w' : World} {g : Nat} {o : Obj} (h : w.heap[g]? = some o) (hb : Below w.heap.size w w') : w'.heap[g]? = some o := by
  rw [hb.block g ?_]
  · exact h
  · rcases Nat.lt_or_ge g w.heap.size with hlt | hge
    · exact hlt
    · rw [Array.getElem?_eq_none hge] at h; cases h
theorem blk_set {w : World} {g : Nat} {cs : Array Value} {e : TypeId} (h : w.heap[g]? = some (.cells cs e (0, 0))) (i : Nat) (u : Value) : (w.setCell ⟨g, i, none⟩ u).heap[g]? = some (.cells (cs.setIfInBounds i u) e (0, 0)) := by
  simp [World.setCell, Array.getElem?_modify, h]
theorem blk_cell {w : World} {g : Nat} {cs : Array Value} {e : TypeId} (h : w.heap[g]? = some (.cells cs e (0, 0))) (i : Nat) : w.cell? ⟨g, i, none⟩ = cs[i]? := by
  simp [World.cell?, h]
theorem blk_frozen {w : World} {g : Nat} {cs : Array Value} {e : TypeId} (h : w.heap[g]? = some (.cells cs e (0, 0))) (i : Nat) : w.frozen? ⟨g, i, none⟩ = false := by
  simp [World.frozen?, h]

theorem blk_lt {w : World} {g : Nat} {o : Obj} (h : w.heap[g]? = some o) : g < w.heap.size := by
  rcases Nat.lt_or_ge g w.heap.size with hlt | hge
  · exact hlt
  · rw [Array.getElem?_eq_none hge] at h; cases h
theorem blk_alloc {w : World} {g : Nat} {o : Obj} (h : w.heap[g]? = some o) (o' : Obj) : (w.alloc o').heap[g]? = some o := (Below.heap_alloc w o' g (blk_lt h)).trans h

/-- a world in which all that lay in w0 lies unturned -/
structure Up (w0 : World) where
  w : World
  h : Below w0.heap.size w0 w
instance (w0 : World) : Nonempty (Up w0) := ⟨⟨w0, Below.refl _ _⟩⟩
theorem Up.cell {w0 : World} (y : Up w0) (b o : Nat) (h : b < w0.heap.size) : y.w.cell? ⟨b, o, none⟩ = w0.cell? ⟨b, o, none⟩ := y.h.cell (p := ⟨b, o, none⟩) h
theorem up_at {w0 : World} {b o : Nat} {v : Value} (h : w0.cell? ⟨b, o, none⟩ = some v) (hb : b < w0.heap.size) : ∀ y : Up w0, y.w.cell? ⟨b, o, none⟩ = some v := fun y => (y.cell b o hb).trans h
theorem up_alloc {w0 : World} {b o : Nat} {v : Value} {O : Obj} (h : w0.cell? ⟨b, o, none⟩ = some v) (hb : b < w0.heap.size) : ∀ y : Up (w0.alloc O), y.w.cell? ⟨b, o, none⟩ = some v := fun y =>
  (y.cell b o (by simp; omega)).trans ((World.cell?_alloc_lt w0 O ⟨b, o, none⟩ hb).trans h)
theorem up_new {w0 : World} {cs : Array Value} {e : TypeId} : ∀ (y : Up (w0.alloc (.cells cs e))) (o : Nat), y.w.cell? ⟨w0.heap.size, o, none⟩ = cs[o]? := fun y o =>
  (y.cell _ o (by simp)).trans (by simp)
theorem wp_region_up {P : Program} {id : Nat} {Q : Exit → Act → World → Prop} {a : Act} {w : World} {l : List Oper} (hm : P.follows .mixedOrders = true) (hB : Region.lexB .any l.toArray = true)
    (h : wpQuiet P l.toArray (fun w' => ∃ y : Up w, w' = y.w) (fun a' => ∀ w', (∃ y : Up w, w' = y.w) → Q .normal a' w') l a) : (Code.region id l.toArray true).wp P Q a w :=
  wp_region_quiet (C := fun w' => ∃ y : Up w, w' = y.w) hm hB ⟨⟨w.drew, (Below.refl _ _).drew⟩, rfl⟩ (by simpa using h)
theorem up_call {P : Program} {f : FuncId} {args : Array Value} {w0 : World} {y : Up w0} {v : Value} (h : Calls P f args y.w fun e w' => e = .returned v ∧ Below y.w.heap.size y.w w') :
    Calls P f args y.w fun e w'' => e = .returned v ∧ ∃ z : Up w0, w'' = z.w :=
  h.mono fun _ w' ⟨he, hb⟩ => ⟨he, ⟨w', y.h.trans (hb.mono y.h.size)⟩, rfl⟩
theorem up_same {P : Program} {f : FuncId} {args : Array Value} {w0 : World} {y : Up w0} {v : Value} (h : Calls P f args y.w fun e w' => e = .returned v ∧ y.w = w') :
    Calls P f args y.w fun e w'' => e = .returned v ∧ ∃ z : Up w0, w'' = z.w :=
  h.mono fun _ _ ⟨he, hb⟩ => ⟨he, y, hb.symm⟩
end Go.Proofs.YtlhmencjhhpacaaDoor
