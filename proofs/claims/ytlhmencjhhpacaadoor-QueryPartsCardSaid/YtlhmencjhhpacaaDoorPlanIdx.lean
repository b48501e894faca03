/- cahierref20.indexes: the indexes of a table, the unique column's first. -/
import Derived.Test.YtlhmencjhhpacaaDoorPlanOver
namespace Go.Proofs.YtlhmencjhhpacaaDoor
open Go.RowKit
attribute [local go_sem ↓] Go.wp_at_zero Go.wp_at_succ

theorem uniqI_one (t : Int) (xs : List C) : uniqI t xs 1 = [] := by rw [uniqI_succ]; rfl
theorem uniqI_end {t : Int} {xs : List C} {j : Nat} (h1 : ¬ j < xs.length) (h : j ≤ xs.length ∨ j = 1) : uniqI t xs j = uniqI t xs xs.length := by
  rcases h with h | rfl
  · rw [show j = xs.length by omega]
  · rcases (by omega : xs.length = 0 ∨ xs.length = 1) with h | h
    · rw [h, uniqI_one]; rfl
    · rw [h]

end Go.Proofs.YtlhmencjhhpacaaDoor
