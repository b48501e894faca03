/- schema.Fixed and cahierref18.Fixed answer the five fixed entries, in new memory. -/
import Derived.Test.YtlhmencjhhpacaaDoorOwn
import Derived.Test.YtlhmencjhhpacaaDoorNum
namespace Go.Proofs.YtlhmencjhhpacaaDoor
open Go.RowKit

def entT (t : Int) : E := ⟨116, ⟨#[]⟩, t, 0, 0⟩
def entU (t c : Int) : E := ⟨117, ⟨#[]⟩, t, c, 0⟩
def fixedT (k : Nat) : List E := (List.range k).map fun (i : Nat) => entT ((i : Int) + 1)
def isU (xs : List C) (j : Nat) : Bool := decide (0 < j) && (match xs[j]? with | some x => x.uniq | none => false)
def uniqE (t : Int) (xs : List C) (j : Nat) : List E := (List.range j).filterMap fun i => if isU xs i = true then some (entU t ((i : Int) + 1)) else none
def fixedU : Nat → List E
  | 0 => []
  | k + 1 => fixedU k ++ uniqE ((k : Int) + 1) (cols ((k : Int) + 1)) (cols ((k : Int) + 1)).length
def fixedL : List E := [entT 1, entT 2, entT 3, entU 1 2, entU 2 2]
theorem fixed_eq : fixedT 3 ++ fixedU 3 = fixedL := by rfl
theorem uniq_succ (t : Int) (xs : List C) (j : Nat) : uniqE t xs (j + 1) = uniqE t xs j ++ (if isU xs j = true then [entU t ((j : Int) + 1)] else []) := by
  unfold uniqE
  rw [List.range_succ, List.filterMap_append]
  congr 1
  by_cases h : isU xs j = true <;> simp [h]
theorem fixedT_succ (k : Nat) : fixedT (k + 1) = fixedT k ++ [entT ((k : Int) + 1)] := by
  unfold fixedT; rw [List.range_succ, List.map_append]; rfl
theorem fixedT_len (k : Nat) : (fixedT k).length = k := by simp [fixedT]
theorem uniq_len (t : Int) (xs : List C) (j : Nat) : (uniqE t xs j).length ≤ j := by
  have := List.length_filterMap_le (fun i => if isU xs i = true then some (entU t ((i : Int) + 1)) else none) (List.range j)
  simpa [uniqE] using this
theorem fixedU_len (k : Nat) : (fixedU k).length ≤ 4 * k := by
  induction k with
  | zero => simp [fixedU]
  | succ k ih =>
    have h1 := uniq_len ((k : Int) + 1) (cols ((k : Int) + 1)) (cols ((k : Int) + 1)).length
    have h2 := cols_len ((k : Int) + 1)
    simp only [fixedU, List.length_append]
    omega

end Go.Proofs.YtlhmencjhhpacaaDoor
