/- schema.Number, schema.Col and the references': tables and columns by their names. -/
import Derived.Test.YtlhmencjhhpacaaDoorCols
namespace Go.Proofs.YtlhmencjhhpacaaDoor
open Go.RowKit

def number (s : ByteArray) : Int :=
  if ([115, 116, 121, 108, 101, 115] == s.toList) = true then 1 else if ([112, 97, 114, 97, 115] == s.toList) = true then 2 else if ([98, 108, 111, 98, 115] == s.toList) = true then 3 else 0
def isNamed (s : ByteArray) (x : C) : Bool := x.name.toList == s.toList
theorem cols_len (t : Int) : (cols t).length ≤ 4 := by unfold cols; split <;> (try split) <;> (try split) <;> simp
def colNo (t : Int) (s : ByteArray) : Int := 1 + firstOr (isNamed s) (cols t)
theorem firstOr_bd {α : Type} (p : α → Bool) (xs : List α) : -1 ≤ firstOr p xs ∧ firstOr p xs ≤ xs.length := by
  unfold firstOr; split <;> omega
end Go.Proofs.YtlhmencjhhpacaaDoor
