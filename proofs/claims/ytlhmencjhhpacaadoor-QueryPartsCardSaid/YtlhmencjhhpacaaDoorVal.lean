/- value.Good and cahierref06.Good; schema.holds, schema.column, schema.Fits and cahierref18.Fits. -/
import Derived.Test.YtlhmencjhhpacaaDoorNum
namespace Go.Proofs.YtlhmencjhhpacaaDoor
open Go.RowKit

/-- whether a value is good -/
def goodB (k n : Int) (s : ByteArray) : Bool :=
  if k == 0 then n == 0 && s.toList.isEmpty else if k == 1 then s.toList.isEmpty else if k == 2 || k == 3 then n == 0 && decide ((s.size : Int) ≤ 2000) else false

theorem good_any (k n : Int) (s : ByteArray) (w : World) (_hs : s.size ≤ maxLen) :
    Calls Tryd.prog 14 #[.agg #[.int .i64 k, .int .i64 n, .string s]] w fun e w' => e = .returned (.bool (goodB k n s)) ∧ Below w.heap.size w w' := by
  unfold maxLen at _hs
  go_enter Tryd.func14, Tryd.ntmps14
  go_wp2
  all_goals go_ret
  all_goals refine ⟨ret_b ?_, by go_grown⟩
  all_goals simp_all [goodB]
theorem goodR_any (k n : Int) (s : ByteArray) (w : World) (_hs : s.size ≤ maxLen) :
    Calls Tryd.prog 13 #[.agg #[.int .i64 k, .int .i64 n, .string s]] w fun e w' => e = .returned (.bool (goodB k n s)) ∧ Below w.heap.size w w' := by
  unfold maxLen at _hs
  go_enter Tryd.func13, Tryd.ntmps13
  go_wp2
  all_goals go_ret
  all_goals refine ⟨ret_b ?_, by go_grown⟩
  all_goals simp_all [goodB]

/-- whether a good value that isn't Null is of a column's kind -/
def holdsB (kind vk : Int) (s : ByteArray) : Bool :=
  if kind == 1 then vk == 1 else if kind == 2 then vk == 2 && decide ((s.size : Int) ≤ 24) else if kind == 3 then vk == 2 && decide ((s.size : Int) ≤ 1000) else vk == 3 && decide ((s.size : Int) ≤ 1000)

def cZero : C := ⟨⟨#[]⟩, 0, false, false, 0⟩
def colOk (t k : Int) : Bool := decide (1 ≤ k ∧ k ≤ (cols t).length)
def colGet (t k : Int) : C := if colOk t k = true then (cols t).getD (k - 1).toNat cZero else cZero
/-- what a column answers of a value -/
def fitsE (t k vk vn : Int) (s : ByteArray) : Int :=
  if colOk t k = false then 41 else if (vk == 0 && !(colGet t k).null) = true then 43 else if (!goodB vk vn s || (vk != 0 && !holdsB (colGet t k).kind vk s)) = true then 42 else 0

/-- The kinds of columns are 1 to 4. -/
theorem colGet_kind (t k : Int) (h : colOk t k = true) : (colGet t k).kind = 1 ∨ (colGet t k).kind = 2 ∨ (colGet t k).kind = 3 ∨ (colGet t k).kind = 4 := by
  unfold colGet
  rw [if_pos h]
  unfold colOk at h
  have h := of_decide_eq_true h
  have hj : (k - 1).toNat < (cols t).length := by omega
  rw [List.getD_eq_getElem?_getD, List.getElem?_eq_getElem hj]
  generalize (k - 1).toNat = j at hj
  have key : ∀ x ∈ cols t, x.kind = 1 ∨ x.kind = 2 ∨ x.kind = 3 ∨ x.kind = 4 := by
    intro x hx
    unfold cols at hx
    split at hx
    · simp at hx; rcases hx with rfl | rfl | rfl <;> simp [cId]
    split at hx
    · simp at hx; rcases hx with rfl | rfl | rfl | rfl <;> simp [cId]
    split at hx
    · simp at hx; rcases hx with rfl | rfl | rfl | rfl <;> simp [cId]
    · simp at hx
  exact key _ (List.getElem_mem hj)

end Go.Proofs.YtlhmencjhhpacaaDoor
