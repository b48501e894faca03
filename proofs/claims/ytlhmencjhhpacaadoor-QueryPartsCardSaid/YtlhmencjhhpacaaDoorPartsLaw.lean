/- The plain law of cahierlaw20.QueryParts: a condition and its opposite, and Null, part the rows. -/
import Derived.Test.YtlhmencjhhpacaaDoorMatch
namespace Go.Proofs.YtlhmencjhhpacaaDoor
open Go.RowKit

theorem matchB_snoc (r : List V) (cs : List Cnd) (x : Cnd) : matchB r (cs ++ [x]) = (matchB r cs && matchB r [x]) := by
  unfold matchB; rw [List.all_append]
theorem matchB_one (r : List V) (x : Cnd) : matchB r [x] = condB r x := by
  unfold matchB; simp
/-- the operations of the law, in its order: at most, above, Null -/
def opsL : List Int := [4, 5, 7]
/-- how many of the first k operations the row meets -/
def partsN (r : List V) (cs : List Cnd) (col : Int) (v : V) (k : Nat) : Int := ((opsL.take k).countP (fun o => matchB r (cs ++ [⟨col, o, v⟩])) : Nat)
theorem partsN_zero (r : List V) (cs : List Cnd) (col : Int) (v : V) : partsN r cs col v 0 = 0 := rfl
theorem partsN_le (r : List V) (cs : List Cnd) (col : Int) (v : V) (k : Nat) : 0 ≤ partsN r cs col v k ∧ partsN r cs col v k ≤ 3 := by
  unfold partsN
  have h1 := List.countP_le_length (p := fun o => matchB r (cs ++ [⟨col, o, v⟩])) (l := opsL.take k)
  have h2 : (opsL.take k).length ≤ 3 := by rw [List.length_take]; exact Nat.min_le_right _ _
  omega
theorem partsN_succ (r : List V) (cs : List Cnd) (col : Int) (v : V) {k : Nat} (hk : k < opsL.length) : partsN r cs col v (k + 1) = partsN r cs col v k + (if matchB r (cs ++ [⟨col, opsL[k], v⟩]) = true then 1 else 0) := by
  unfold partsN
  rw [List.take_succ_eq_append_getElem hk, List.countP_append, List.countP_singleton]
  split <;> simp
theorem meets_parts (x v : V) (hv : v.k ≠ 0) :
    (if meetsB x.k x.n x.s 4 v.k v.n v.s = true then 1 else 0) + (if meetsB x.k x.n x.s 5 v.k v.n v.s = true then 1 else 0) + (if meetsB x.k x.n x.s 7 v.k v.n v.s = true then 1 else 0) = (1 : Int) := by
  unfold meetsB
  have h2 : (v.k == 0) = false := by simpa using hv
  rcases Bool.eq_false_or_eq_true (x.k == 0) with h1 | h1
  · simp [h1, h2]
  · generalize cmpV x.k x.n x.s v.k v.n v.s = c
    by_cases hc : c ≤ 0
    · have : ¬ 0 < c := by omega
      simp [h1, h2, hc, this]
    · have : 0 < c := by omega
      simp [h1, h2, hc, this]
theorem parts_law (r : List V) (cs : List Cnd) (col : Int) (v : V) (hv : v.k ≠ 0) :
    partsN r cs col v 3 = if (decide (1 ≤ col) && decide (col ≤ r.length) && matchB r cs) = true then 1 else 0 := by
  rw [partsN_succ r cs col v (k := 2) (by decide), partsN_succ r cs col v (k := 1) (by decide), partsN_succ r cs col v (k := 0) (by decide), partsN_zero]
  simp only [matchB_snoc, matchB_one, show opsL[0] = 4 from rfl, show opsL[1] = 5 from rfl, show opsL[2] = 7 from rfl]
  cases hm : matchB r cs
  · simp
  by_cases hin : 1 ≤ col ∧ col ≤ r.length
  · have hj : (col - 1).toNat < r.length := by omega
    have he : col = ((col - 1).toNat : Int) + 1 := by omega
    rw [condB_in (r := r) (op := 4) (v := v) he hj, condB_in (r := r) (op := 5) (v := v) he hj, condB_in (r := r) (op := 7) (v := v) he hj]
    have := meets_parts r[(col - 1).toNat] v hv
    simp only [Bool.true_and, Bool.and_true, Int.zero_add, decide_eq_true hin.1, decide_eq_true hin.2, if_true]
    exact this
  · rw [condB_out (r := r) (c := ⟨col, 4, v⟩) hin, condB_out (r := r) (c := ⟨col, 5, v⟩) hin, condB_out (r := r) (c := ⟨col, 7, v⟩) hin]
    have : (decide (1 ≤ col) && decide (col ≤ r.length)) = false := by
      rw [Bool.and_eq_false_iff, decide_eq_false_iff_not, decide_eq_false_iff_not]
      omega
    simp [this]
end Go.Proofs.YtlhmencjhhpacaaDoor
