/- schema.Row and cahierref18.Row: whether a row can stand in a table. -/
import Derived.Test.YtlhmencjhhpacaaDoorName
namespace Go.Proofs.YtlhmencjhhpacaaDoor
open Go.RowKit

/-- the first number that isn't 0 -/
def firstErr : List Int → Int
  | [] => 0
  | e :: es => if e = 0 then firstErr es else e
theorem firstErr_none : ∀ (l : List Int), (∀ (j : Nat) (h : j < l.length), l[j] = 0) → firstErr l = 0
  | [], _ => rfl
  | e :: es, h => by
    have h0 : e = 0 := h 0 (by simp)
    rw [firstErr, if_pos h0]
    exact firstErr_none es fun j hj => h (j + 1) (by simp; omega)
theorem firstErr_at : ∀ (l : List Int) (k : Nat) (hk : k < l.length), l[k] ≠ 0 → (∀ (j : Nat) (h : j < l.length), j < k → l[j] = 0) → firstErr l = l[k]
  | [], k, hk, _, _ => by simp at hk
  | e :: es, 0, hk, hne, _ => by
    rw [firstErr, if_neg (by simpa using hne)]; rfl
  | e :: es, k + 1, hk, hne, hall => by
    have h0 : e = 0 := hall 0 (by simp) (by omega)
    rw [firstErr, if_pos h0]
    exact firstErr_at es k (by simp at hk; omega) (by simpa using hne) fun j hj hlt => hall (j + 1) (by simp; omega) (by omega)
def fitsAt (t : Int) (xs : List V) : List Int := xs.mapIdx fun i x => fitsE t ((i : Int) + 1) x.k x.n x.s
def rowE (t : Int) (xs : List V) : Int := if (cols t).length = 0 then 41 else if xs.length ≠ (cols t).length then 42 else firstErr (fitsAt t xs)
theorem fitsAt_len (t : Int) (xs : List V) : (fitsAt t xs).length = xs.length := by simp [fitsAt]
theorem fitsAt_get (t : Int) (xs : List V) (k : Nat) (h : k < (fitsAt t xs).length) : (fitsAt t xs)[k] = fitsE t ((k : Int) + 1) (xs[k]'(by simpa [fitsAt] using h)).k (xs[k]'(by simpa [fitsAt] using h)).n (xs[k]'(by simpa [fitsAt] using h)).s := by
  simp [fitsAt]
def allFit (t : Int) (xs : List V) (k : Nat) : Prop := ∀ j (h : j < xs.length), j < k → fitsE t ((j : Int) + 1) xs[j].k xs[j].n xs[j].s = 0
theorem rowE_bad {t : Int} {xs : List V} {k : Nat} (hn : xs.length = (cols t).length) (hk : k < xs.length) (h : (fitsE t ((k : Int) + 1) xs[k].k xs[k].n xs[k].s != 0) = true) (hall : allFit t xs k) : rowE t xs = fitsE t ((k : Int) + 1) xs[k].k xs[k].n xs[k].s := by
  unfold rowE
  rw [if_neg (by omega), if_neg (by omega)]
  have hk' : k < (fitsAt t xs).length := by rw [fitsAt_len]; exact hk
  rw [firstErr_at (fitsAt t xs) k hk' (by rw [fitsAt_get]; simpa using h) (fun j hj hlt => by rw [fitsAt_get]; exact hall j (by simpa [fitsAt_len] using hj) hlt), fitsAt_get]
theorem rowE_ok {t : Int} {xs : List V} {k : Nat} (hn : xs.length = (cols t).length) (h0 : (cols t).length ≠ 0) (hk : ¬ k < xs.length) (hall : allFit t xs k) : rowE t xs = 0 := by
  unfold rowE
  rw [if_neg h0, if_neg (by omega)]
  exact firstErr_none _ fun j hj => by rw [fitsAt_get]; exact hall j (by simpa [fitsAt_len] using hj) (by rw [fitsAt_len] at hj; omega)
theorem allFit_up {t : Int} {xs : List V} {k : Nat} (h : allFit t xs k) (hk : k < xs.length) (hf : (fitsE t ((k : Int) + 1) xs[k].k xs[k].n xs[k].s != 0) = false) : allFit t xs (k + 1) := by
  intro j hj hlt
  by_cases e : j = k
  · subst e; simpa using hf
  · exact h j hj (by omega)

end Go.Proofs.YtlhmencjhhpacaaDoor
