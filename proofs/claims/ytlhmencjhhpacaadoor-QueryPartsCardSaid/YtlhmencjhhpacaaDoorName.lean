/- schema.isName and cahierref18.IsName: whether a text is an index's name; schema.Index and cahierref18.Index. -/
import Derived.Test.YtlhmencjhhpacaaDoorVal
import Derived.Test.YtlhmencjhhpacaaDoorShelf
namespace Go.Proofs.YtlhmencjhhpacaaDoor
open Go.RowKit

def nameByte (r : Nat) : Bool := (decide (97 ≤ r) && decide (r ≤ 122)) || (decide (48 ≤ r) && decide (r ≤ 57))
def oddR (r : Nat) : Bool := !nameByte r
def bytesOk (s : ByteArray) (n : Nat) : Prop := ∀ i, (h : i < s.size) → i < n → nameByte (s[i]).toNat = true
def isNameB (s : ByteArray) : Bool := decide (1 ≤ s.size) && (decide (s.size ≤ 24) && s.data.toList.all fun b => nameByte b.toNat)

theorem all_iff (s : ByteArray) : (s.data.toList.all fun b => nameByte b.toNat) = true ↔ bytesOk s s.size := by
  rw [List.all_eq_true]
  constructor
  · intro h i hi _
    exact h _ (by
      have : s[i] = s.data.toList[i]'(by simpa using hi) := rfl
      rw [this]; exact List.getElem_mem _)
  · intro h b hb
    obtain ⟨i, hi, rfl⟩ := List.getElem_of_mem hb
    have hi' : i < s.size := by simpa using hi
    exact h i hi' hi'

theorem get_bang (s : ByteArray) (i : Nat) (h : i < s.size) : s.get! i = s[i] := by
  have h' : i < s.data.size := h
  show s.data[i]! = s.data[i]
  rw [getElem!_pos s.data i h']
theorem nameByte_lt {r : Nat} (h : nameByte r = true) : r < 128 := by
  unfold nameByte at h
  simp at h
  omega

theorem bytesOk_up {s : ByteArray} {k : Nat} (h : bytesOk s k) (hk : k < s.size) (hb : nameByte (s[k]).toNat = true) : bytesOk s (k + 1) := by
  intro i hi hlt
  by_cases e : i = k
  · subst e; exact hb
  · exact h i hi (by omega)
theorem isNameB_bad {s : ByteArray} {k : Nat} (hk : k < s.size) (hb : nameByte (s[k]).toNat = false) : isNameB s = false := by
  unfold isNameB
  have : (s.data.toList.all fun b => nameByte b.toNat) = false := by
    rcases Bool.eq_false_or_eq_true (s.data.toList.all fun b => nameByte b.toNat) with h | h
    · have := (all_iff s).1 h k hk hk
      rw [hb] at this; cases this
    · exact h
  rw [this]; simp
theorem isNameB_end {s : ByteArray} {k : Nat} (h : bytesOk s k) (hk : ¬ k < s.size) : isNameB s = (decide (1 ≤ s.size) && decide (s.size ≤ 24)) := by
  unfold isNameB
  rw [(all_iff s).2 fun i hi _ => h i hi (by omega)]
  simp

/-- what an index answers -/
def indexE (nm : ByteArray) (t k : Int) : Int :=
  if isNameB nm = false then 1 else if colOk t k = false then 41 else if ((colGet t k).kind != 1 && (colGet t k).kind != 2) = true then 42 else 0

end Go.Proofs.YtlhmencjhhpacaaDoor
