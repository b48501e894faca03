/- schema.isName and cahierref18.IsName: whether a text is an index's name; schema.Index and cahierref18.Index. -/
import Derived.Test.YtlhmencjhhpacaaVal
import Derived.Test.YtlhmencjhhpacaaShelf
namespace Go.Proofs.Ytlhmencjhhpacaa
open Go.RowKit

def nameByte (r : Nat) : Bool := (decide (97 ≤ r) && decide (r ≤ 122)) || (decide (48 ≤ r) && decide (r ≤ 57))
def oddR (r : Nat) : Bool := !nameByte r
def bytesOk (s : ByteArray) (n : Nat) : Prop := ∀ i, (h : i < s.size) → i < n → nameByte (s[i]).toNat = true
def isNameB (s : ByteArray) : Bool := decide (1 ≤ s.size) && (decide (s.size ≤ 24) && s.data.toList.all fun b => nameByte b.toNat)

theorem all_iff (s : ByteArray) : (s.data.toList.all fun b => nameByte b.toNat) = true ↔ bytesOk s s.size := by
  rw [List.all_eq_true]
  constructor
  · intro h i hi _
    exact h _ (by
      have : s[i] = s.data.toList[i]'(by simpa using hi) := rfl
      rw [this]; exact List.getElem_mem _)
  · intro h b hb
    obtain ⟨i, hi, rfl⟩ := List.getElem_of_mem hb
    have hi' : i < s.size := by simpa using hi
    exact h i hi' hi'

theorem decode_ascii (s : ByteArray) (i : Nat) (h : (s.get! i).toNat < 128) : Utf8.decode s i = ((s.get! i).toNat, 1) := by
  simp only [Utf8.decode, Nat.add_zero]
  rw [if_pos h]
theorem decode_big (s : ByteArray) (i : Nat) (h : 128 ≤ (s.get! i).toNat) : 128 ≤ (Utf8.decode s i).1 := by
  simp only [Utf8.decode, Nat.add_zero, Utf8.runeError]
  rw [if_neg (by omega)]
  repeat' split
  all_goals simp_all
  all_goals omega
theorem get_bang (s : ByteArray) (i : Nat) (h : i < s.size) : s.get! i = s[i] := by
  have h' : i < s.data.size := h
  show s.data[i]! = s.data[i]
  rw [getElem!_pos s.data i h']
theorem nameByte_lt {r : Nat} (h : nameByte r = true) : r < 128 := by
  unfold nameByte at h
  simp at h
  omega

theorem idx_from (s : ByteArray) : ∀ (f pos : Nat), s.size ≤ pos + f → (Lib.idxFuncFrom oddR true s f pos = -1 ↔ ∀ i, (h : i < s.size) → pos ≤ i → nameByte (s[i]).toNat = true) := by
  intro f
  induction f with
  | zero =>
    intro pos hp
    simp only [Lib.idxFuncFrom, true_iff]
    intro i hi hpi
    omega
  | succ f ih =>
    intro pos hp
    unfold Lib.idxFuncFrom
    by_cases hlt : pos < s.size
    · rw [if_pos hlt]
      have hg := get_bang s pos hlt
      by_cases ho : nameByte (s[pos]).toNat = true
      · have hsm := nameByte_lt ho
        have hd := decode_ascii s pos (by rw [hg]; exact hsm)
        rw [hd, hg]
        have : oddR (s[pos]).toNat ≠ true := by unfold oddR; rw [ho]; simp
        rw [if_neg this]
        rw [ih (pos + 1) (by omega)]
        constructor
        · intro h i hi hpi
          by_cases e : i = pos
          · subst e; exact ho
          · exact h i hi (by omega)
        · intro h i hi hpi
          exact h i hi (by omega)
      · have hodd : oddR (Utf8.decode s pos).1 = true := by
          unfold oddR
          by_cases hsm : (s[pos]).toNat < 128
          · rw [decode_ascii s pos (by rw [hg]; exact hsm), hg]
            simpa using ho
          · have hb := decode_big s pos (by rw [hg]; omega)
            have : nameByte (Utf8.decode s pos).1 = false := by
              rcases Bool.eq_false_or_eq_true (nameByte (Utf8.decode s pos).1) with h | h
              · have := nameByte_lt h; omega
              · exact h
            rw [this]; rfl
        rw [if_pos hodd]
        constructor
        · intro h; omega
        · intro h; exact absurd (h pos hlt (Nat.le_refl _)) ho
    · rw [if_neg hlt]
      simp only [true_iff]
      intro i hi hpi
      omega
theorem contains_iff (s : ByteArray) : decide (0 ≤ Lib.idxFunc oddR true s) = !(s.data.toList.all fun b => nameByte b.toNat) := by
  have h1 := idx_from s s.size 0 (by omega)
  have h2 := Lib.idxFunc_range oddR true s
  have h3 := all_iff s
  rcases Bool.eq_false_or_eq_true (s.data.toList.all fun b => nameByte b.toNat) with h | h
  · rw [h]
    have : Lib.idxFunc oddR true s = -1 := h1.2 fun i hi _ => h3.1 h i hi hi
    rw [this]; rfl
  · rw [h]
    have : Lib.idxFunc oddR true s ≠ -1 := fun e => by
      have := h3.2 fun i hi _ => h1.1 e i hi (Nat.zero_le _)
      rw [h] at this; cases this
    simp; omega

theorem odd_gives (W : World) (r : Nat) : FnGives Try.prog 72 #[] #[encR r] (.bool (oddR r)) W := by
  unfold FnGives
  go_enter Try.func72, Try.ntmps72
  go_wp2
  all_goals go_ret
  all_goals refine ⟨ret_b ?_, 0, rfl⟩
  all_goals rw [Bool.eq_iff_iff]
  all_goals simp [oddR, nameByte]
  all_goals omega
theorem odd_pred (w : World) : PredAt Try.prog 72 #[] encR oddR w := fun W r _ => odd_gives W r

theorem bytesOk_up {s : ByteArray} {k : Nat} (h : bytesOk s k) (hk : k < s.size) (hb : nameByte (s[k]).toNat = true) : bytesOk s (k + 1) := by
  intro i hi hlt
  by_cases e : i = k
  · subst e; exact hb
  · exact h i hi (by omega)
theorem isNameB_bad {s : ByteArray} {k : Nat} (hk : k < s.size) (hb : nameByte (s[k]).toNat = false) : isNameB s = false := by
  unfold isNameB
  have : (s.data.toList.all fun b => nameByte b.toNat) = false := by
    rcases Bool.eq_false_or_eq_true (s.data.toList.all fun b => nameByte b.toNat) with h | h
    · have := (all_iff s).1 h k hk hk
      rw [hb] at this; cases this
    · exact h
  rw [this]; simp
theorem isNameB_end {s : ByteArray} {k : Nat} (h : bytesOk s k) (hk : ¬ k < s.size) : isNameB s = (decide (1 ≤ s.size) && decide (s.size ≤ 24)) := by
  unfold isNameB
  rw [(all_iff s).2 fun i hi _ => h i hi (by omega)]
  simp

theorem isName_any (s : ByteArray) (w : World) (_hs : s.size ≤ maxLen) :
    Calls Try.prog 45 #[.string s] w fun e w' => e = .returned (.bool (isNameB s)) ∧ Below w.heap.size w w' := by
  unfold maxLen at _hs
  have hmf : ∀ (fn : Fn) (first cap : Array Value) (w : World), (Instr.makeFunc fn first cap).run Try.prog w = .ok (.func fn first cap) w := fun _ _ _ _ => rfl
  have hc := contains_iff s
  have HC := Lib.hid hc
  clear hc
  have hlen : s.toList.length = s.size := by rw [ByteArray.toList_eq]; simp
  by_cases h0 : s.size = 0
  · have e0 : s.toList = [] := List.eq_nil_of_length_eq_zero (by omega)
    have hret : isNameB s = false := by unfold isNameB; rw [h0]; simp
    rw [hret]
    clear hret h0 HC hlen
    go_enter Try.func45, Try.ntmps45
    go_wp2
    go_ret
    exact ⟨rfl, by go_grown⟩
  have e0 : ¬ s.toList = [] := fun e => by rw [e] at hlen; simp at hlen; omega
  by_cases h1 : s.size ≤ 24
  · have hret : isNameB s = s.data.toList.all fun b => nameByte b.toNat := by unfold isNameB; rw [decide_eq_true (by omega), decide_eq_true h1]; simp
    rw [hret]
    clear hret hlen
    go_enter Try.func45, Try.ntmps45
    go_wp2_with fail
    refine (Try.strings_ContainsFunc 72 #[] (enters_of Try.func72 (by kernel_rfl) rfl) oddR s _ (odd_pred _)).mono ?_
    rw [HC.out]
    rintro e w1 ⟨rfl, hb⟩
    go_wp2_with fail
    go_ret
    exact ⟨ret_b (by simp [e0]), hb⟩
  · have hret : isNameB s = false := by unfold isNameB; rw [decide_eq_false h1]; simp
    rw [hret]
    clear hret HC hlen
    go_enter Try.func45, Try.ntmps45
    go_wp2
    go_ret
    exact ⟨rfl, by go_grown⟩

theorem isNameR_any (s : ByteArray) (w : World) (_hs : s.size ≤ maxLen) :
    Calls Try.prog 46 #[.string s] w fun e w' => e = .returned (.bool (isNameB s)) ∧ w = w' := by
  unfold maxLen at _hs
  go_enter Try.func46, Try.ntmps46
  go_wp2
  go_loop [3] (fun i => ∃ k : Nat, k ≤ s.size ∧ i = .int .i64 k ∧ bytesOk s k) (fun i => s.size - (intOf i).toNat)
  case atStart => exact ⟨0, Nat.zero_le _, rfl, fun j _ h => absurd h (by omega)⟩
  case round =>
    obtain ⟨k, hk, rfl, hok⟩ := hrel
    have HO := Lib.hid hok
    clear hok
    by_cases hkl : k < s.size
    · have HK := Lib.hid hkl
      go_wp2
      all_goals first
        | (go_ret; exact ⟨ret_b (isNameB_bad HK.out (by rw [← Bool.not_eq_true]; simp [nameByte]; omega)).symm, rfl⟩)
        | (refine ⟨⟨k + 1, by omega, by go_num, bytesOk_up HO.out HK.out (by simp [nameByte]; omega)⟩, by simp [intOf]; omega⟩)
    · have HK := Lib.hid hkl
      go_wp2
      all_goals go_ret
      all_goals refine ⟨ret_b ?_, rfl⟩
      all_goals rw [isNameB_end HO.out HK.out]
      all_goals rw [Bool.eq_iff_iff]
      all_goals simp
      all_goals omega

/-- what an index answers -/
def indexE (nm : ByteArray) (t k : Int) : Int :=
  if isNameB nm = false then 1 else if colOk t k = false then 41 else if ((colGet t k).kind != 1 && (colGet t k).kind != 2) = true then 42 else 0

theorem index_any (nm : ByteArray) (t k : Int) (w : World) (hs : nm.size ≤ maxLen) :
    Calls Try.prog 23 #[.agg #[.string nm, .int .i64 t, .int .i64 k]] w fun e w' => e = .returned (.int .i64 (indexE nm t k)) ∧ Below w.heap.size w w' := by
  go_enter Try.func23, Try.ntmps23
  go_wp2_with fail
  refine (column_any _ _ _).mono ?_
  rintro e w1 ⟨rfl, hb⟩
  obtain ⟨hc1, hf1⟩ := bcell hb
  have hz1 : w.heap.size < w1.heap.size := by have := hb.size; simp only [World.size_alloc] at this; omega
  have hz1' := Nat.le_of_lt hz1
  have HB := Lib.hid (((Below.refl _ w).alloc (Nat.le_refl _) _).trans (hb.mono (by simp)))
  clear hb
  go_wp2_with fail
  refine (isName_any _ _ hs).mono ?_
  rintro e w2 ⟨rfl, hb2⟩
  obtain ⟨hc2, hf2⟩ := bcell hb2
  have hz2 : w1.heap.size < w2.heap.size := by have := hb2.size; simp only [World.size_alloc] at this; omega
  have hz2' : w.heap.size < w2.heap.size := by omega
  have HB2 := Lib.hid ((HB.out.alloc HB.out.size _).trans (hb2.mono (by simp; omega)))
  clear hb2
  go_wp2_with fail
  all_goals go_ret
  all_goals refine ⟨ret_i ?_, HB2.out⟩
  all_goals clear hc1 hf1 hc2 hf2
  all_goals simp_all [indexE]

theorem indexR_any (nm : ByteArray) (t k : Int) (w : World) (hs : nm.size ≤ maxLen) :
    Calls Try.prog 24 #[.agg #[.string nm, .int .i64 t, .int .i64 k]] w fun e w' => e = .returned (.int .i64 (indexE nm t k)) ∧ Below w.heap.size w w' := by
  have hl := cols_len t
  by_cases hk : 1 ≤ k ∧ k ≤ (cols t).length
  · obtain ⟨j, rfl⟩ : ∃ j : Nat, k = j + 1 := ⟨(k - 1).toNat, by omega⟩
    have hok : colOk t (j + 1) = true := by unfold colOk; exact decide_eq_true hk
    have hjl : j < (cols t).length := by omega
    have hkind := colGet_kind t (j + 1) hok
    have hget : (cols t)[j] = colGet t (j + 1) := by
      unfold colGet
      rw [if_pos hok, show ((j : Int) + 1 - 1).toNat = j from by omega, List.getD_eq_getElem?_getD, List.getElem?_eq_getElem hjl]
      rfl
    have hret : indexE nm t (j + 1) = if isNameB nm = false then 1 else if ((colGet t (j + 1)).kind != 1 && (colGet t (j + 1)).kind != 2) = true then 42 else 0 := by
      unfold indexE; rw [hok]; rfl
    have Hret := Lib.hid hret
    clear hret hok
    go_enter Try.func24, Try.ntmps24
    go_wp2_with fail
    refine (isNameR_any _ _ hs).mono ?_
    rintro e w2 ⟨rfl, rfl⟩
    go_wp2_with fail
    · go_ret
      exact ⟨ret_i (by rw [Hret.out]; simp_all), by go_grown⟩
    refine (colsR_any _ _).mono ?_
    rintro e w1 ⟨v, rfl, hsl, -, hb⟩
    generalize colGet t (j + 1) = x at *
    generalize cols t = xs at *
    rcases hsl.cases with ⟨A, c, rfl, rfl⟩ | ⟨b, off, c, rfl, -, hbl, hsl'⟩
    · simp at hjl
    obtain ⟨-, hcells⟩ := hsl'.cells hjl
    rw [hget] at hcells
    obtain ⟨e0, e1, e2, e3, e4⟩ := C.row hcells
    obtain ⟨hc1, hf1⟩ := bcell hb
    have HB := Lib.hid (((Below.refl _ w).alloc (Nat.le_refl _) _).trans (hb.mono (by simp)))
    have HK := Lib.hid hkind
    clear hb hsl hsl' hcells hget hkind
    go_wp2_with fail
    all_goals go_ret
    all_goals refine ⟨ret_i ?_, HB.out⟩
    all_goals rw [Hret.out]
    all_goals have hK := HK.out
    all_goals clear hc1 hf1 e0 e1 e2 e3 e4 HK Hret
    all_goals (rcases hK with hK | hK | hK | hK <;> simp_all)
  · have hok : colOk t k = false := by unfold colOk; exact decide_eq_false hk
    have hret : indexE nm t k = if isNameB nm = false then 1 else 41 := by unfold indexE; rw [hok]; rfl
    have Hret := Lib.hid hret
    clear hret hok
    go_enter Try.func24, Try.ntmps24
    go_wp2_with fail
    refine (isNameR_any _ _ hs).mono ?_
    rintro e w2 ⟨rfl, rfl⟩
    go_wp2_with fail
    · go_ret
      exact ⟨ret_i (by rw [Hret.out]; simp_all), by go_grown⟩
    refine (colsR_any _ _).mono ?_
    rintro e w1 ⟨v, rfl, hsl, -, hb⟩
    generalize cols t = xs at *
    obtain ⟨A, c, rfl⟩ := Sl.len' hsl
    obtain ⟨hc1, hf1⟩ := bcell hb
    have HB := Lib.hid (((Below.refl _ w).alloc (Nat.le_refl _) _).trans (hb.mono (by simp)))
    clear hb hsl
    go_wp2_with fail
    all_goals go_ret
    all_goals exact ⟨ret_i (by rw [Hret.out]; simp_all), HB.out⟩
end Go.Proofs.Ytlhmencjhhpacaa
