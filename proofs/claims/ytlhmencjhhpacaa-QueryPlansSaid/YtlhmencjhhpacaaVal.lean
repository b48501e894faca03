/- value.Good and cahierref06.Good; schema.holds, schema.column, schema.Fits and cahierref18.Fits. -/
import Derived.Test.YtlhmencjhhpacaaNum
namespace Go.Proofs.Ytlhmencjhhpacaa
open Go.RowKit

/-- whether a value is good -/
def goodB (k n : Int) (s : ByteArray) : Bool :=
  if k == 0 then n == 0 && s.toList.isEmpty else if k == 1 then s.toList.isEmpty else if k == 2 || k == 3 then n == 0 && decide ((s.size : Int) ≤ 2000) else false

theorem good_any (k n : Int) (s : ByteArray) (w : World) (_hs : s.size ≤ maxLen) :
    Calls Try.prog 47 #[.agg #[.int .i64 k, .int .i64 n, .string s]] w fun e w' => e = .returned (.bool (goodB k n s)) ∧ Below w.heap.size w w' := by
  unfold maxLen at _hs
  go_enter Try.func47, Try.ntmps47
  go_wp2
  all_goals go_ret
  all_goals refine ⟨ret_b ?_, by go_grown⟩
  all_goals simp_all [goodB]
theorem goodR_any (k n : Int) (s : ByteArray) (w : World) (_hs : s.size ≤ maxLen) :
    Calls Try.prog 49 #[.agg #[.int .i64 k, .int .i64 n, .string s]] w fun e w' => e = .returned (.bool (goodB k n s)) ∧ Below w.heap.size w w' := by
  unfold maxLen at _hs
  go_enter Try.func49, Try.ntmps49
  go_wp2
  all_goals go_ret
  all_goals refine ⟨ret_b ?_, by go_grown⟩
  all_goals simp_all [goodB]

/-- whether a good value that isn't Null is of a column's kind -/
def holdsB (kind vk : Int) (s : ByteArray) : Bool :=
  if kind == 1 then vk == 1 else if kind == 2 then vk == 2 && decide ((s.size : Int) ≤ 24) else if kind == 3 then vk == 2 && decide ((s.size : Int) ≤ 1000) else vk == 3 && decide ((s.size : Int) ≤ 1000)

theorem holds_any (c : C) (k n : Int) (s : ByteArray) (w : World) (_hs : s.size ≤ maxLen) :
    Calls Try.prog 48 #[.agg #[.string c.name, .int .i64 c.kind, .bool c.null, .bool c.uniq, .int .i64 c.ref], .agg #[.int .i64 k, .int .i64 n, .string s]] w fun e w' => e = .returned (.bool (holdsB c.kind k s)) ∧ Below w.heap.size w w' := by
  unfold maxLen at _hs
  go_enter Try.func48, Try.ntmps48
  go_wp2
  all_goals go_ret
  all_goals refine ⟨ret_b ?_, by go_grown⟩
  all_goals simp_all [holdsB]

def cZero : C := ⟨⟨#[]⟩, 0, false, false, 0⟩
def colOk (t k : Int) : Bool := decide (1 ≤ k ∧ k ≤ (cols t).length)
def colGet (t k : Int) : C := if colOk t k = true then (cols t).getD (k - 1).toNat cZero else cZero
theorem column_any (t k : Int) (w : World) :
    Calls Try.prog 44 #[.int .i64 t, .int .i64 k] w fun e w' => e = .returned (.tuple #[.agg #[.string (colGet t k).name, .int .i64 (colGet t k).kind, .bool (colGet t k).null, .bool (colGet t k).uniq, .int .i64 (colGet t k).ref], .bool (colOk t k)]) ∧ Below w.heap.size w w' := by
  have hl := cols_len t
  by_cases hk : 1 ≤ k ∧ k ≤ (cols t).length
  · obtain ⟨j, rfl⟩ : ∃ j : Nat, k = j + 1 := ⟨(k - 1).toNat, by omega⟩
    have hok : colOk t (j + 1) = true := by unfold colOk; exact decide_eq_true hk
    have hjl : j < (cols t).length := by omega
    have hget : colGet t (j + 1) = (cols t)[j] := by
      unfold colGet
      rw [if_pos hok, show ((j : Int) + 1 - 1).toNat = j from by omega, List.getD_eq_getElem?_getD, List.getElem?_eq_getElem hjl]
      rfl
    rw [hok, hget]
    clear hok hget
    go_enter Try.func44, Try.ntmps44
    go_wp2_with fail
    refine (cols_any _ _).mono ?_
    rintro e w1 ⟨v, rfl, hsl, -, hb⟩
    generalize cols t = xs at *
    rcases hsl.cases with ⟨A, c, rfl, rfl⟩ | ⟨b, off, c, rfl, -, hbl, hsl'⟩
    · simp at hjl
    obtain ⟨-, hcells⟩ := hsl'.cells hjl
    obtain ⟨e0, e1, e2, e3, e4⟩ := C.row hcells
    obtain ⟨hc1, hf1⟩ := bcell hb
    have HB := Lib.hid hb
    clear hb hsl hsl' hcells
    have hbb : Below w.heap.size w w1 := ((Below.refl _ _).alloc (Nat.le_refl _) _).trans (HB.out.mono (by simp))
    go_wp2_with fail
    exact bodyPost_ret (v := .tuple #[.agg #[.string xs[j].name, .int .i64 xs[j].kind, .bool xs[j].null, .bool xs[j].uniq, .int .i64 xs[j].ref], .bool true]) (by simp [results, Try.results44, go_sem, hc1]) rfl ⟨rfl, by go_grown⟩
  · have hok : colOk t k = false := by unfold colOk; exact decide_eq_false hk
    have hget : colGet t k = cZero := by unfold colGet; rw [if_neg (by rw [hok]; simp)]
    rw [hok, hget]
    clear hok hget
    go_enter Try.func44, Try.ntmps44
    go_wp2_with fail
    refine (cols_any _ _).mono ?_
    rintro e w1 ⟨v, rfl, hsl, -, hb⟩
    generalize cols t = xs at *
    obtain ⟨A, c, rfl⟩ := Sl.len' hsl
    obtain ⟨hc1, hf1⟩ := bcell hb
    have HB := Lib.hid hb
    clear hb hsl
    have hbb : Below w.heap.size w w1 := ((Below.refl _ _).alloc (Nat.le_refl _) _).trans (HB.out.mono (by simp))
    go_wp2_with fail
    all_goals exact bodyPost_ret (v := .tuple #[.agg #[.string ⟨#[]⟩, .int .i64 0, .bool false, .bool false, .int .i64 0], .bool false]) (by simp [results, Try.results44, go_sem, hc1]) rfl ⟨rfl, by go_grown⟩

/-- what a column answers of a value -/
def fitsE (t k vk vn : Int) (s : ByteArray) : Int :=
  if colOk t k = false then 41 else if (vk == 0 && !(colGet t k).null) = true then 43 else if (!goodB vk vn s || (vk != 0 && !holdsB (colGet t k).kind vk s)) = true then 42 else 0

theorem fits_any (t k vk vn : Int) (s : ByteArray) (w : World) (hs : s.size ≤ maxLen) :
    Calls Try.prog 25 #[.int .i64 t, .int .i64 k, .agg #[.int .i64 vk, .int .i64 vn, .string s]] w fun e w' => e = .returned (.int .i64 (fitsE t k vk vn s)) ∧ Below w.heap.size w w' := by
  go_enter Try.func25, Try.ntmps25
  go_wp2_with fail
  refine (column_any _ _ _).mono ?_
  rintro e w1 ⟨rfl, hb⟩
  obtain ⟨hc1, hf1⟩ := bcell hb
  have hz1 : w.heap.size < w1.heap.size := by have := hb.size; simp only [World.size_alloc] at this; omega
  have hz1' := Nat.le_of_lt hz1
  have HB := Lib.hid (((Below.refl _ w).alloc (Nat.le_refl _) _).trans (hb.mono (by simp)))
  clear hb
  go_wp2_with fail
  · go_ret
    exact ⟨ret_i (by simp_all [fitsE]), HB.out.alloc HB.out.size _⟩
  · go_ret
    exact ⟨ret_i (by simp_all [fitsE]), HB.out.alloc HB.out.size _⟩
  all_goals refine (good_any _ _ _ _ hs).mono ?_
  all_goals rintro e w2 ⟨rfl, hb2⟩
  all_goals obtain ⟨hc2, hf2⟩ := bcell hb2
  all_goals have hz2 : w1.heap.size < w2.heap.size := by have := hb2.size; simp only [World.size_alloc] at this; omega
  all_goals have hz2' : w.heap.size < w2.heap.size := by omega
  all_goals have HB2 := Lib.hid ((HB.out.alloc HB.out.size _).trans (hb2.mono (by simp; omega)))
  all_goals clear hb2
  all_goals go_wp2_with fail
  all_goals try (go_ret; exact ⟨ret_i (by simp_all [fitsE]), HB2.out⟩)
  refine (holds_any (colGet t k) _ vn _ _ hs).mono ?_
  rintro e w3 ⟨rfl, hb3⟩
  have HB3 := Lib.hid (HB2.out.trans (hb3.mono HB2.out.size))
  clear hb3
  go_wp2_with fail
  all_goals go_ret
  all_goals exact ⟨ret_i (by simp_all [fitsE]), HB3.out⟩

/-- The kinds of columns are 1 to 4. -/
theorem colGet_kind (t k : Int) (h : colOk t k = true) : (colGet t k).kind = 1 ∨ (colGet t k).kind = 2 ∨ (colGet t k).kind = 3 ∨ (colGet t k).kind = 4 := by
  unfold colGet
  rw [if_pos h]
  unfold colOk at h
  have h := of_decide_eq_true h
  have hj : (k - 1).toNat < (cols t).length := by omega
  rw [List.getD_eq_getElem?_getD, List.getElem?_eq_getElem hj]
  generalize (k - 1).toNat = j at hj
  have key : ∀ x ∈ cols t, x.kind = 1 ∨ x.kind = 2 ∨ x.kind = 3 ∨ x.kind = 4 := by
    intro x hx
    unfold cols at hx
    split at hx
    · simp at hx; rcases hx with rfl | rfl | rfl <;> simp [cId]
    split at hx
    · simp at hx; rcases hx with rfl | rfl | rfl | rfl <;> simp [cId]
    split at hx
    · simp at hx; rcases hx with rfl | rfl | rfl | rfl <;> simp [cId]
    · simp at hx
  exact key _ (List.getElem_mem hj)

theorem fitsR_any (t k vk vn : Int) (s : ByteArray) (w : World) (hs : s.size ≤ maxLen) :
    Calls Try.prog 26 #[.int .i64 t, .int .i64 k, .agg #[.int .i64 vk, .int .i64 vn, .string s]] w fun e w' => e = .returned (.int .i64 (fitsE t k vk vn s)) ∧ Below w.heap.size w w' := by
  have hl := cols_len t
  by_cases hk : 1 ≤ k ∧ k ≤ (cols t).length
  · obtain ⟨j, rfl⟩ : ∃ j : Nat, k = j + 1 := ⟨(k - 1).toNat, by omega⟩
    have hok : colOk t (j + 1) = true := by unfold colOk; exact decide_eq_true hk
    have hjl : j < (cols t).length := by omega
    have hkind := colGet_kind t (j + 1) hok
    have hget : (cols t)[j] = colGet t (j + 1) := by
      unfold colGet
      rw [if_pos hok, show ((j : Int) + 1 - 1).toNat = j from by omega, List.getD_eq_getElem?_getD, List.getElem?_eq_getElem hjl]
      rfl
    have hret : fitsE t (j + 1) vk vn s = if (vk == 0 && !(colGet t (j + 1)).null) = true then 43 else if (!goodB vk vn s || (vk != 0 && !holdsB (colGet t (j + 1)).kind vk s)) = true then 42 else 0 := by
      unfold fitsE; rw [hok]; rfl
    have Hret := Lib.hid hret
    clear hret hok
    go_enter Try.func26, Try.ntmps26
    go_wp2_with fail
    refine (colsR_any _ _).mono ?_
    rintro e w1 ⟨v, rfl, hsl, -, hb⟩
    generalize colGet t (j + 1) = x at *
    generalize cols t = xs at *
    rcases hsl.cases with ⟨A, c, rfl, rfl⟩ | ⟨b, off, c, rfl, -, hbl, hsl'⟩
    · simp at hjl
    obtain ⟨-, hcells⟩ := hsl'.cells hjl
    rw [hget] at hcells
    obtain ⟨e0, e1, e2, e3, e4⟩ := C.row hcells
    obtain ⟨hc1, hf1⟩ := bcell hb
    have hz1 : w.heap.size < w1.heap.size := by have := hb.size; simp only [World.size_alloc] at this; omega
    have hz1' := Nat.le_of_lt hz1
    have HB := Lib.hid (((Below.refl _ w).alloc (Nat.le_refl _) _).trans (hb.mono (by simp)))
    have HK := Lib.hid hkind
    clear hb hsl hsl' hcells hget hkind
    go_wp2_with fail
    · go_ret
      exact ⟨ret_i (by rw [Hret.out]; simp_all), HB.out.alloc HB.out.size _⟩
    all_goals refine (goodR_any _ _ _ _ hs).mono ?_
    all_goals rintro e w2 ⟨rfl, hb2⟩
    all_goals obtain ⟨hc2, hf2⟩ := bcell hb2
    all_goals have hz2 : w1.heap.size < w2.heap.size := by have := hb2.size; simp only [World.size_alloc] at this; omega
    all_goals have hz2' : w.heap.size < w2.heap.size := by omega
    all_goals have HB2 := Lib.hid ((HB.out.alloc HB.out.size _).trans (hb2.mono (by simp; omega)))
    all_goals clear hb2
    all_goals go_wp2_with fail
    all_goals go_ret
    all_goals refine ⟨ret_i ?_, HB2.out⟩
    all_goals rw [Hret.out]
    all_goals have hK := HK.out
    all_goals clear hc1 hf1 hc2 hf2 e0 e1 e2 e3 e4 HK Hret
    all_goals (first | (simp_all [holdsB]; done) | (exfalso; rcases hK with hK | hK | hK | hK <;> simp_all))
  · have hok : colOk t k = false := by unfold colOk; exact decide_eq_false hk
    have hret : fitsE t k vk vn s = 41 := by unfold fitsE; rw [if_pos hok]
    rw [hret]
    clear hret hok
    go_enter Try.func26, Try.ntmps26
    go_wp2_with fail
    refine (colsR_any _ _).mono ?_
    rintro e w1 ⟨v, rfl, hsl, -, hb⟩
    generalize cols t = xs at *
    obtain ⟨A, c, rfl⟩ := Sl.len' hsl
    obtain ⟨hc1, hf1⟩ := bcell hb
    have HB := Lib.hid (((Below.refl _ w).alloc (Nat.le_refl _) _).trans (hb.mono (by simp)))
    clear hb hsl
    go_wp2_with fail
    all_goals go_ret
    all_goals exact ⟨rfl, HB.out⟩
end Go.Proofs.Ytlhmencjhhpacaa
