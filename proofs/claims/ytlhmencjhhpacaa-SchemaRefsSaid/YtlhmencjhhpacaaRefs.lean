/- The statement SchemaRefs as a walk. -/
import Derived.Test.YtlhmencjhhpacaaLaws18
namespace Go.Proofs.Ytlhmencjhhpacaa
open Go.RowKit

/-- what each column is, all tables -/
structure ColFacts (t : Int) (xs : List C) (j : Nat) (x : C) : Prop where
  no : colNo t x.name = (j : Int) + 1
  ref0 : ¬ x.ref < 0
  reft : x.ref < t
  kind : 0 < x.ref → x.kind = 1
  get : colGet t ((j : Int) + 1) = x
  ok : colOk t ((j : Int) + 1) = true
theorem colF_1_0 : ColFacts 1 (cols 1) 0 ((cols 1).getD 0 cZero) := ⟨by decide +kernel, by decide +kernel, by decide +kernel, by decide +kernel, rfl, by decide +kernel⟩
theorem colF_1_1 : ColFacts 1 (cols 1) 1 ((cols 1).getD 1 cZero) := ⟨by decide +kernel, by decide +kernel, by decide +kernel, by decide +kernel, rfl, by decide +kernel⟩
theorem colF_1_2 : ColFacts 1 (cols 1) 2 ((cols 1).getD 2 cZero) := ⟨by decide +kernel, by decide +kernel, by decide +kernel, by decide +kernel, rfl, by decide +kernel⟩
theorem colF_2_0 : ColFacts 2 (cols 2) 0 ((cols 2).getD 0 cZero) := ⟨by decide +kernel, by decide +kernel, by decide +kernel, by decide +kernel, rfl, by decide +kernel⟩
theorem colF_2_1 : ColFacts 2 (cols 2) 1 ((cols 2).getD 1 cZero) := ⟨by decide +kernel, by decide +kernel, by decide +kernel, by decide +kernel, rfl, by decide +kernel⟩
theorem colF_2_2 : ColFacts 2 (cols 2) 2 ((cols 2).getD 2 cZero) := ⟨by decide +kernel, by decide +kernel, by decide +kernel, by decide +kernel, rfl, by decide +kernel⟩
theorem colF_2_3 : ColFacts 2 (cols 2) 3 ((cols 2).getD 3 cZero) := ⟨by decide +kernel, by decide +kernel, by decide +kernel, by decide +kernel, rfl, by decide +kernel⟩
theorem colF_3_0 : ColFacts 3 (cols 3) 0 ((cols 3).getD 0 cZero) := ⟨by decide +kernel, by decide +kernel, by decide +kernel, by decide +kernel, rfl, by decide +kernel⟩
theorem colF_3_1 : ColFacts 3 (cols 3) 1 ((cols 3).getD 1 cZero) := ⟨by decide +kernel, by decide +kernel, by decide +kernel, by decide +kernel, rfl, by decide +kernel⟩
theorem colF_3_2 : ColFacts 3 (cols 3) 2 ((cols 3).getD 2 cZero) := ⟨by decide +kernel, by decide +kernel, by decide +kernel, by decide +kernel, rfl, by decide +kernel⟩
theorem colF_3_3 : ColFacts 3 (cols 3) 3 ((cols 3).getD 3 cZero) := ⟨by decide +kernel, by decide +kernel, by decide +kernel, by decide +kernel, rfl, by decide +kernel⟩
theorem colFacts (t : Int) (h : t = 1 ∨ t = 2 ∨ t = 3) (j : Nat) (hj : j < (cols t).length) : ColFacts t (cols t) j (cols t)[j] := by
  rcases h with rfl | rfl | rfl
  · rcases (by simp [cols] at hj; omega : j = 0 ∨ j = 1 ∨ j = 2) with rfl | rfl | rfl
    · exact colF_1_0
    · exact colF_1_1
    · exact colF_1_2
  · rcases (by simp [cols] at hj; omega : j = 0 ∨ j = 1 ∨ j = 2 ∨ j = 3) with rfl | rfl | rfl | rfl
    · exact colF_2_0
    · exact colF_2_1
    · exact colF_2_2
    · exact colF_2_3
  · rcases (by simp [cols] at hj; omega : j = 0 ∨ j = 1 ∨ j = 2 ∨ j = 3) with rfl | rfl | rfl | rfl
    · exact colF_3_0
    · exact colF_3_1
    · exact colF_3_2
    · exact colF_3_3
theorem cols_head (t : Int) (h : t = 1 ∨ t = 2 ∨ t = 3) : ∃ hl : 0 < (cols t).length, (cols t)[0] = cId := by
  rcases h with rfl | rfl | rfl <;> exact ⟨by simp [cols], rfl⟩
theorem number_name (t : Int) (h : t = 1 ∨ t = 2 ∨ t = 3) : number (tname t) = t := by
  rcases h with rfl | rfl | rfl <;> decide +kernel
theorem fits_null {t k vk vn : Int} {s : ByteArray} (h : colOk t k = true) (h0 : vk = 0) (hn : (colGet t k).null = false) : fitsE t k vk vn s = 43 := by
  unfold fitsE; rw [h, h0, hn]; rfl
theorem fits_some {t k vk vn : Int} {s : ByteArray} (h : colOk t k = true) (h0 : ¬ vk = 0) : fitsE t k vk vn s = 0 ∨ fitsE t k vk vn s = 42 := by
  unfold fitsE
  rw [h]
  have e0 : (vk == 0) = false := by simpa using h0
  rw [e0]
  simp only [Bool.false_and, Bool.true_eq_false, if_false, Bool.false_eq_true]
  split
  · exact .inr rfl
  · exact .inl rfl
theorem index_kind {nm : ByteArray} {t k : Int} (h : indexE nm t k = 0) : (colGet t k).kind = 1 ∨ (colGet t k).kind = 2 := by
  unfold indexE at h
  split at h
  · omega
  split at h
  · omega
  split at h
  · omega
  · rename_i h3
    simp at h3
    by_cases h1 : (colGet t k).kind = 1
    · exact .inl h1
    · exact .inr (h3 h1)

theorem refs_ways {t k vk vn : Int} {s : ByteArray} {x : C} (ho : colOk t k = true) (hg : colGet t k = x) :
    (vk = 0 ∧ (!x.null) = true ∧ fitsE t k vk vn s = 43) ∨ (vk = 0 ∧ (!x.null) = false) ∨ ((vk == 0) = false ∧ (vk != 0) = true ∧ fitsE t k vk vn s = 0) ∨ ((vk == 0) = false ∧ (vk != 0) = true ∧ fitsE t k vk vn s = 42) := by
  by_cases h0 : vk = 0
  · rcases Bool.eq_false_or_eq_true x.null with hq | hq
    · exact .inr (.inl ⟨h0, by rw [hq]; rfl⟩)
    · exact .inl ⟨h0, by rw [hq]; rfl, fits_null ho h0 (by rw [hg]; exact hq)⟩
  · rcases fits_some (vn := vn) (s := s) ho h0 with h1 | h1
    · exact .inr (.inr (.inl ⟨by simpa using h0, by simpa using h0, h1⟩))
    · exact .inr (.inr (.inr ⟨by simpa using h0, by simpa using h0, h1⟩))
theorem refs_index {nm : ByteArray} {t k : Int} {x : C} (hg : colGet t k = x) : ((indexE nm t k == 0) = false) ∨ ((x.kind != 1) = false) ∨ ((x.kind != 1) = true ∧ (x.kind != 2) = false) := by
  by_cases h : indexE nm t k = 0
  · rcases index_kind h with h1 | h1
    · rw [hg] at h1; exact .inr (.inl (by rw [h1]; rfl))
    · rw [hg] at h1; exact .inr (.inr (by rw [h1]; exact ⟨rfl, rfl⟩))
  · exact .inl (by simpa using h)

set_option maxRecDepth 100000 in
set_option maxHeartbeats 2000000 in
theorem refs_any (vk vn : Int) (s nm : ByteArray) (w : World) (hs : s.size ≤ maxLen) (hn : nm.size ≤ maxLen) :
    Calls Try.prog 5 #[.agg #[.int .i64 vk, .int .i64 vn, .string s], .string nm] w fun e w' => e = .returned (.bool true) ∧ Below w.heap.size w w' := by
  go_enter Try.func5, Try.ntmps5
  go_wp2_with fail
  refine (awake18_any _).mono ?_
  rintro e w1 ⟨rfl, hb1⟩
  have HB1 := Lib.hid (blk_keep (blk_new (w0 := w) (g := w.heap.size) rfl) hb1)
  have HW1 := Lib.hid (((Below.refl _ w).alloc (Nat.le_refl _) _).trans (hb1.mono (by simp)))
  clear hb1
  go_wp2_with fail
  go_loopw [5] (fun i wr => ∃ k : Nat, k ≤ 3 ∧ i = .int .i64 ((k : Int) + 1) ∧ Below w.heap.size w wr ∧ wr.heap[w.heap.size]? = some (.cells #[.int .i64 vk, .int .i64 vn, .string s] 44 (0, 0))) (fun i _ => 4 - (intOf i).toNat)
  case atStart => exact ⟨0, by omega, rfl, HW1.out, HB1.out⟩
  case round =>
    obtain ⟨k, hk, rfl, hb, hB⟩ := hrel
    have HW := Lib.hid hb
    have HB := Lib.hid hB
    clear hb hB HW1 HB1
    by_cases hk3 : k < 3
    rotate_left
    · go_wp2_with fail
      go_ret
      exact ⟨rfl, HW.out⟩
    have ht : (k : Int) + 1 = 1 ∨ (k : Int) + 1 = 2 ∨ (k : Int) + 1 = 3 := by omega
    obtain ⟨hl0, hx0⟩ := cols_head _ ht
    have hnum := number_name _ ht
    have HF := Lib.hid (colFacts _ ht)
    have hcl := cols_len ((k : Int) + 1)
    have HX0 := Lib.hid hx0
    clear ht hx0
    go_wp2_with fail
    refine (cols_any _ _).mono ?_
    rintro e w2 ⟨v2, rfl, hsl2, -, hb2⟩
    have HB2 := Lib.hid (blk_keep HB.out hb2)
    have HW2 := Lib.hid (HW.out.trans (hb2.mono HW.out.size))
    have hk1 : (k : Int) + 1 ≤ 3 := by omega
    have hk0 : 1 ≤ (k : Int) + 1 := by omega
    generalize htt : (k : Int) + 1 = t at *
    have Htt := Lib.hid htt
    clear htt
    generalize cols t = xs at *
    rcases hsl2.cases with ⟨A', c', rfl, rfl⟩ | ⟨b, off, c', rfl, -, hbl, hv'⟩
    · simp at hl0
    obtain ⟨-, hcells⟩ := hv'.cells hl0
    rw [HX0.out] at hcells
    obtain ⟨e0, e1, e2, e3, e4⟩ := C.row hcells
    simp only [Nat.zero_mul, Nat.add_zero, cId] at e0 e1 e2 e3 e4
    have HV2 := Lib.hid hv'
    clear hb2 hcells hv' hsl2 HB HW
    go_wp2_with fail
    refine (name_any _ _).mono ?_
    rintro e w3 ⟨rfl, rfl⟩
    go_wp2_with fail
    refine (number_any _ _).mono ?_
    rw [hnum]
    rintro e w3 ⟨rfl, rfl⟩
    clear e0 e1 e2 e3 e4
    go_wp2_with fail
    go_loopw [7] (fun i wr => ∃ j : Nat, j ≤ xs.length ∧ i = .int .i64 ((j : Int) + 1) ∧ Below w.heap.size w wr ∧ wr.heap[w.heap.size]? = some (.cells #[.int .i64 vk, .int .i64 vn, .string s] 44 (0, 0)) ∧ Sl C.cells 5 wr (.slice (some ⟨b, off, none⟩) xs.length c') xs) (fun i _ => xs.length + 1 - (intOf i).toNat)
    case atStart => exact ⟨0, by omega, rfl, HW2.out, HB2.out, HV2.out⟩
    case round =>
      obtain ⟨j, hj, rfl, hb, hB, hv⟩ := hrel
      have HW := Lib.hid hb
      have HB := Lib.hid hB
      have HV := Lib.hid hv
      have hzr : w.heap.size < wr.heap.size := by
        rcases Nat.lt_or_ge w.heap.size wr.heap.size with h | h
        · exact h
        · rw [Array.getElem?_eq_none h] at hB; cases hB
      clear hb hB hv HW2 HB2 HV2
      by_cases hjl : j < xs.length
      rotate_left
      · go_wp2_with fail
        go_roundw
        case rel => exact ⟨k + 1, by omega, by have := Htt.out; rw [← this]; go_num, HW.out, HB.out⟩
        case measure => have := Htt.out; simp [intOf]; omega
      obtain ⟨hbl, hcells⟩ := HV.out.cells hjl
      obtain ⟨e0, e1, e2, e3, e4⟩ := C.row hcells
      obtain ⟨hno, hr0, hrt, hkind, hget, hok⟩ := HF.out j hjl
      have HK := Lib.hid hkind
      have HG := Lib.hid hget
      have HO := Lib.hid hok
      generalize xs[j] = x at *
      have hz0 := Nat.le_of_lt hzr
      have hA : (¬ 0 < x.ref) ∨ (0 < x.ref ∧ (x.kind != 1) = false) := by
        by_cases hr : 0 < x.ref
        · exact .inr ⟨hr, by rw [hkind hr]; rfl⟩
        · exact .inl hr
      have HA := Lib.hid hA
      clear hcells hkind hget hok hA
      go_wp2_with fail
      refine (col_any _ _ _).mono ?_
      rw [hno]
      rintro e w3 ⟨rfl, hb3⟩
      have hV3 := blk_keep ((Below.heap_alloc wr (.cells #[.string x.name, .int .i64 x.kind, .bool x.null, .bool x.uniq, .int .i64 x.ref] 29) _ hzr).trans HB.out) hb3
      have hC3 := blk_keep (blk_new (w0 := wr) (g := wr.heap.size) rfl) hb3
      have HV3 := Lib.hid hV3
      have HC3 := Lib.hid hC3
      have hcV := blk_cell hV3
      have hcC := blk_cell hC3
      have HW3 := Lib.hid ((HW.out.alloc HW.out.size (.cells #[.string x.name, .int .i64 x.kind, .bool x.null, .bool x.uniq, .int .i64 x.ref] 29)).trans (hb3.mono (HW.out.alloc HW.out.size _).size))
      have HS3 := Lib.hid (((HV.out.alloc _)).keep hb3)
      clear hb3 hV3 hC3 e0 e1 e2 e3 e4 hno
      rcases HA.out with hr | ⟨hr, hkk⟩
      all_goals go_wp2_with fail
      all_goals refine (fits_any _ _ _ _ _ _ hs).mono ?_
      all_goals rintro e w4 ⟨rfl, hb4⟩
      all_goals have hV4 := blk_keep HV3.out hb4
      all_goals have hC4 := blk_keep HC3.out hb4
      all_goals have HW4 := Lib.hid (HW3.out.trans (hb4.mono HW3.out.size))
      all_goals have HS4 := Lib.hid (HS3.out.keep hb4)
      all_goals have HV4 := Lib.hid hV4
      all_goals have HC4 := Lib.hid hC4
      all_goals clear hcV hcC hb4
      all_goals have hcV := blk_cell hV4
      all_goals have hcC := blk_cell hC4
      all_goals clear hV4 hC4 HV3 HC3 HW3 HS3
      all_goals have hBB := refs_ways (vk := vk) (vn := vn) (s := s) HO.out HG.out
      all_goals rcases hBB with ⟨rfl, hq, h1⟩ | ⟨rfl, hq⟩ | ⟨h0, h0', h1⟩ | ⟨h0, h0', h1⟩
      all_goals go_wp2_with fail
      all_goals refine (index_any _ _ _ _ hn).mono ?_
      all_goals rintro e w5 ⟨rfl, hb5⟩
      all_goals have HV5 := Lib.hid (blk_keep HV4.out hb5)
      all_goals have hcC5 := blk_cell (blk_keep HC4.out hb5)
      all_goals have HW5 := Lib.hid (HW4.out.trans (hb5.mono HW4.out.size))
      all_goals have HS5 := Lib.hid (HS4.out.keep hb5)
      all_goals clear hb5 hcV hcC HV4 HC4 HW4 HS4
      all_goals rcases refs_index (nm := nm) HG.out with hi | hi | ⟨hi, hi'⟩
      all_goals go_wp2_with fail
      all_goals go_roundw
      all_goals first
        | exact ⟨⟨j + 1, by omega, by go_num, HW5.out, HV5.out, HS5.out⟩, by simp [intOf]; omega⟩
        | exact ⟨j + 1, by omega, by go_num, HW5.out, HV5.out, HS5.out⟩
        | (simp [intOf]; omega)
end Go.Proofs.Ytlhmencjhhpacaa
