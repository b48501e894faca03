/- The statements of layer 18 as walks: each law answers true and leaves what was there as it was. -/
import Derived.Test.YtlhmencjhhpacaaAwake18
import Derived.Test.YtlhmencjhhpacaaUp
namespace Go.Proofs.Ytlhmencjhhpacaa
open Go.RowKit

set_option maxRecDepth 100000 in
set_option maxHeartbeats 1000000 in
theorem names_any (t : Int) (nm col : ByteArray) (w : World) :
    Calls Try.prog 3 #[.int .i64 t, .string nm, .string col] w fun e w' => e = .returned (.bool true) ∧ Below w.heap.size w w' := by
  have hcl := cols_len t
  go_enter Try.func3, Try.ntmps3
  go_wp2_with fail
  refine (awake18_any _).mono ?_
  rintro e w1 ⟨rfl, hb1⟩
  have HW1 := Lib.hid hb1
  clear hb1
  go_wp2_with fail
  refine (cols_any _ _).mono ?_
  rintro e w2 ⟨v1, rfl, hsl1, -, hb2⟩
  have HW2 := Lib.hid (HW1.out.trans (hb2.mono HW1.out.size))
  obtain ⟨A1, c1, rfl⟩ := Sl.len' hsl1
  have HS1 := Lib.hid hsl1
  clear hb2 HW1 hsl1
  go_wp2_with fail
  refine (colsR_any _ _).mono ?_
  rintro e w3 ⟨v2, rfl, hsl2, -, hb3⟩
  have HW3 := Lib.hid (HW2.out.trans (hb3.mono HW2.out.size))
  have HS1' := Lib.hid (HS1.out.keep hb3)
  obtain ⟨A2, c2, rfl⟩ := Sl.len' hsl2
  have HS2 := Lib.hid hsl2
  clear hb3 HW2 hsl2 HS1
  go_wp2_with fail
  refine (name_any _ _).mono ?_
  rintro e w4 ⟨rfl, rfl⟩
  go_wp2_with fail
  refine (nameR_any _ _).mono ?_
  rintro e w4 ⟨rfl, rfl⟩
  go_wp2_with fail
  refine (number_any _ _).mono ?_
  rintro e w4 ⟨rfl, rfl⟩
  go_wp2_with fail
  refine (numberR_any _ _).mono ?_
  rintro e w4 ⟨rfl, rfl⟩
  go_wp2_with fail
  refine (col_any _ _ _).mono ?_
  rintro e w4 ⟨rfl, hb4⟩
  have HW4 := Lib.hid (HW3.out.trans (hb4.mono HW3.out.size))
  have HS1 := Lib.hid (HS1'.out.keep hb4)
  have HS2' := Lib.hid (HS2.out.keep hb4)
  clear hb4 HW3 HS1' HS2
  go_wp2_with fail
  refine (colR_any _ _ _).mono ?_
  rintro e w5 ⟨rfl, hb5⟩
  have HW5 := Lib.hid (HW4.out.trans (hb5.mono HW4.out.size))
  have HS1' := Lib.hid (HS1.out.keep hb5)
  have HS2 := Lib.hid (HS2'.out.keep hb5)
  clear hb5 HW4 HS1 HS2'
  go_wp2_with fail
  generalize cols t = xs at *
  go_loopw [9] (fun i wr => ∃ k : Nat, k ≤ xs.length ∧ i = .int .i64 k ∧ Below w.heap.size w wr ∧ Sl C.cells 5 wr (.slice A1 xs.length c1) xs ∧ Sl C.cells 5 wr (.slice A2 xs.length c2) xs) (fun i _ => xs.length - (intOf i).toNat)
  case atStart => exact ⟨0, Nat.zero_le _, rfl, HW5.out, HS1'.out, HS2.out⟩
  case round =>
    obtain ⟨k, hk, rfl, hb, h1, h2⟩ := hrel
    by_cases hkl : k < xs.length
    · rcases h1.cases with ⟨A, c, he, rfl⟩ | ⟨b, off, c, he, hne, hbl, h1'⟩
      · simp at hkl
      injection he with he1 he2 he3
      subst he1 he3
      rcases h2.cases with ⟨A, c, he, rfl⟩ | ⟨b2, off2, c', he, -, hbl2, h2'⟩
      · simp at hkl
      injection he with he1 he2 he3
      subst he1 he3
      obtain ⟨-, hcells⟩ := h1'.cells hkl
      obtain ⟨-, hcells2⟩ := h2'.cells hkl
      obtain ⟨e0, e1, e2, e3, e4⟩ := C.row hcells
      obtain ⟨f0, f1, f2, f3, f4⟩ := C.row hcells2
      have HB := Lib.hid hb
      have H1 := Lib.hid h1'
      have H2 := Lib.hid h2'
      have HK := Lib.hid hkl
      clear hb h1 h2 h1' h2' hcells hcells2 hne HS1' HS2
      go_wp2_with fail
      go_quiet (fail)
      go_wp2_with fail
      exact ⟨⟨k + 1, by omega, by go_num, below_drewN' HB.out nq, H1.out, H2.out⟩, by simp [intOf]; omega⟩
    · have HB := Lib.hid hb
      have HK := Lib.hid hkl
      clear hb h1 h2 HS1' HS2
      go_wp2_with fail
      refine (fixed_any _).mono ?_
      rintro e w6 ⟨v3, rfl, hsl3, hb6⟩
      have HW6 := Lib.hid (HB.out.trans (hb6.mono HB.out.size))
      have hfl : fixedL.length = 5 := rfl
      have HL := Lib.hid hfl
      obtain ⟨A3, c3, rfl⟩ := Sl.len' hsl3
      have HS3 := Lib.hid hsl3
      clear hb6 hsl3 hfl
      go_wp2_with fail
      refine (fixedR_any _).mono ?_
      rintro e w7 ⟨v4, rfl, hsl4, hb7⟩
      have HW7 := Lib.hid (HW6.out.trans (hb7.mono HW6.out.size))
      have HS3' := Lib.hid (HS3.out.keep hb7)
      obtain ⟨A4, c4, rfl⟩ := Sl.len' hsl4
      have HS4 := Lib.hid hsl4
      have hyl : fixedL.length ≤ 5 := by rw [HL.out]; exact Nat.le_refl _
      clear hb7 hsl4 HS3 HW6
      generalize fixedL = ys at *
      go_wp2_with fail
      go_loopw [12] (fun i wr => ∃ k : Nat, k ≤ ys.length ∧ i = .int .i64 k ∧ Below w.heap.size w wr ∧ Sl E.cells 5 wr (.slice A3 ys.length c3) ys ∧ Sl E.cells 5 wr (.slice A4 ys.length c4) ys) (fun i _ => ys.length - (intOf i).toNat)
      case atStart => exact ⟨0, Nat.zero_le _, rfl, HW7.out, HS3'.out, HS4.out⟩
      case round =>
        obtain ⟨j, hj, rfl, hb, h1, h2⟩ := hrel
        by_cases hjl : j < ys.length
        · rcases h1.cases with ⟨A, c, he, rfl⟩ | ⟨b, off, c, he, hne, hbl, h1'⟩
          · simp at hjl
          injection he with he1 he2 he3
          subst he1 he3
          rcases h2.cases with ⟨A, c, he, rfl⟩ | ⟨b2, off2, c', he, -, hbl2, h2'⟩
          · simp at hjl
          injection he with he1 he2 he3
          subst he1 he3
          obtain ⟨-, hcells⟩ := h1'.cells hjl
          obtain ⟨-, hcells2⟩ := h2'.cells hjl
          obtain ⟨e0, e1, e2, e3, e4⟩ := E.row hcells
          obtain ⟨f0, f1, f2, f3, f4⟩ := E.row hcells2
          have HB2 := Lib.hid hb
          have H1 := Lib.hid h1'
          have H2 := Lib.hid h2'
          clear hb h1 h2 h1' h2' hcells hcells2 hne HS3' HS4
          go_wp2_with fail
          go_quiet (fail)
          go_wp2_with fail
          exact ⟨⟨j + 1, by omega, by go_num, below_drewN' HB2.out nq, H1.out, H2.out⟩, by simp [intOf]; omega⟩
        · clear h1 h2 HS3' HS4
          have HB2 := Lib.hid hb
          clear hb
          go_wp2_with fail
          go_ret
          exact ⟨rfl, HB2.out⟩

set_option maxRecDepth 100000 in
set_option maxHeartbeats 1000000 in
theorem fits18_any (t : Int) (v : Value) (xs : List V) (nm : ByteArray) (it ic : Int) (w : World) (hv : Sl V.cells 3 w v xs) (hs : ∀ x ∈ xs, x.s.size ≤ maxLen) (hn : nm.size ≤ maxLen) :
    Calls Try.prog 4 #[.int .i64 t, v, .agg #[.string nm, .int .i64 it, .int .i64 ic]] w fun e w' => e = .returned (.bool true) ∧ Below w.heap.size w w' := by
  obtain ⟨A, c, rfl⟩ := Sl.len' hv
  have HV := Lib.hid hv
  have HS := Lib.hid hs
  clear hv hs
  go_enter Try.func4, Try.ntmps4
  go_wp2_with fail
  refine (awake18_any _).mono ?_
  rintro e w1 ⟨rfl, hb1⟩
  have hB1 := blk_keep (blk_new (w0 := w) (g := w.heap.size) rfl) hb1
  have hz1 : w.heap.size < w1.heap.size := by have := hb1.size; simp only [World.size_alloc] at this; omega
  have HB1 := Lib.hid hB1
  have HW1 := Lib.hid (((Below.refl _ w).alloc (Nat.le_refl _) _).trans (hb1.mono (by simp)))
  have HV1 := Lib.hid (HV.out.keep HW1.out)
  clear hb1 hB1 HV
  by_cases hl : xs.length ≤ 40
  rotate_left
  · go_wp2_with fail
    go_ret
    exact ⟨rfl, HW1.out⟩
  have hc1 : ∀ (y : Up w1) (o : Nat), y.w.cell? ⟨w.heap.size, o, none⟩ = (#[.string nm, .int .i64 it, .int .i64 ic] : Array Value)[o]? := fun y o => (y.cell _ _ hz1).trans (blk_cell HB1.out o)
  go_wp2_with fail
  refine wp_region_up (by kernel_rfl) (by kernel_rfl) ?_
  repeat (go_big_quiet_step (first
    | (go_at_call 21; exact up_call (row_any t _ xs _ (HV1.out.keep (Up.h _)) (by omega) HS.out))
    | (go_at_call 22; exact up_call (rowR_any t _ xs _ (HV1.out.keep (Up.h _)) (by omega) HS.out))
    | (go_at_call 23; exact up_call (index_any _ _ _ _ hn))
    | (go_at_call 24; exact up_call (indexR_any _ _ _ _ hn))))
  refine wpQuiet_nil ?_
  rintro w' ⟨⟨w2, hb2⟩, rfl⟩
  have HB2 := Lib.hid (blk_keep HB1.out hb2)
  have HW2 := Lib.hid (HW1.out.trans (hb2.mono HW1.out.size))
  have HV2 := Lib.hid (HV1.out.keep hb2)
  clear hb2 HB1 HW1 HV1 hc1
  go_wp2_with fail
  go_loopw [7] (fun i wr => ∃ k : Nat, k ≤ xs.length ∧ i = .int .i64 k ∧ Below w.heap.size w wr ∧ Sl V.cells 3 wr (.slice A xs.length c) xs ∧ wr.heap[w.heap.size]? = some (.cells #[.string nm, .int .i64 it, .int .i64 ic] 38 (0, 0))) (fun i _ => xs.length - (intOf i).toNat)
  case atStart => exact ⟨0, Nat.zero_le _, rfl, HW2.out, HV2.out, HB2.out⟩
  case round =>
    obtain ⟨k, hk, rfl, hb, hv, hB⟩ := hrel
    have hzr : w.heap.size < wr.heap.size := by
      rcases Nat.lt_or_ge w.heap.size wr.heap.size with h | h
      · exact h
      · rw [Array.getElem?_eq_none h] at hB; cases hB
    have HW := Lib.hid hb
    have HV := Lib.hid hv
    have HB := Lib.hid hB
    clear hb hv hB HW2 HV2 HB2
    by_cases hkl : k < xs.length
    · rcases HV.out.cases with ⟨A', c', he, rfl⟩ | ⟨b, off, c', he, -, hbl, hv'⟩
      · simp at hkl
      injection he with he1 he2 he3
      subst he1 he3
      obtain ⟨-, hcells⟩ := hv'.cells hkl
      obtain ⟨e0, e1, e2⟩ := V.row hcells
      have hsk : xs[k].s.size ≤ maxLen := HS.out _ (List.getElem_mem hkl)
      have f0 := up_at e0 hbl
      have f1 := up_at e1 hbl
      have f2 := up_at e2 hbl
      have f3 : ∀ (y : Up wr) (o : Nat), y.w.cell? ⟨w.heap.size, o, none⟩ = (#[.string nm, .int .i64 it, .int .i64 ic] : Array Value)[o]? := fun y o => (y.cell _ _ hzr).trans (blk_cell HB.out o)
      have HV' := Lib.hid hv'
      clear hv' hcells
      go_wp2_with fail
      refine wp_region_up (by kernel_rfl) (by kernel_rfl) ?_
      repeat (go_big_quiet_step (first
        | (go_at_call 25; exact up_call (fits_any _ _ _ _ _ _ hsk))
        | (go_at_call 26; exact up_call (fitsR_any _ _ _ _ _ _ hsk))))
      refine wpQuiet_nil ?_
      rintro w' ⟨⟨w2, hb2⟩, rfl⟩
      have HB2 := Lib.hid (blk_keep HB.out hb2)
      have HW2 := Lib.hid (HW.out.trans (hb2.mono HW.out.size))
      have HV2 := Lib.hid (HV'.out.keep hb2)
      clear hb2 e0 e1 e2 f0 f1 f2 f3
      go_wp2_with fail
      exact ⟨⟨k + 1, by omega, by go_num, HW2.out, HV2.out, HB2.out⟩, by simp [intOf]; omega⟩
    · go_wp2_with fail
      go_ret
      exact ⟨rfl, HW.out⟩
end Go.Proofs.Ytlhmencjhhpacaa
