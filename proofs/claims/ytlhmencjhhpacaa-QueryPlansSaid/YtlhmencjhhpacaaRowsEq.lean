/- cahierref07.Same, Rows: of equal rows they say so; cahierlaw20.even. -/
import Derived.Test.YtlhmencjhhpacaaPick3
namespace Go.Proofs.Ytlhmencjhhpacaa
open Go.RowKit

set_option maxRecDepth 100000 in
set_option maxHeartbeats 1000000 in
theorem same07_any (va vb : Value) (xs : List V) (w : World) (ha : Sl V.cells 3 w va xs) (hb : Sl V.cells 3 w vb xs) (hl : xs.length ≤ 1000000) :
    Calls Try.prog 78 #[va, vb] w fun e w' => e = .returned (.bool true) ∧ Below w.heap.size w w' := by
  obtain ⟨Aa, ca, rfl⟩ := Sl.len' ha
  obtain ⟨Ab, cb, rfl⟩ := Sl.len' hb
  have HA := Lib.hid ha
  have HB := Lib.hid hb
  clear ha hb
  go_enter Try.func78, Try.ntmps78
  go_wp2_with fail
  go_loopw [5] (fun i wr => ∃ k : Nat, k ≤ xs.length ∧ i = .int .i64 k ∧ Below w.heap.size w wr) (fun i _ => xs.length - (intOf i).toNat)
  case atStart => exact ⟨0, Nat.zero_le _, rfl, Below.refl _ _⟩
  case round =>
    obtain ⟨k, hk, rfl, hw⟩ := hrel
    have HW := Lib.hid hw
    by_cases hkl : k < xs.length
    rotate_left
    · clear hw
      go_wp2_with fail
      go_ret
      exact ⟨rfl, HW.out⟩
    rcases (HA.out.keep hw).cases with ⟨A, c, he, hnil⟩ | ⟨b1, o1, c, he, -, hb1, hs1⟩
    · rw [hnil] at hkl; simp at hkl
    injection he with he1 he2 he3
    subst he1 he3
    rcases (HB.out.keep hw).cases with ⟨A, c, he, hnil⟩ | ⟨b2, o2, c, he, -, hb2, hs2⟩
    · rw [hnil] at hkl; simp at hkl
    injection he with he1 he2 he3
    subst he1 he3
    obtain ⟨-, e1⟩ := hs1.cells hkl
    obtain ⟨-, e2⟩ := hs2.cells hkl
    obtain ⟨e10, e11, e12⟩ := V.row e1
    obtain ⟨e20, e21, e22⟩ := V.row e2
    clear e1 e2 hs1 hs2 hw
    generalize xs[k] = x at *
    obtain ⟨xk, xn, xs'⟩ := x
    simp only at e10 e11 e12 e20 e21 e22
    have u10 := up_at e10 hb1
    have u11 := up_at e11 hb1
    have u12 := up_at e12 hb1
    have u20 := up_at e20 hb2
    have u21 := up_at e21 hb2
    have u22 := up_at e22 hb2
    have hk0 : (0 : Int) ≤ (k : Int) := by omega
    have hk1 : (k : Int) < (xs.length : Int) := by omega
    clear e10 e11 e12 e20 e21 e22
    go_wp2_with fail
    refine wp_region_up (by kernel_rfl) (by kernel_rfl) ?_
    repeat (go_big_quiet_step (fail))
    refine wpQuiet_nil ?_
    rintro w' ⟨⟨w2, hb2'⟩, rfl⟩
    have HW2 := Lib.hid (HW.out.trans (hb2'.mono HW.out.size))
    clear hb2' u10 u11 u12 u20 u21 u22
    go_wp2_with fail
    go_roundw
    case rel => exact ⟨k + 1, by omega, by go_num, HW2.out⟩
    case measure => simp [intOf]; omega

set_option maxRecDepth 100000 in
set_option maxHeartbeats 1000000 in
theorem rows07_any (va vb : Value) (P Q : List Rr) (w : World) (ha : Sl Rr.cells 1 w va P) (hb : Sl Rr.cells 1 w vb Q) (hp : Lies w P) (hq : Lies w Q) (he : P.map Rr.row = Q.map Rr.row) (hl : P.length ≤ 1000000) (hr : ∀ p ∈ P, p.row.length ≤ 1000000) :
    Calls Try.prog 64 #[va, vb] w fun e w' => e = .returned (.bool true) ∧ Below w.heap.size w w' := by
  obtain ⟨Aa, ca, rfl⟩ := Sl.len' ha
  obtain ⟨Ab, cb, rfl⟩ := Sl.len' hb
  have hpq : Q.length = P.length := by have := congrArg List.length he; simpa using this.symm
  rw [hpq] at hb ⊢
  have HA := Lib.hid ha
  have HB := Lib.hid hb
  have HP := Lib.hid hp
  have HQ := Lib.hid hq
  have HE := Lib.hid he
  have HPQ := Lib.hid hpq
  have HR := Lib.hid hr
  clear ha hb hp hq he hpq hr
  go_enter Try.func64, Try.ntmps64
  go_wp2_with fail
  go_loopw [5] (fun i wr => ∃ k : Nat, k ≤ P.length ∧ i = .int .i64 k ∧ Below w.heap.size w wr) (fun i _ => P.length - (intOf i).toNat)
  case atStart => exact ⟨0, Nat.zero_le _, rfl, Below.refl _ _⟩
  case round =>
    obtain ⟨k, hk, rfl, hw⟩ := hrel
    have HW := Lib.hid hw
    by_cases hkl : k < P.length
    rotate_left
    · clear hw
      go_wp2_with fail
      go_ret
      exact ⟨rfl, HW.out⟩
    have hkq : k < Q.length := by rw [HPQ.out]; exact hkl
    rcases (HA.out.keep hw).cases with ⟨A, c, he, hnil⟩ | ⟨b1, o1, c, he, -, hb1, hs1⟩
    · rw [hnil] at hkl; simp at hkl
    injection he with he1 he2 he3
    subst he1 he3
    have hbq := HB.out.keep hw
    rw [← HPQ.out] at hbq
    rcases hbq.cases with ⟨A, c, he, hnil⟩ | ⟨b2, o2, c, he, -, hb2, hs2⟩
    · rw [hnil] at hkq; simp at hkq
    injection he with he1 he2 he3
    subst he1 he3
    obtain ⟨-, e1⟩ := hs1.cells hkl
    obtain ⟨-, e2⟩ := hs2.cells hkq
    have e10 : wr.cell? ⟨b1, o1 + k, none⟩ = some P[k].hd := by
      have := e1 0 _ rfl
      simp only [Nat.mul_one, Nat.add_zero] at this
      exact this
    have e20 : wr.cell? ⟨b2, o2 + k, none⟩ = some Q[k].hd := by
      have := e2 0 _ rfl
      simp only [Nat.mul_one, Nat.add_zero] at this
      exact this
    have hrow : P[k].row = Q[k].row := by
      have h1 : (P.map Rr.row)[k]'(by simpa using hkl) = P[k].row := by simp
      have h2 : (Q.map Rr.row)[k]'(by simpa using hkq) = Q[k].row := by simp
      rw [← h1, ← h2]
      exact List.getElem_of_eq HE.out _
    have HX := Lib.hid ((HP.out _ (List.getElem_mem hkl)).keep hw)
    have HY := Lib.hid ((HQ.out _ (List.getElem_mem hkq)).keep hw)
    have HL := Lib.hid (HR.out _ (List.getElem_mem hkl))
    rw [← hrow] at HY
    have HHD := Lib.hid (show Q[k].hd = .slice Q[k].a P[k].row.length Q[k].c by unfold Rr.hd; rw [hrow])
    rw [HHD.out] at e20 HY
    clear e1 e2 hs1 hs2 hw hrow hbq HHD
    generalize P[k] = x at *
    generalize Q[k] = y at *
    obtain ⟨xa, xc, xr⟩ := x
    obtain ⟨ya, yc, yr⟩ := y
    simp only [Rr.hd] at e10 e20 HX HY HL
    have u10 := up_at e10 hb1
    have u20 := up_at e20 hb2
    have hk0 : (0 : Int) ≤ (k : Int) := by omega
    have hk1 : (k : Int) < (P.length : Int) := by omega
    clear e10 e20
    go_wp2_with fail
    refine wp_region_up (by kernel_rfl) (by kernel_rfl) ?_
    repeat (go_big_quiet_step (first
      | (go_at_call 78; exact up_call (same07_any _ _ xr _ (HX.out.keep (Up.h _)) (HY.out.keep (Up.h _)) HL.out))))
    refine wpQuiet_nil ?_
    rintro w' ⟨⟨w2, hb2'⟩, rfl⟩
    have HW2 := Lib.hid (HW.out.trans (hb2'.mono HW.out.size))
    clear hb2' u10 u20
    go_wp2_with fail
    go_roundw
    case rel => exact ⟨k + 1, by omega, by go_num, HW2.out⟩
    case measure => simp [intOf]; omega
set_option maxRecDepth 100000 in
theorem rows20_any (va vb : Value) (P Q : List Rr) (w : World) (ha : Sl Rr.cells 1 w va P) (hb : Sl Rr.cells 1 w vb Q) (hp : Lies w P) (hq : Lies w Q) (he : P.map Rr.row = Q.map Rr.row) (hl : P.length ≤ 1000000) (hr : ∀ p ∈ P, p.row.length ≤ 1000000) :
    Calls Try.prog 37 #[va, vb] w fun e w' => e = .returned (.bool true) ∧ Below w.heap.size w w' := by
  have HC := Lib.hid (rows07_any va vb P Q w ha hb hp hq he hl hr)
  clear ha hb hp hq he hl hr
  go_enter Try.func37, Try.ntmps37
  go_wp2_with fail
  refine HC.out.mono ?_
  rintro e w1 ⟨rfl, hb⟩
  have HB := Lib.hid hb
  clear hb
  go_wp2_with fail
  go_ret
  exact ⟨rfl, HB.out⟩
end Go.Proofs.Ytlhmencjhhpacaa
