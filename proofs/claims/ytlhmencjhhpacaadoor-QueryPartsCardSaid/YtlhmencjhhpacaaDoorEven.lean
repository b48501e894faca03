/- cahierlaw20.even. -/
import Derived.Test.YtlhmencjhhpacaaDoorPick3
namespace Go.Proofs.YtlhmencjhhpacaaDoor
open Go.RowKit

/-- the answer is a Bool; where it says true the rows are few, of one length, of good values -/
def EvenP (e : Ending) (R : List Rr) : Prop := ∃ b, e = .returned (.bool b) ∧ (b = true → R.length ≤ 60 ∧ ∃ m, m ≤ 16 ∧ ∀ p ∈ R, p.row.length = m ∧ ∀ x ∈ p.row, goodV x = true)
def evRow (m : Nat) (p : Rr) : Prop := p.row.length = m ∧ m ≤ 16 ∧ ∀ x ∈ p.row, goodV x = true
theorem ev_no (R : List Rr) : EvenP (.returned (.bool false)) R := ⟨false, rfl, fun h => by cases h⟩
theorem ev_yes {R : List Rr} {m : Nat} (h60 : R.length ≤ 60) (h : ∀ p ∈ R, evRow m p) : EvenP (.returned (.bool true)) R := by
  refine ⟨true, rfl, fun _ => ⟨h60, ?_⟩⟩
  cases R with
  | nil => exact ⟨0, by omega, fun p hp => by cases hp⟩
  | cons q qs => exact ⟨m, (h q (List.mem_cons_self ..)).2.1, fun p hp => ⟨(h p hp).1, (h p hp).2.2⟩⟩
theorem take_all {α : Type} {P : α → Prop} {xs : List α} {k : Nat} (h : ∀ x ∈ xs.take k, P x) (hk : k < xs.length) (hp : P xs[k]) : ∀ x ∈ xs.take (k + 1), P x := by
  intro x hx
  rw [List.take_succ_eq_append_getElem hk] at hx
  rcases List.mem_append.1 hx with hx | hx
  · exact h x hx
  · simp only [List.mem_cons, List.mem_nil_iff, or_false] at hx
    subst hx; exact hp

set_option maxRecDepth 100000 in
set_option maxHeartbeats 2000000 in
theorem even_any (rv : Value) (R : List Rr) (w : World) (hrv : Sl Rr.cells 1 w rv R) (hL : Lies w R) (hs : ∀ p ∈ R, ∀ x ∈ p.row, x.s.size ≤ maxLen) :
    Calls Tryd.prog 5 #[rv] w fun e w' => EvenP e R ∧ Below w.heap.size w w' := by
  obtain ⟨Ar, cr, rfl⟩ := Sl.len' hrv
  have HR := Lib.hid hrv
  have HL := Lib.hid hL
  have HS := Lib.hid hs
  clear hrv hL hs
  go_enter Tryd.func5, Tryd.ntmps5
  by_cases h60 : (60 : Int) < R.length
  · go_wp2_with fail
    go_ret
    exact ⟨ev_no R, Below.refl _ _⟩
  go_wp2_with fail
  have H60 := Lib.hid (show R.length ≤ 60 by omega)
  clear h60
  have hsm := H60.out
  go_loopw [3] (fun i wr => ∃ k : Nat, k ≤ R.length ∧ i = .int .i64 k ∧ Below w.heap.size w wr ∧ ∀ p ∈ R.take k, evRow (R.getD 0 dR).row.length p) (fun i _ => R.length - (intOf i).toNat)
  case atStart => exact ⟨0, Nat.zero_le _, rfl, Below.refl _ _, fun p hp => (by cases hp)⟩
  case round =>
    obtain ⟨k, hk, rfl, hw, hall⟩ := hrel
    obtain ⟨wo, hwo⟩ : ∃ wo : World, wo = wr := ⟨_, rfl⟩
    subst hwo
    have HW := Lib.hid hw
    have HALL := Lib.hid hall
    clear hall
    by_cases hkl : k < R.length
    rotate_left
    · have HF := Lib.hid (ev_yes H60.out (by have := HALL.out; rwa [List.take_of_length_le (by omega)] at this))
      clear hw
      go_wp2_with fail
      go_ret
      exact ⟨HF.out, HW.out⟩
    have h0l : 0 < R.length := by omega
    rcases (HR.out.keep hw).cases with ⟨A, c, he, hnil⟩ | ⟨b1, o1, c, he, -, hb1, hs1⟩
    · rw [hnil] at hkl; simp at hkl
    injection he with he1 he2 he3
    subst he1 he3
    obtain ⟨-, e1⟩ := hs1.cells hkl
    obtain ⟨-, e2⟩ := hs1.cells h0l
    have e10 : wo.cell? ⟨b1, o1 + k, none⟩ = some R[k].hd := by
      have := e1 0 _ rfl
      simp only [Nat.mul_one, Nat.add_zero] at this
      exact this
    have e20 : wo.cell? ⟨b1, o1, none⟩ = some R[0].hd := by
      have := e2 0 _ rfl
      simp only [Nat.zero_mul, Nat.add_zero] at this
      exact this
    have HX := Lib.hid ((HL.out _ (List.getElem_mem hkl)).keep hw)
    have HXS := Lib.hid (HS.out _ (List.getElem_mem hkl))
    have HUP := Lib.hid (fun h => take_all HALL.out hkl h)
    have h00 : R.getD 0 dR = R[0] := by simp [h0l]
    rw [h00] at HUP
    clear e1 e2 hs1 hw
    generalize R[k] = x at *
    generalize R[0] = x0 at *
    have HR0 := Lib.hid h00
    clear h00
    obtain ⟨xa, xc, xr⟩ := x
    obtain ⟨ya, yc, yr⟩ := x0
    simp only [Rr.hd] at e10 e20 HX HXS HUP
    have u10 := up_at e10 hb1
    have u20 := up_at e20 hb1
    have hk0 : (0 : Int) ≤ (k : Int) := by omega
    have hk1 : (k : Int) < (R.length : Int) := by omega
    have hz1 : (0 : Int) < (R.length : Int) := by omega
    clear e10 e20
    by_cases hne : xr.length = yr.length
    rotate_left
    · have hd : ((xr.length : Int) != (yr.length : Int)) = true := by simp; omega
      go_wp2_with fail
      refine wp_region_up (by kernel_rfl) (by kernel_rfl) ?_
      repeat (go_big_quiet_step (fail))
      refine wpQuiet_nil ?_
      rintro w' ⟨⟨w2, hb2'⟩, rfl⟩
      have HW2 := Lib.hid (HW.out.trans (hb2'.mono HW.out.size))
      clear hb2' u10 u20
      go_wp2_with fail
      go_ret
      exact ⟨ev_no R, HW2.out⟩
    have hd : ((xr.length : Int) != (yr.length : Int)) = false := by simp; omega
    by_cases h16 : xr.length ≤ 16
    rotate_left
    · have hd2 : decide ((xr.length : Int) > 16) = true := decide_eq_true (by omega)
      go_wp2_with fail
      refine wp_region_up (by kernel_rfl) (by kernel_rfl) ?_
      repeat (go_big_quiet_step (fail))
      refine wpQuiet_nil ?_
      rintro w' ⟨⟨w2, hb2'⟩, rfl⟩
      have HW2 := Lib.hid (HW.out.trans (hb2'.mono HW.out.size))
      clear hb2' u10 u20
      go_wp2_with fail
      go_ret
      exact ⟨ev_no R, HW2.out⟩
    have hd2 : decide ((xr.length : Int) > 16) = false := decide_eq_false (by omega)
    go_wp2_with fail
    refine wp_region_up (by kernel_rfl) (by kernel_rfl) ?_
    repeat (go_big_quiet_step (fail))
    refine wpQuiet_nil ?_
    rintro w' ⟨⟨w2, hb2'⟩, rfl⟩
    have HW2 := Lib.hid (HW.out.trans (hb2'.mono HW.out.size))
    have HX2 := Lib.hid (HX.out.keep hb2')
    have hc1 : w'.cell? ⟨b1, o1 + k, none⟩ = some (.slice xa xr.length xc) := u10 ⟨w', hb2'⟩
    have hbl := Nat.lt_of_lt_of_le hb1 hb2'.size
    have HC1 := Lib.hid hc1
    clear hb2' u10 u20 HX hd hd2 hc1
    go_wp2_with fail
    go_loopw [4] (fun i wr => ∃ j : Nat, j ≤ xr.length ∧ i = .int .i64 j ∧ Below w'.heap.size w' wr ∧ ∀ x ∈ xr.take j, goodV x = true) (fun i _ => xr.length - (intOf i).toNat)
    case atStart => exact ⟨0, Nat.zero_le _, rfl, Below.refl _ _, fun p hp => (by cases hp)⟩
    case round =>
      obtain ⟨j, hj, rfl, hw, hgd⟩ := hrel
      have hc1 := (hw.cell (p := ⟨b1, o1 + k, none⟩) hbl).trans HC1.out
      have hbl2 := Nat.lt_of_lt_of_le hbl hw.size
      have HW3 := Lib.hid (HW2.out.trans (hw.mono HW2.out.size))
      have HGD := Lib.hid hgd
      have HX3 := Lib.hid (HX2.out.keep hw)
      have HWI := Lib.hid hw
      clear hw hgd
      by_cases hjl : j < xr.length
      rotate_left
      · have HU := Lib.hid (HUP.out ⟨hne, by omega, by have := HGD.out; rwa [List.take_of_length_le (by omega)] at this⟩)
        go_wp2_with fail
        go_roundw
        case rel => exact ⟨k + 1, by omega, by go_num, HW3.out, by rw [HR0.out]; exact HU.out⟩
        case measure => simp [intOf]; omega
      have HG1 := Lib.hid (fun h => take_all HGD.out hjl h)
      have hxs := HXS.out _ (List.getElem_mem hjl)
      rcases HX3.out.cases with ⟨A, c, he, hnil⟩ | ⟨br, orr, c, he, -, hbr, hsr⟩
      · rw [hnil] at hjl; simp at hjl
      injection he with he1 he2 he3
      subst he1 he3
      obtain ⟨-, er⟩ := hsr.cells hjl
      obtain ⟨er0, er1, er2⟩ := V.row er
      clear er hsr
      generalize xr[j] = y at *
      obtain ⟨yk, yn, ys⟩ := y
      simp only at er0 er1 er2 hxs
      have hj1 : (j : Int) < (xr.length : Int) := by omega
      have hj0 : (0 : Int) ≤ (j : Int) := by omega
      go_wp2_with fail
      refine (goodR_any yk yn ys _ hxs).mono ?_
      rintro e w3 ⟨rfl, hb3⟩
      have HW4 := Lib.hid (HW3.out.trans (hb3.mono HW3.out.size))
      have HWI4 := Lib.hid (HWI.out.trans (hb3.mono HWI.out.size))
      clear hb3 er0 er1 er2 hc1
      rcases Bool.eq_false_or_eq_true (goodB yk yn ys) with hg | hg
      · have HN := Lib.hid (HG1.out hg)
        rw [hg]
        go_wp2_with fail
        go_roundw
        case rel => exact ⟨j + 1, by omega, by go_num, HWI4.out, HN.out⟩
        case measure => simp [intOf]; omega
      · rw [hg]
        go_wp2_with fail
        go_ret
        exact ⟨ev_no R, HW4.out⟩
end Go.Proofs.YtlhmencjhhpacaaDoor
