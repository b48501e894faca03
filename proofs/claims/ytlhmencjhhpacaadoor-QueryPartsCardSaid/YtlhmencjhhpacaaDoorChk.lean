/- query.Check's callees: kinds of columns, whether a condition's value can be compared, whether a number is none of the columns'. -/
import Derived.Test.YtlhmencjhhpacaaDoorMatch
import Derived.Test.YtlhmencjhhpacaaDoorRow
import Derived.Test.YtlhmencjhhpacaaDoorOwn
namespace Go.Proofs.YtlhmencjhhpacaaDoor
open Go.RowKit

def kindOf (ck : Int) : Int := if ck == 1 then 1 else if ck == 4 then 3 else 2
theorem kind_any (c : C) (w : World) :
    Calls Tryd.prog 35 #[.agg #[.string c.name, .int .i64 c.kind, .bool c.null, .bool c.uniq, .int .i64 c.ref]] w fun e w' => e = .returned (.int .i64 (kindOf c.kind)) ∧ Below w.heap.size w w' := by
  go_enter Tryd.func35, Tryd.ntmps35
  go_wp2
  all_goals go_ret
  all_goals refine ⟨ret_i ?_, by go_grown⟩
  all_goals simp_all [kindOf]

/-- whether a condition's value can be compared with a column's -/
def isRightB (op k n : Int) (s : ByteArray) (ck : Int) : Bool := if goodB k n s = false then false else if k == 0 then true else decide (op < 7) && k == kindOf ck

set_option maxRecDepth 100000 in
theorem isRight_any (x : Cnd) (c : C) (w : World) (hs : x.v.s.size ≤ maxLen) :
    Calls Tryd.prog 26 #[.agg #[.int .i64 x.col, .int .i64 x.op, .int .i64 x.v.k, .int .i64 x.v.n, .string x.v.s], .agg #[.string c.name, .int .i64 c.kind, .bool c.null, .bool c.uniq, .int .i64 c.ref]] w
      fun e w' => e = .returned (.bool (isRightB x.op x.v.k x.v.n x.v.s c.kind)) ∧ Below w.heap.size w w' := by
  obtain ⟨xc, xo, xk, xn, xs⟩ := x
  simp only at hs
  go_enter Tryd.func26, Tryd.ntmps26
  go_wp2_with fail
  refine (good_any _ _ _ _ hs).mono ?_
  rintro e w1 ⟨rfl, hb1⟩
  have hz1 : w.heap.size + 1 < w1.heap.size := by have := hb1.size; simp only [World.size_alloc] at this; omega
  have hc0 : ∀ o, w1.cell? ⟨w.heap.size, o, none⟩ = (#[.int .i64 xc, .int .i64 xo, .int .i64 xk, .int .i64 xn, .string xs] : Array Value)[o]? := fun o => by
    rw [hb1.cell (p := ⟨w.heap.size, o, none⟩) (by simp; omega)]; simp
  have hc1 : ∀ o, w1.cell? ⟨w.heap.size + 1, o, none⟩ = (#[.string c.name, .int .i64 c.kind, .bool c.null, .bool c.uniq, .int .i64 c.ref] : Array Value)[o]? := fun o => by
    rw [hb1.cell (p := ⟨w.heap.size + 1, o, none⟩) (by simp)]; simp
  have HB := Lib.hid (((Below.refl _ w).alloc (Nat.le_refl _) _).alloc (by simp) _ |>.trans (hb1.mono (by simp; omega)))
  clear hb1
  rcases Bool.eq_false_or_eq_true (goodB xk xn xs) with hg | hg
  rotate_left
  · go_wp2_with fail
    go_ret
    exact ⟨ret_b (by unfold isRightB; rw [if_pos hg]), HB.out⟩
  rcases Bool.eq_false_or_eq_true (xk == 0) with hk | hk
  · go_wp2_with fail
    go_ret
    exact ⟨ret_b (by unfold isRightB; rw [hg, hk]; rfl), HB.out⟩
  have HR := Lib.hid (show isRightB xo xk xn xs c.kind = (decide (xo < 7) && xk == kindOf c.kind) by unfold isRightB; rw [hg, hk]; rfl)
  by_cases ho : xo < 7
  rotate_left
  · have ho' : decide (xo < 7) = false := decide_eq_false ho
    clear ho
    go_wp2_with fail
    refine wp_region_up (by kernel_rfl) (by kernel_rfl) ?_
    have f1 : ∀ (y : Up w1) (o : Nat), y.w.cell? ⟨w.heap.size, o, none⟩ = (#[.int .i64 xc, .int .i64 xo, .int .i64 xk, .int .i64 xn, .string xs] : Array Value)[o]? := fun y o => (y.cell _ _ (by omega)).trans (hc0 o)
    repeat (go_big_quiet_step (fail))
    refine wpQuiet_nil ?_
    rintro w' ⟨⟨w2, hb2⟩, rfl⟩
    have HB2 := Lib.hid (HB.out.trans (hb2.mono HB.out.size))
    clear hb2
    go_wp2_with fail
    go_ret
    exact ⟨ret_b (by rw [HR.out, ho']; rfl), HB2.out⟩
  · have ho' : decide (xo < 7) = true := decide_eq_true ho
    clear ho
    go_wp2_with fail
    refine wp_region_up (by kernel_rfl) (by kernel_rfl) ?_
    have f1 : ∀ (y : Up w1) (o : Nat), y.w.cell? ⟨w.heap.size, o, none⟩ = (#[.int .i64 xc, .int .i64 xo, .int .i64 xk, .int .i64 xn, .string xs] : Array Value)[o]? := fun y o => (y.cell _ _ (by omega)).trans (hc0 o)
    have f2 : ∀ (y : Up w1) (o : Nat), y.w.cell? ⟨w.heap.size + 1, o, none⟩ = (#[.string c.name, .int .i64 c.kind, .bool c.null, .bool c.uniq, .int .i64 c.ref] : Array Value)[o]? := fun y o => (y.cell _ _ hz1).trans (hc1 o)
    repeat (go_big_quiet_step (first | (go_at_call 35; exact up_call (kind_any c _))))
    refine wpQuiet_nil ?_
    rintro w' ⟨⟨w2, hb2⟩, rfl⟩
    have HB2 := Lib.hid (HB.out.trans (hb2.mono HB.out.size))
    clear hb2
    go_wp2_with fail
    go_ret
    exact ⟨ret_b (by rw [HR.out, ho']; simp), HB2.out⟩

/-- whether a number is none of n columns' -/
def noneB (n : Nat) (x : Int) : Bool := decide (x < 1) || decide ((n : Int) < x)
theorem none_any (x : Int) (B : Nat) (A : Option Addr) (n c : Nat) (w : World) (hB : w.cell? ⟨B, 0, none⟩ = some (.slice A n c)) :
    Calls Tryd.prog 25 #[.int .i64 x, .pointer (some ⟨B, 0, none⟩)] w fun e w' => e = .returned (.bool (noneB n x)) ∧ w = w' := by
  by_cases h1 : x < 1
  · have hr : noneB n x = true := by unfold noneB; rw [decide_eq_true h1]; rfl
    rw [hr]
    go_enter Tryd.func25, Tryd.ntmps25
    go_wp2_with fail
    go_ret
    exact ⟨rfl, rfl⟩
  · have hr := Lib.hid (show noneB n x = decide ((n : Int) < x) by unfold noneB; rw [decide_eq_false h1]; rfl)
    go_enter Tryd.func25, Tryd.ntmps25
    go_wp2_with fail
    go_ret
    exact ⟨ret_b hr.out.symm, rfl⟩

theorem indexNone_any (xs : List Int) (v : Value) (B : Nat) (A : Option Addr) (n c : Nat) (w : World) (hB : w.cell? ⟨B, 0, none⟩ = some (.slice A n c)) (hv : Sl iCells 1 w v xs) (hl : xs.length ≤ 1073741824) :
    Calls Tryd.prog 36 #[v, .func (.func 25) #[] #[.pointer (some ⟨B, 0, none⟩)]] w fun e w' => e = .returned (.int .i64 (firstOr (noneB n) xs)) ∧ w = w' := by
  rcases hv.cases with ⟨A', c', rfl, rfl⟩ | ⟨b, off, c', rfl, -, hbl, hv'⟩
  · clear hv
    go_enter Tryd.func36, Tryd.ntmps36
    go_wp2_with fail
    go_rounds 1
    go_ret
    exact ⟨rfl, rfl⟩
  have HV := Lib.hid hv'
  clear hv hv'
  go_enter Tryd.func36, Tryd.ntmps36
  go_wp2_with fail
  go_loop [8] (fun i => ∃ k : Nat, k ≤ xs.length ∧ i = .int .i64 k ∧ ∀ j (h : j < xs.length), j < k → noneB n xs[j] = false) (fun i => xs.length - (intOf i).toNat)
  case atStart => exact ⟨0, Nat.zero_le _, rfl, fun j _ h => absurd h (by omega)⟩
  case round =>
    obtain ⟨k, hk, rfl, hnot⟩ := hrel
    have HN := Lib.hid hnot
    clear hnot
    by_cases hkl : k < xs.length
    · obtain ⟨-, hcells⟩ := HV.out.cells hkl
      have e0 : w.cell? ⟨b, off + k, none⟩ = some (.int .i64 xs[k]) := by
        have := hcells 0 _ rfl
        simp only [Nat.mul_one, Nat.add_zero] at this
        exact this
      clear hcells
      go_wp2_with fail
      refine (none_any xs[k] B A n c w hB).mono ?_
      rintro e w1 ⟨rfl, rfl⟩
      go_wp2_with fail
      · go_ret
        exact ⟨ret_i (firstOr_at hkl ‹_› HN.out).symm, rfl⟩
      · go_round
        case rel => exact ⟨k + 1, by omega, by go_num, not_up HN.out hkl ‹_›⟩
        case measure => simp [intOf]; omega
    · go_wp2_with fail
      go_ret
      exact ⟨ret_i (firstOr_none hkl HN.out).symm, rfl⟩

theorem firstOr_any {α : Type} (p : α → Bool) (xs : List α) : decide (0 ≤ firstOr p xs) = xs.any p := by
  unfold firstOr
  by_cases h : xs.findIdx p < xs.length
  · rw [if_pos h]
    rw [List.findIdx_lt_length] at h
    obtain ⟨x, hx, hp⟩ := h
    rw [List.any_eq_true.2 ⟨x, hx, hp⟩]
    exact decide_eq_true (by omega)
  · rw [if_neg h]
    have : xs.any p = false := by
      rw [List.any_eq_false]
      intro x hx
      have h2 := List.findIdx_lt_length (p := p) (xs := xs)
      intro hp
      exact h (h2.2 ⟨x, hx, hp⟩)
    rw [this]; rfl

theorem containsNone_any (xs : List Int) (v : Value) (B : Nat) (A : Option Addr) (n c : Nat) (w : World) (hB : w.cell? ⟨B, 0, none⟩ = some (.slice A n c)) (hv : Sl iCells 1 w v xs) (hl : xs.length ≤ 1073741824) :
    Calls Tryd.prog 27 #[v, .func (.func 25) #[] #[.pointer (some ⟨B, 0, none⟩)]] w fun e w' => e = .returned (.bool (xs.any (noneB n))) ∧ w = w' := by
  have hr := Lib.hid (firstOr_any (noneB n) xs)
  obtain ⟨A', c', rfl⟩ := Sl.len' hv
  have HV := Lib.hid hv
  clear hv
  go_enter Tryd.func27, Tryd.ntmps27
  go_wp2_with fail
  refine (indexNone_any xs _ B A n c w hB HV.out hl).mono ?_
  rintro e w1 ⟨rfl, rfl⟩
  go_wp2_with fail
  go_ret
  exact ⟨ret_b hr.out, rfl⟩
end Go.Proofs.YtlhmencjhhpacaaDoor
