/- cahierlaw12.same of two rows of equal pages. -/
import Derived.Test.YtjjiclbngoldaaaRfPut
namespace Go.Proofs.Ytjjiclbngoldaaa
open Go.RowKit

set_option maxRecDepth 100000 in
set_option maxHeartbeats 1000000 in
theorem same12_any (av bv : Value) (xs : List Pg) (w : World) (ha : Sl Pg.cells 2 w av xs) (hb : Sl Pg.cells 2 w bv xs) (hl : xs.length ≤ 600) :
    Calls Try.prog 15 #[av, bv] w fun e w' => e = .returned (.bool true) ∧ Below w.heap.size w w' := by
  obtain ⟨Aa, ca, rfl⟩ := Sl.len' ha
  obtain ⟨Ab, cb, rfl⟩ := Sl.len' hb
  have HA := Lib.hid ha
  have HB := Lib.hid hb
  clear ha hb
  go_enter Try.func15, Try.ntmps15
  go_wp2_with fail
  go_loopw [5] (fun i wr => ∃ k : Nat, k ≤ xs.length ∧ i = .int .i64 k ∧ Below w.heap.size w wr) (fun i _ => xs.length - (intOf i).toNat)
  case atStart => exact ⟨0, Nat.zero_le _, rfl, Below.refl _ _⟩
  case round =>
    obtain ⟨k, hk, rfl, hbel⟩ := hrel
    have HBEL := Lib.hid hbel
    clear hbel
    by_cases hlt : k < xs.length
    · obtain ⟨b, off, c, he, -, hbl, hsl⟩ := ((HA.out.keep HBEL.out).cases).resolve_left (fun ⟨A, c, _, h⟩ => by rw [h] at hlt; simp at hlt)
      injection he with he1 he2 he3
      subst he1 he3
      obtain ⟨b2, off2, c2, he, -, hbl2, hsl2⟩ := ((HB.out.keep HBEL.out).cases).resolve_left (fun ⟨A, c, _, h⟩ => by rw [h] at hlt; simp at hlt)
      injection he with he1 he2 he3
      subst he1 he3
      obtain ⟨-, hc1⟩ := hsl.cells hlt
      obtain ⟨-, hc2⟩ := hsl2.cells hlt
      have e0 : wr.cell? ⟨b, off + k * 2, none⟩ = some (.int .i64 xs[k].n) := by simpa using hc1 0 _ rfl
      have e1 : wr.cell? ⟨b, off + k * 2 + 1, none⟩ = some (.string xs[k].s) := by simpa using hc1 1 _ rfl
      have d0 : wr.cell? ⟨b2, off2 + k * 2, none⟩ = some (.int .i64 xs[k].n) := by simpa using hc2 0 _ rfl
      have d1 : wr.cell? ⟨b2, off2 + k * 2 + 1, none⟩ = some (.string xs[k].s) := by simpa using hc2 1 _ rfl
      have hk0 : (0 : Int) ≤ (k : Int) := by omega
      have hk1 : (k : Int) < (xs.length : Int) := by omega
      clear hc1 hc2 hsl hsl2
      generalize xs[k] = x at *
      obtain ⟨xn, xs1⟩ := x
      simp only at e0 e1 d0 d1
      go_wp2_with fail
      go_quiet (fail)
      go_wp2_with fail
      go_roundw
      case rel => exact ⟨k + 1, by omega, by go_num, below_drewN' _ HBEL.out⟩
      case measure => simp [intOf]; omega
    · go_wp2_with fail
      go_ret
      exact ⟨rfl, HBEL.out⟩
end Go.Proofs.Ytjjiclbngoldaaa
