/- cahierlaw20.great: some Bool; false only where there are at most 30 conditions and 60 columns. -/
import Derived.Test.YtlhmencjhhpacaaPlanSame
namespace Go.Proofs.Ytlhmencjhhpacaa
open Go.RowKit

/-- the answer is a Bool; where it says false the query is small -/
def GreatP (e : Ending) (n m : Nat) : Prop := ∃ b, e = .returned (.bool b) ∧ (b = false → n ≤ 30 ∧ m ≤ 60)

set_option maxRecDepth 100000 in
set_option maxHeartbeats 1000000 in
theorem great_any (t : Int) (cv lv : Value) (conds : List Cnd) (cs : List Int) (ord : Int) (down : Bool) (lim : Int) (w : World) (hcv : Sl Cnd.cells 5 w cv conds) (hlv : Sl iCells 1 w lv cs) :
    Calls Try.prog 28 #[.agg #[.int .i64 t, cv, lv, .int .i64 ord, .bool down, .int .i64 lim]] w fun e w' => GreatP e conds.length cs.length ∧ Below w.heap.size w w' := by
  obtain ⟨Ac, cc, rfl⟩ := Sl.len' hcv
  obtain ⟨Al, cl, rfl⟩ := Sl.len' hlv
  have HCV := Lib.hid hcv
  clear hcv hlv
  have hbb := (Below.refl w.heap.size w).alloc (Nat.le_refl _) (.cells #[.int .i64 t, .slice Ac conds.length cc, .slice Al cs.length cl, .int .i64 ord, .bool down, .int .i64 lim] 50)
  have HB := Lib.hid hbb
  clear hbb
  go_enter Try.func28, Try.ntmps28
  by_cases h30 : (30 : Int) < conds.length
  · go_wp2_with fail
    go_ret
    exact ⟨⟨_, rfl, fun h => by cases h⟩, HB.out⟩
  by_cases h60 : (60 : Int) < cs.length
  · go_wp2_with fail
    go_ret
    exact ⟨⟨_, rfl, fun h => by cases h⟩, HB.out⟩
  have HS := Lib.hid (show conds.length ≤ 30 ∧ cs.length ≤ 60 by omega)
  have hl : conds.length ≤ 30 := by omega
  go_wp2_with fail
  go_loopw [3, 4] (fun n i wr => ∃ (k : Nat) (m : Int), k ≤ conds.length ∧ i = .int .i64 k ∧ n = .int .i64 m ∧ wr = w.alloc (.cells #[.int .i64 t, .slice Ac conds.length cc, .slice Al cs.length cl, .int .i64 ord, .bool down, .int .i64 lim] 50)) (fun _ i _ => conds.length - (intOf i).toNat)
  case atStart => exact ⟨0, 0, Nat.zero_le _, rfl, rfl, rfl⟩
  case round =>
    obtain ⟨k, m, hk, rfl, rfl, rfl⟩ := hrel
    by_cases hkl : k < conds.length
    · rcases HCV.out.cases with ⟨A, c, he, hnil⟩ | ⟨b, off, c, he, -, hbl, hcv'⟩
      · rw [hnil] at hkl; simp at hkl
      injection he with he1 he2 he3
      subst he1 he3
      obtain ⟨-, hcells⟩ := hcv'.cells hkl
      obtain ⟨e1, e2, e3, e4, e5⟩ := Cnd.row hcells
      clear hcells hcv'
      go_wp2_with fail
      go_roundw
      case rel => exact ⟨k + 1, _, by omega, by go_num, rfl, trivial⟩
      case measure => simp [intOf]; omega
    · go_wp2_with fail
      go_ret
      exact ⟨⟨_, rfl, fun _ => HS.out⟩, HB.out⟩
end Go.Proofs.Ytlhmencjhhpacaa
