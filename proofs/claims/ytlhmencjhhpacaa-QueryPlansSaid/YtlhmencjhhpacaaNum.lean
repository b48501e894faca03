/- schema.Number, schema.Col and the references': tables and columns by their names. -/
import Derived.Test.YtlhmencjhhpacaaCols
namespace Go.Proofs.Ytlhmencjhhpacaa
open Go.RowKit

def number (s : ByteArray) : Int :=
  if ([115, 116, 121, 108, 101, 115] == s.toList) = true then 1 else if ([112, 97, 114, 97, 115] == s.toList) = true then 2 else if ([98, 108, 111, 98, 115] == s.toList) = true then 3 else 0
theorem number_any (s : ByteArray) (w : World) :
    Calls Try.prog 15 #[.string s] w fun e w' => e = .returned (.int .i64 (number s)) ∧ w = w' := by
  go_enter Try.func15, Try.ntmps15
  go_wp2
  go_rounds 4
  all_goals go_ret
  all_goals refine ⟨ret_i ?_, rfl⟩
  all_goals simp [number, *]
theorem numberR_any (s : ByteArray) (w : World) :
    Calls Try.prog 16 #[.string s] w fun e w' => e = .returned (.int .i64 (number s)) ∧ w = w' := by
  go_enter Try.func16, Try.ntmps16
  go_wp2
  go_rounds 4
  all_goals go_ret
  all_goals refine ⟨ret_i ?_, rfl⟩
  all_goals simp [number, *]
theorem col1_any (x : C) (s : ByteArray) (w : World) (B : Nat) (hB : w.cell? ⟨B, 0, none⟩ = some (.string s)) (hlt : B < w.heap.size) :
    Calls Try.prog 43 #[.agg #[.string x.name, .int .i64 x.kind, .bool x.null, .bool x.uniq, .int .i64 x.ref], .pointer (some ⟨B, 0, none⟩)] w fun e w' => e = .returned (.bool (x.name.toList == s.toList)) ∧ Below w.heap.size w w' := by
  go_enter Try.func43, Try.ntmps43
  go_wp2
  go_ret
  exact ⟨rfl, by go_grown⟩
def isNamed (s : ByteArray) (x : C) : Bool := x.name.toList == s.toList
theorem indexCol_any (xs : List C) (v : Value) (s : ByteArray) (w : World) (B : Nat) (hB : w.cell? ⟨B, 0, none⟩ = some (.string s)) (hlt : B < w.heap.size) (hv : Sl C.cells 5 w v xs) (hl : xs.length ≤ 4) :
    Calls Try.prog 42 #[v, .func (.func 43) #[] #[.pointer (some ⟨B, 0, none⟩)]] w
      fun e w' => e = .returned (.int .i64 (firstOr (isNamed s) xs)) ∧ Below w.heap.size w w' := by
  have Hv := Lib.hid hv
  rcases hv.cases with ⟨A, c, rfl, rfl⟩ | ⟨b, off, c, rfl, hne, hbl, hv'⟩
  · clear hv
    go_enter Try.func42, Try.ntmps42
    go_wp2
    go_rounds 1
    go_ret
    exact ⟨rfl, by go_grown⟩
  clear hv hne
  have HV := Lib.hid hv'
  clear hv'
  go_enter Try.func42, Try.ntmps42
  go_wp2
  go_loopw [8] (fun i wr => ∃ k : Nat, k ≤ xs.length ∧ i = .int .i64 k ∧ Below w.heap.size w wr ∧ ∀ j (h : j < xs.length), j < k → isNamed s xs[j] = false) (fun i _ => xs.length - (intOf i).toNat)
  case atStart => exact ⟨0, Nat.zero_le _, rfl, Below.refl _ _, fun j _ h => absurd h (by omega)⟩
  case round =>
    obtain ⟨k, hk, rfl, hb, hnot⟩ := hrel
    by_cases hkl : k < xs.length
    · obtain ⟨hbl', hcells⟩ := (HV.out.keep hb).cells hkl
      obtain ⟨e0, e1, e2, e3, e4⟩ := C.row hcells
      have hB' : wr.cell? ⟨B, 0, none⟩ = some (.string s) := by rw [hb.cell (p := ⟨B, 0, none⟩) hlt]; exact hB
      have hltB : B < wr.heap.size := Nat.lt_of_lt_of_le hlt hb.size
      have HB := Lib.hid hb
      have HN := Lib.hid hnot
      clear hb hnot hcells hbl'
      go_wp2_with fail
      refine (col1_any xs[k] s wr B hB' hltB).mono ?_
      rintro e w1 ⟨rfl, hb1⟩
      have HB1 := Lib.hid hb1
      clear hb1 hB' hltB e0 e1 e2 e3 e4
      go_wp2_with fail
      · go_ret
        exact ⟨ret_i (firstOr_at hkl ‹_› HN.out).symm, HB.out.trans (HB1.out.mono HB.out.size)⟩
      · go_roundw
        case rel => exact ⟨k + 1, by omega, by go_num, HB.out.trans (HB1.out.mono HB.out.size), not_up HN.out hkl ‹_›⟩
        case measure => simp [intOf]; omega
    · have HN := Lib.hid hnot
      clear hnot
      go_wp2_with fail
      go_ret
      exact ⟨ret_i (firstOr_none hkl HN.out).symm, hb⟩

theorem cols_len (t : Int) : (cols t).length ≤ 4 := by unfold cols; split <;> (try split) <;> (try split) <;> simp
def colNo (t : Int) (s : ByteArray) : Int := 1 + firstOr (isNamed s) (cols t)
theorem firstOr_bd {α : Type} (p : α → Bool) (xs : List α) : -1 ≤ firstOr p xs ∧ firstOr p xs ≤ xs.length := by
  unfold firstOr; split <;> omega
theorem col_any (t : Int) (s : ByteArray) (w : World) :
    Calls Try.prog 17 #[.int .i64 t, .string s] w fun e w' => e = .returned (.int .i64 (colNo t s)) ∧ Below w.heap.size w w' := by
  have hl := cols_len t
  have hbd := firstOr_bd (isNamed s) (cols t)
  have hret : 1 + firstOr (isNamed s) (cols t) = colNo t s := rfl
  have Hret := Lib.hid hret
  clear hret
  go_enter Try.func17, Try.ntmps17
  go_wp2_with fail
  refine (cols_any t _).mono ?_
  rintro e w1 ⟨v, rfl, hsl, -, hb⟩
  have hsz := hb.size
  have hB : w1.cell? ⟨w.heap.size, 0, none⟩ = some (.string s) := by rw [hb.cell (p := ⟨w.heap.size, 0, none⟩) (by simp)]; simp
  have Hb := Lib.hid hb
  have Hsl := Lib.hid hsl
  clear hb hsl
  go_wp2_with fail
  refine (indexCol_any _ _ s _ w.heap.size hB (by simp at hsz; omega) Hsl.out hl).mono ?_
  rintro e w2 ⟨rfl, hb2⟩
  have Hb2 := Lib.hid hb2
  clear hb2
  go_wp2_with fail
  go_ret
  exact ⟨ret_i Hret.out, ((Below.refl _ _).alloc (Nat.le_refl _) _).trans ((below2 Hb.out Hb2.out).mono (by simp))⟩

theorem colR_any (t : Int) (s : ByteArray) (w : World) :
    Calls Try.prog 18 #[.int .i64 t, .string s] w fun e w' => e = .returned (.int .i64 (colNo t s)) ∧ Below w.heap.size w w' := by
  have hl := cols_len t
  have hret : colNo t s = 1 + firstOr (isNamed s) (cols t) := rfl
  have Hret := Lib.hid hret
  clear hret
  go_enter Try.func18, Try.ntmps18
  go_wp2_with fail
  refine (colsR_any t _).mono ?_
  rintro e w1 ⟨v, rfl, hsl, -, hb⟩
  have Hb := Lib.hid hb
  clear hb
  generalize cols t = xs at *
  rcases hsl.cases with ⟨A, c, rfl, rfl⟩ | ⟨b, off, c, rfl, hne, hbl, hsl'⟩
  · clear hsl
    go_wp2_with fail
    go_rounds 1
    go_ret
    exact ⟨ret_i (by rw [Hret.out]; rfl), Hb.out⟩
  clear hsl hne
  have HV := Lib.hid hsl'
  clear hsl'
  go_wp2_with fail
  go_loop [6] (fun i => ∃ k : Nat, k ≤ xs.length ∧ i = .int .i64 k ∧ ∀ j (h : j < xs.length), j < k → isNamed s xs[j] = false) (fun i => xs.length - (intOf i).toNat)
  case atStart => exact ⟨0, Nat.zero_le _, rfl, fun j _ h => absurd h (by omega)⟩
  case round =>
    obtain ⟨k, hk, rfl, hnot⟩ := hrel
    have HN := Lib.hid hnot
    clear hnot
    by_cases hkl : k < xs.length
    · obtain ⟨hbl', hcells⟩ := HV.out.cells hkl
      obtain ⟨e0, e1, e2, e3, e4⟩ := C.row hcells
      clear e1 e2 e3 e4 hcells hbl'
      go_wp2_with fail
      · go_ret
        exact ⟨ret_i (by rw [Hret.out, firstOr_at hkl ‹_› HN.out]; omega), Hb.out⟩
      · go_round
        case rel => exact ⟨k + 1, by omega, by go_num, not_up HN.out hkl ‹_›⟩
        case measure => simp [intOf]; omega
    · go_wp2_with fail
      go_ret
      exact ⟨ret_i (by rw [Hret.out, firstOr_none hkl HN.out]; rfl), Hb.out⟩
end Go.Proofs.Ytlhmencjhhpacaa
