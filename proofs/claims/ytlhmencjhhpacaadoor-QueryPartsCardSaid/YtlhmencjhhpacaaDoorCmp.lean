/- value.Compare and cahierref06.Compare answer the same: the order of values. -/
import Derived.Test.YtlhmencjhhpacaaDoorVal
import Derived.Test.YtlhmencjhhpacaaDoorShelf
import Derived.Test.YtlhmencjhhpacaaDoorUp
import Derived.StillTailTactics
namespace Go.Proofs.YtlhmencjhhpacaaDoor
open Go.RowKit

def iCells (n : Int) : List Value := [.int .i64 n]
theorem iCells_len (n : Int) : (iCells n).length = 1 := rfl
/-- the first that is not 0 -/
def orI : List Int → Int
  | [] => 0
  | x :: xs => if x = 0 then orI xs else x
theorem orI_at : ∀ (xs : List Int) (k : Nat) (hk : k < xs.length), (xs[k] != 0) = true → (∀ j (h : j < xs.length), j < k → xs[j] = 0) → orI xs = xs[k]
  | x :: xs, 0, _, h, _ => by rw [orI, if_neg (by simpa using h)]; rfl
  | x :: xs, k + 1, hk, h, ha => by
    have h0 : x = 0 := ha 0 (by simp) (by omega)
    rw [orI, if_pos h0]
    exact orI_at xs k (by simp at hk; omega) (by simpa using h) fun j hj hlt => ha (j + 1) (by simp; omega) (by omega)
theorem orI_none : ∀ (xs : List Int), (∀ j (h : j < xs.length), xs[j] = 0) → orI xs = 0
  | [], _ => rfl
  | x :: xs, ha => by
    have h0 : x = 0 := ha 0 (by simp)
    rw [orI, if_pos h0]
    exact orI_none xs fun j hj => ha (j + 1) (by simp; omega)

theorem orInt_any (xs : List Int) (v : Value) (w : World) (hv : Sl iCells 1 w v xs) (hl : xs.length ≤ 1073741824) :
    Calls Tryd.prog 43 #[v] w fun e w' => e = .returned (.int .i64 (orI xs)) ∧ w = w' := by
  rcases hv.cases with ⟨A, c, rfl, rfl⟩ | ⟨b, off, c, rfl, hne, hbl, hv'⟩
  · clear hv
    go_enter Tryd.func43, Tryd.ntmps43
    go_wp2
    go_rounds 1
    go_ret
    exact ⟨rfl, rfl⟩
  have HV := Lib.hid hv'
  clear hv hv' hne
  go_enter Tryd.func43, Tryd.ntmps43
  go_wp2
  go_loop [8] (fun i => ∃ k : Nat, k ≤ xs.length ∧ i = .int .i64 k ∧ ∀ j (h : j < xs.length), j < k → xs[j] = 0) (fun i => xs.length - (intOf i).toNat)
  case atStart => exact ⟨0, Nat.zero_le _, rfl, fun j _ h => absurd h (by omega)⟩
  case round =>
    obtain ⟨k, hk, rfl, hall⟩ := hrel
    have HA := Lib.hid hall
    clear hall
    by_cases hkl : k < xs.length
    · have HK := Lib.hid hkl
      obtain ⟨-, hcells⟩ := HV.out.cells hkl
      have e0 : w.cell? ⟨b, off + k, none⟩ = some (.int .i64 xs[k]) := by
        have := hcells 0 _ rfl
        simp only [Nat.mul_one, Nat.add_zero] at this
        exact this
      clear hcells
      rcases Bool.eq_false_or_eq_true (xs[k] != 0) with hx | hx
      · go_wp2
        go_ret
        exact ⟨ret_i (orI_at xs k HK.out hx HA.out).symm, rfl⟩
      · go_wp2
        have hx0 : xs[k] = 0 := by simpa using hx
        go_round
        case rel =>
          refine ⟨k + 1, by omega, by go_num, fun j hj hlt => ?_⟩
          by_cases e : j = k
          · subst e; exact hx0
          · exact HA.out j hj (by omega)
        case measure => simp [intOf]; omega
    · have HK := Lib.hid hkl
      go_wp2
      go_ret
      exact ⟨ret_i (orI_none xs fun j hj => HA.out j hj (by have := HK.out; omega)).symm, rfl⟩

/-- how two values stand -/
def cmpV (ak an : Int) (sa : ByteArray) (bk bn : Int) (sb : ByteArray) : Int :=
  if (!goodB ak an sa || !goodB bk bn sb) = true then 0 else orI [Lib.compareInt ak bk, Lib.compareInt an bn, Lib.compareBytes sa.data.toList sb.data.toList]

set_option maxRecDepth 100000 in
theorem compare_any (ak an : Int) (sa : ByteArray) (bk bn : Int) (sb : ByteArray) (w : World) (ha : sa.size ≤ maxLen) (hb : sb.size ≤ maxLen) :
    Calls Tryd.prog 29 #[.agg #[.int .i64 ak, .int .i64 an, .string sa], .agg #[.int .i64 bk, .int .i64 bn, .string sb]] w fun e w' => e = .returned (.int .i64 (cmpV ak an sa bk bn sb)) ∧ Below w.heap.size w w' := by
  go_enter Tryd.func29, Tryd.ntmps29
  go_wp2_with fail
  refine (good_any _ _ _ _ ha).mono ?_
  rintro e w1 ⟨rfl, hb1⟩
  obtain ⟨hc1, hf1⟩ := bcell hb1
  have hz1 : w.heap.size < w1.heap.size := by have := hb1.size; simp only [World.size_alloc] at this; omega
  have hz1' : w.heap.size + 1 < w1.heap.size := by have := hb1.size; simp only [World.size_alloc] at this; omega
  have HB := Lib.hid (((Below.refl _ w).alloc (Nat.le_refl _) _).alloc (by simp) _ |>.trans (hb1.mono (by simp; omega)))
  clear hb1
  rcases Bool.eq_false_or_eq_true (goodB ak an sa) with hga | hga
  rotate_left
  · go_wp2_with fail
    go_ret
    exact ⟨ret_i (by unfold cmpV; rw [hga]; rfl), HB.out⟩
  go_wp2_with fail
  refine (good_any _ _ _ _ hb).mono ?_
  rintro e w2 ⟨rfl, hb2⟩
  have HB2 := Lib.hid (HB.out.trans (hb2.mono HB.out.size))
  have hc2 : ∀ o, w2.cell? ⟨w.heap.size, o, none⟩ = (#[.int .i64 ak, .int .i64 an, .string sa] : Array Value)[o]? := fun o => by
    rw [hb2.cell (p := ⟨w.heap.size, o, none⟩) hz1, hc1 _ _ (by simp; omega)]; simp
  have hc2' : ∀ o, w2.cell? ⟨w.heap.size + 1, o, none⟩ = (#[.int .i64 bk, .int .i64 bn, .string sb] : Array Value)[o]? := fun o => by
    rw [hb2.cell (p := ⟨w.heap.size + 1, o, none⟩) hz1', hc1 _ _ (by simp)]; simp
  clear hb2 hc1 hf1
  rcases Bool.eq_false_or_eq_true (goodB bk bn sb) with hgb | hgb
  rotate_left
  · go_wp2_with fail
    go_ret
    exact ⟨ret_i (by unfold cmpV; rw [hga, hgb]; rfl), HB2.out⟩
  have hret : cmpV ak an sa bk bn sb = orI [Lib.compareInt ak bk, Lib.compareInt an bn, Lib.compareBytes sa.data.toList sb.data.toList] := by unfold cmpV; rw [hga, hgb]; rfl
  have Hret := Lib.hid hret
  clear hret
  go_wp2_with fail
  refine wp_region_still_tail 15 (by kernel_rfl) (by kernel_rfl) ?_
  simp only [List.take_succ_cons, List.take_zero, List.drop_succ_cons, List.drop_zero]
  repeat still_step
  still_call (Tryd.cmp_Compare_int _ _ _)
  repeat still_step
  still_call (Tryd.cmp_Compare_int _ _ _)
  repeat still_step
  still_call (Tryd.strings_Compare _ _ _)
  refine wpStill_nil ?_
  change wpList _ _ _ _ _ w2.drew
  generalize Lib.compareInt ak bk = x0 at *
  generalize Lib.compareInt an bn = x1 at *
  generalize Lib.compareBytes sa.data.toList sb.data.toList = x2 at *
  have HBd := Lib.hid HB2.out.drew
  clear HB2 hc2 hc2'
  generalize w2.drew = w3 at *
  go_wp2_with fail
  refine (orInt_any [x0, x1, x2] _ _ (Sl.new rfl iCells_len rfl rfl) (by simp)).mono ?_
  rintro e w4 ⟨rfl, rfl⟩
  go_wp2_with fail
  go_ret
  exact ⟨ret_i Hret.out.symm, HBd.out.alloc HBd.out.size _⟩

def bAt (s : ByteArray) (k : Nat) : List UInt8 := s.data.toList.drop k
theorem bAt_at (s : ByteArray) (k : Nat) (h : k < s.size) : bAt s k = s[k] :: bAt s (k + 1) := by
  unfold bAt
  rw [List.drop_eq_getElem_cons (by simpa using h)]
  rfl
theorem bAt_end (s : ByteArray) (k : Nat) (h : ¬ k < s.size) : bAt s k = [] := by
  unfold bAt
  apply List.drop_eq_nil_of_le
  simp only [Array.length_toList]
  have : s.data.size = s.size := rfl
  omega
theorem cmpB_lt {a b : UInt8} {ra rb : List UInt8} (h : (a.toNat : Int) < b.toNat) : Lib.compareBytes (a :: ra) (b :: rb) = -1 := by
  unfold Lib.compareBytes; rw [if_pos (by rw [UInt8.lt_iff_toNat_lt]; omega)]
theorem cmpB_gt {a b : UInt8} {ra rb : List UInt8} (h : (b.toNat : Int) < a.toNat) : Lib.compareBytes (a :: ra) (b :: rb) = 1 := by
  unfold Lib.compareBytes; rw [if_neg (by rw [UInt8.lt_iff_toNat_lt]; omega), if_pos (by rw [UInt8.lt_iff_toNat_lt]; omega)]
theorem cmpB_eq {a b : UInt8} {ra rb : List UInt8} (h1 : ¬ (a.toNat : Int) < b.toNat) (h2 : ¬ (b.toNat : Int) < a.toNat) : Lib.compareBytes (a :: ra) (b :: rb) = Lib.compareBytes ra rb := by
  rw [Lib.compareBytes, if_neg (by rw [UInt8.lt_iff_toNat_lt]; omega), if_neg (by rw [UInt8.lt_iff_toNat_lt]; omega)]

theorem orI_int {a b : Int} {l : List Int} : orI (Lib.compareInt a b :: l) = if a < b then -1 else if b < a then 1 else orI l := by
  rw [show orI (Lib.compareInt a b :: l) = if Lib.compareInt a b = 0 then orI l else Lib.compareInt a b from rfl]
  unfold Lib.compareInt
  by_cases h1 : a < b
  · simp [h1]
  · by_cases h2 : b < a
    · simp [h1, h2]
    · simp [h1, h2]

end Go.Proofs.YtlhmencjhhpacaaDoor
