/- value.Compare and cahierref06.Compare answer the same: the order of values. -/
import Derived.Test.YtlhmencjhhpacaaVal
import Derived.Test.YtlhmencjhhpacaaShelf
import Derived.Test.YtlhmencjhhpacaaUp
import Derived.StillTailTactics
namespace Go.Proofs.Ytlhmencjhhpacaa
open Go.RowKit

def iCells (n : Int) : List Value := [.int .i64 n]
theorem iCells_len (n : Int) : (iCells n).length = 1 := rfl
/-- the first that is not 0 -/
def orI : List Int → Int
  | [] => 0
  | x :: xs => if x = 0 then orI xs else x
theorem orI_at : ∀ (xs : List Int) (k : Nat) (hk : k < xs.length), (xs[k] != 0) = true → (∀ j (h : j < xs.length), j < k → xs[j] = 0) → orI xs = xs[k]
  | x :: xs, 0, _, h, _ => by rw [orI, if_neg (by simpa using h)]; rfl
  | x :: xs, k + 1, hk, h, ha => by
    have h0 : x = 0 := ha 0 (by simp) (by omega)
    rw [orI, if_pos h0]
    exact orI_at xs k (by simp at hk; omega) (by simpa using h) fun j hj hlt => ha (j + 1) (by simp; omega) (by omega)
theorem orI_none : ∀ (xs : List Int), (∀ j (h : j < xs.length), xs[j] = 0) → orI xs = 0
  | [], _ => rfl
  | x :: xs, ha => by
    have h0 : x = 0 := ha 0 (by simp)
    rw [orI, if_pos h0]
    exact orI_none xs fun j hj => ha (j + 1) (by simp; omega)

theorem orInt_any (xs : List Int) (v : Value) (w : World) (hv : Sl iCells 1 w v xs) (hl : xs.length ≤ 1073741824) :
    Calls Try.prog 69 #[v] w fun e w' => e = .returned (.int .i64 (orI xs)) ∧ w = w' := by
  rcases hv.cases with ⟨A, c, rfl, rfl⟩ | ⟨b, off, c, rfl, hne, hbl, hv'⟩
  · clear hv
    go_enter Try.func69, Try.ntmps69
    go_wp2
    go_rounds 1
    go_ret
    exact ⟨rfl, rfl⟩
  have HV := Lib.hid hv'
  clear hv hv' hne
  go_enter Try.func69, Try.ntmps69
  go_wp2
  go_loop [8] (fun i => ∃ k : Nat, k ≤ xs.length ∧ i = .int .i64 k ∧ ∀ j (h : j < xs.length), j < k → xs[j] = 0) (fun i => xs.length - (intOf i).toNat)
  case atStart => exact ⟨0, Nat.zero_le _, rfl, fun j _ h => absurd h (by omega)⟩
  case round =>
    obtain ⟨k, hk, rfl, hall⟩ := hrel
    have HA := Lib.hid hall
    clear hall
    by_cases hkl : k < xs.length
    · have HK := Lib.hid hkl
      obtain ⟨-, hcells⟩ := HV.out.cells hkl
      have e0 : w.cell? ⟨b, off + k, none⟩ = some (.int .i64 xs[k]) := by
        have := hcells 0 _ rfl
        simp only [Nat.mul_one, Nat.add_zero] at this
        exact this
      clear hcells
      rcases Bool.eq_false_or_eq_true (xs[k] != 0) with hx | hx
      · go_wp2
        go_ret
        exact ⟨ret_i (orI_at xs k HK.out hx HA.out).symm, rfl⟩
      · go_wp2
        have hx0 : xs[k] = 0 := by simpa using hx
        go_round
        case rel =>
          refine ⟨k + 1, by omega, by go_num, fun j hj hlt => ?_⟩
          by_cases e : j = k
          · subst e; exact hx0
          · exact HA.out j hj (by omega)
        case measure => simp [intOf]; omega
    · have HK := Lib.hid hkl
      go_wp2
      go_ret
      exact ⟨ret_i (orI_none xs fun j hj => HA.out j hj (by have := HK.out; omega)).symm, rfl⟩

/-- how two values stand -/
def cmpV (ak an : Int) (sa : ByteArray) (bk bn : Int) (sb : ByteArray) : Int :=
  if (!goodB ak an sa || !goodB bk bn sb) = true then 0 else orI [Lib.compareInt ak bk, Lib.compareInt an bn, Lib.compareBytes sa.data.toList sb.data.toList]

set_option maxRecDepth 100000 in
theorem compare_any (ak an : Int) (sa : ByteArray) (bk bn : Int) (sb : ByteArray) (w : World) (ha : sa.size ≤ maxLen) (hb : sb.size ≤ maxLen) :
    Calls Try.prog 40 #[.agg #[.int .i64 ak, .int .i64 an, .string sa], .agg #[.int .i64 bk, .int .i64 bn, .string sb]] w fun e w' => e = .returned (.int .i64 (cmpV ak an sa bk bn sb)) ∧ Below w.heap.size w w' := by
  go_enter Try.func40, Try.ntmps40
  go_wp2_with fail
  refine (good_any _ _ _ _ ha).mono ?_
  rintro e w1 ⟨rfl, hb1⟩
  obtain ⟨hc1, hf1⟩ := bcell hb1
  have hz1 : w.heap.size < w1.heap.size := by have := hb1.size; simp only [World.size_alloc] at this; omega
  have hz1' : w.heap.size + 1 < w1.heap.size := by have := hb1.size; simp only [World.size_alloc] at this; omega
  have HB := Lib.hid (((Below.refl _ w).alloc (Nat.le_refl _) _).alloc (by simp) _ |>.trans (hb1.mono (by simp; omega)))
  clear hb1
  rcases Bool.eq_false_or_eq_true (goodB ak an sa) with hga | hga
  rotate_left
  · go_wp2_with fail
    go_ret
    exact ⟨ret_i (by unfold cmpV; rw [hga]; rfl), HB.out⟩
  go_wp2_with fail
  refine (good_any _ _ _ _ hb).mono ?_
  rintro e w2 ⟨rfl, hb2⟩
  have HB2 := Lib.hid (HB.out.trans (hb2.mono HB.out.size))
  have hc2 : ∀ o, w2.cell? ⟨w.heap.size, o, none⟩ = (#[.int .i64 ak, .int .i64 an, .string sa] : Array Value)[o]? := fun o => by
    rw [hb2.cell (p := ⟨w.heap.size, o, none⟩) hz1, hc1 _ _ (by simp; omega)]; simp
  have hc2' : ∀ o, w2.cell? ⟨w.heap.size + 1, o, none⟩ = (#[.int .i64 bk, .int .i64 bn, .string sb] : Array Value)[o]? := fun o => by
    rw [hb2.cell (p := ⟨w.heap.size + 1, o, none⟩) hz1', hc1 _ _ (by simp)]; simp
  clear hb2 hc1 hf1
  rcases Bool.eq_false_or_eq_true (goodB bk bn sb) with hgb | hgb
  rotate_left
  · go_wp2_with fail
    go_ret
    exact ⟨ret_i (by unfold cmpV; rw [hga, hgb]; rfl), HB2.out⟩
  have hret : cmpV ak an sa bk bn sb = orI [Lib.compareInt ak bk, Lib.compareInt an bn, Lib.compareBytes sa.data.toList sb.data.toList] := by unfold cmpV; rw [hga, hgb]; rfl
  have Hret := Lib.hid hret
  clear hret
  go_wp2_with fail
  refine wp_region_still_tail 15 (by kernel_rfl) (by kernel_rfl) ?_
  simp only [List.take_succ_cons, List.take_zero, List.drop_succ_cons, List.drop_zero]
  repeat still_step
  still_call (Try.cmp_Compare_int _ _ _)
  repeat still_step
  still_call (Try.cmp_Compare_int _ _ _)
  repeat still_step
  still_call (Try.strings_Compare _ _ _)
  refine wpStill_nil ?_
  change wpList _ _ _ _ _ w2.drew
  generalize Lib.compareInt ak bk = x0 at *
  generalize Lib.compareInt an bn = x1 at *
  generalize Lib.compareBytes sa.data.toList sb.data.toList = x2 at *
  have HBd := Lib.hid HB2.out.drew
  clear HB2 hc2 hc2'
  generalize w2.drew = w3 at *
  go_wp2_with fail
  refine (orInt_any [x0, x1, x2] _ _ (Sl.new rfl iCells_len rfl rfl) (by simp)).mono ?_
  rintro e w4 ⟨rfl, rfl⟩
  go_wp2_with fail
  go_ret
  exact ⟨ret_i Hret.out.symm, HBd.out.alloc HBd.out.size _⟩

def bAt (s : ByteArray) (k : Nat) : List UInt8 := s.data.toList.drop k
theorem bAt_at (s : ByteArray) (k : Nat) (h : k < s.size) : bAt s k = s[k] :: bAt s (k + 1) := by
  unfold bAt
  rw [List.drop_eq_getElem_cons (by simpa using h)]
  rfl
theorem bAt_end (s : ByteArray) (k : Nat) (h : ¬ k < s.size) : bAt s k = [] := by
  unfold bAt
  apply List.drop_eq_nil_of_le
  simp only [Array.length_toList]
  have : s.data.size = s.size := rfl
  omega
theorem cmpB_lt {a b : UInt8} {ra rb : List UInt8} (h : (a.toNat : Int) < b.toNat) : Lib.compareBytes (a :: ra) (b :: rb) = -1 := by
  unfold Lib.compareBytes; rw [if_pos (by rw [UInt8.lt_iff_toNat_lt]; omega)]
theorem cmpB_gt {a b : UInt8} {ra rb : List UInt8} (h : (b.toNat : Int) < a.toNat) : Lib.compareBytes (a :: ra) (b :: rb) = 1 := by
  unfold Lib.compareBytes; rw [if_neg (by rw [UInt8.lt_iff_toNat_lt]; omega), if_pos (by rw [UInt8.lt_iff_toNat_lt]; omega)]
theorem cmpB_eq {a b : UInt8} {ra rb : List UInt8} (h1 : ¬ (a.toNat : Int) < b.toNat) (h2 : ¬ (b.toNat : Int) < a.toNat) : Lib.compareBytes (a :: ra) (b :: rb) = Lib.compareBytes ra rb := by
  rw [Lib.compareBytes, if_neg (by rw [UInt8.lt_iff_toNat_lt]; omega), if_neg (by rw [UInt8.lt_iff_toNat_lt]; omega)]

theorem bytesR_any (a b : ByteArray) (w : World) (_ha : a.size ≤ maxLen) (_hb : b.size ≤ maxLen) :
    Calls Try.prog 85 #[.string a, .string b] w fun e w' => e = .returned (.int .i64 (Lib.compareBytes a.data.toList b.data.toList)) ∧ Below w.heap.size w w' := by
  unfold maxLen at _ha _hb
  have h0 : Lib.compareBytes a.data.toList b.data.toList = Lib.compareBytes (bAt a 0) (bAt b 0) := rfl
  have H0 := Lib.hid h0
  clear h0
  go_enter Try.func85, Try.ntmps85
  go_wp2_with fail
  go_loopw [5] (fun i wr => ∃ k : Nat, k ≤ a.size ∧ k ≤ b.size ∧ i = .int .i64 k ∧ Lib.compareBytes a.data.toList b.data.toList = Lib.compareBytes (bAt a k) (bAt b k) ∧ Below w.heap.size w wr) (fun i _ => a.size - (intOf i).toNat)
  case atStart => exact ⟨0, Nat.zero_le _, Nat.zero_le _, rfl, H0.out, Below.refl _ _⟩
  case round =>
    obtain ⟨k, hk, hk2, rfl, he, hbl⟩ := hrel
    have HE := Lib.hid he
    have HB := Lib.hid hbl
    clear he hbl H0
    by_cases h1 : k < a.size
    · by_cases h2 : k < b.size
      · have HS := Lib.hid (And.intro (bAt_at a k h1) (bAt_at b k h2))
        have hi1 : (k : Int) < a.size := by omega
        have hi2 : (k : Int) < b.size := by omega
        by_cases c1 : (a[k].toNat : Int) < b[k].toNat
        · go_wp2_with fail
          go_quiet (fail)
          go_wp2_with fail
          go_ret
          exact ⟨ret_i (by rw [HE.out, HS.out.1, HS.out.2, cmpB_lt c1]), below_drewN' HB.out nq⟩
        by_cases c2 : (b[k].toNat : Int) < a[k].toNat
        · go_wp2_with fail
          go_quiet (fail)
          go_wp2_with fail
          go_quiet (fail)
          go_wp2_with fail
          go_ret
          exact ⟨ret_i (by rw [HE.out, HS.out.1, HS.out.2, cmpB_gt c2]), below_drewN' (below_drewN' HB.out _) _⟩
        · have HE' := Lib.hid (show Lib.compareBytes a.data.toList b.data.toList = Lib.compareBytes (bAt a (k + 1)) (bAt b (k + 1)) by rw [HE.out, HS.out.1, HS.out.2, cmpB_eq c1 c2])
          go_wp2_with fail
          go_quiet (fail)
          go_wp2_with fail
          go_quiet (fail)
          go_wp2_with fail
          exact ⟨⟨k + 1, by omega, by omega, by go_num, HE'.out, by first | exact below_drewN' HB.out _ | exact below_drewN' (below_drewN' HB.out _) _⟩, by simp [intOf]; omega⟩
      · have HS := Lib.hid (And.intro (bAt_at a k h1) (bAt_end b k h2))
        go_wp2_with fail
        all_goals go_ret
        all_goals refine ⟨ret_i ?_, HB.out⟩
        all_goals rw [HE.out, HS.out.1, HS.out.2]
        all_goals rfl
    · by_cases h2 : k < b.size
      · have HS := Lib.hid (And.intro (bAt_end a k h1) (bAt_at b k h2))
        go_wp2_with fail
        all_goals go_ret
        all_goals refine ⟨ret_i ?_, HB.out⟩
        all_goals rw [HE.out, HS.out.1, HS.out.2]
        all_goals rfl
      · have HS := Lib.hid (And.intro (bAt_end a k h1) (bAt_end b k h2))
        go_wp2_with fail
        all_goals go_ret
        all_goals refine ⟨ret_i ?_, HB.out⟩
        all_goals rw [HE.out, HS.out.1, HS.out.2]
        all_goals rfl

theorem orI_int {a b : Int} {l : List Int} : orI (Lib.compareInt a b :: l) = if a < b then -1 else if b < a then 1 else orI l := by
  rw [show orI (Lib.compareInt a b :: l) = if Lib.compareInt a b = 0 then orI l else Lib.compareInt a b from rfl]
  unfold Lib.compareInt
  by_cases h1 : a < b
  · simp [h1]
  · by_cases h2 : b < a
    · simp [h1, h2]
    · simp [h1, h2]

theorem compareR_any (ak an : Int) (sa : ByteArray) (bk bn : Int) (sb : ByteArray) (w : World) (ha : sa.size ≤ maxLen) (hb : sb.size ≤ maxLen) :
    Calls Try.prog 77 #[.agg #[.int .i64 ak, .int .i64 an, .string sa], .agg #[.int .i64 bk, .int .i64 bn, .string sb]] w fun e w' => e = .returned (.int .i64 (cmpV ak an sa bk bn sb)) ∧ Below w.heap.size w w' := by
  go_enter Try.func77, Try.ntmps77
  go_wp2_with fail
  refine (goodR_any _ _ _ _ ha).mono ?_
  rintro e w1 ⟨rfl, hb1⟩
  obtain ⟨hc1, hf1⟩ := bcell hb1
  have hz1 : w.heap.size < w1.heap.size := by have := hb1.size; simp only [World.size_alloc] at this; omega
  have hz1' : w.heap.size + 1 < w1.heap.size := by have := hb1.size; simp only [World.size_alloc] at this; omega
  have HB := Lib.hid (((Below.refl _ w).alloc (Nat.le_refl _) _).alloc (by simp) _ |>.trans (hb1.mono (by simp; omega)))
  clear hb1
  rcases Bool.eq_false_or_eq_true (goodB ak an sa) with hga | hga
  rotate_left
  · go_wp2_with fail
    go_ret
    exact ⟨ret_i (by unfold cmpV; rw [hga]; rfl), HB.out⟩
  go_wp2_with fail
  refine (goodR_any _ _ _ _ hb).mono ?_
  rintro e w2 ⟨rfl, hb2⟩
  have HB2 := Lib.hid (HB.out.trans (hb2.mono HB.out.size))
  have hc2 : ∀ o, w2.cell? ⟨w.heap.size, o, none⟩ = (#[.int .i64 ak, .int .i64 an, .string sa] : Array Value)[o]? := fun o => by
    rw [hb2.cell (p := ⟨w.heap.size, o, none⟩) hz1, hc1 _ _ (by simp; omega)]; simp
  have hc2' : ∀ o, w2.cell? ⟨w.heap.size + 1, o, none⟩ = (#[.int .i64 bk, .int .i64 bn, .string sb] : Array Value)[o]? := fun o => by
    rw [hb2.cell (p := ⟨w.heap.size + 1, o, none⟩) hz1', hc1 _ _ (by simp)]; simp
  clear hb2 hc1 hf1
  rcases Bool.eq_false_or_eq_true (goodB bk bn sb) with hgb | hgb
  rotate_left
  · go_wp2_with fail
    go_ret
    exact ⟨ret_i (by unfold cmpV; rw [hga, hgb]; rfl), HB2.out⟩
  have hret : cmpV ak an sa bk bn sb = if ak < bk then -1 else if bk < ak then 1 else if an < bn then -1 else if bn < an then 1 else Lib.compareBytes sa.data.toList sb.data.toList := by
    unfold cmpV
    rw [hga, hgb]
    simp only [Bool.not_true, Bool.or_self, Bool.false_eq_true, if_false]
    rw [orI_int, orI_int]
    have : orI [Lib.compareBytes sa.data.toList sb.data.toList] = Lib.compareBytes sa.data.toList sb.data.toList := by
      unfold orI
      split
      · rename_i h; rw [h]; rfl
      · rfl
    rw [this]
  have Hret := Lib.hid hret
  clear hret
  by_cases k1 : ak < bk
  · have e1 : (ak != bk) = true := by simp; omega
    go_wp2_with fail
    go_ret
    exact ⟨ret_i (by rw [Hret.out, if_pos k1]), HB2.out⟩
  by_cases k2 : bk < ak
  · have e1 : (ak != bk) = true := by simp; omega
    go_wp2_with fail
    go_ret
    exact ⟨ret_i (by rw [Hret.out, if_neg (by omega), if_pos k2]), HB2.out⟩
  have e1 : (ak != bk) = false := by simp; omega
  by_cases k3 : an < bn
  · go_wp2_with fail
    go_ret
    exact ⟨ret_i (by rw [Hret.out, if_neg (by omega), if_neg (by omega), if_pos k3]), HB2.out⟩
  by_cases k4 : bn < an
  · go_wp2_with fail
    go_ret
    exact ⟨ret_i (by rw [Hret.out, if_neg (by omega), if_neg (by omega), if_neg (by omega), if_pos k4]), HB2.out⟩
  have HK := Lib.hid (And.intro k1 k2)
  clear k1 k2
  go_wp2_with fail
  refine (bytesR_any _ _ _ ha hb).mono ?_
  rintro e w3 ⟨rfl, hb3⟩
  have HB3 := Lib.hid (HB2.out.trans (hb3.mono HB2.out.size))
  clear hb3
  go_wp2_with fail
  go_ret
  exact ⟨ret_i (by rw [Hret.out, if_neg (by have := HK.out; omega), if_neg (by have := HK.out; omega), if_neg (by omega), if_neg (by omega)]), HB3.out⟩
end Go.Proofs.Ytlhmencjhhpacaa
