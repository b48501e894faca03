/- value.Key: what QueryParts asks of it. -/
import Derived.Test.YtlhmencjhhpacaaDoorFixed8
import Derived.Test.YtlhmencjhhpacaaDoorShelf
import Derived.Lib.SplitLaws
import Derived.Lib.ReplaceLaws
namespace Go.Proofs.YtlhmencjhhpacaaDoor
open Go.RowKit

theorem replaceK_len (old new : List UInt8) : ∀ (k : Nat) (s : List UInt8), (Lib.replaceK old new k s).length ≤ s.length + k * new.length
  | 0, s => by unfold Lib.replaceK; omega
  | k + 1, s => by
    unfold Lib.replaceK
    split
    · omega
    · have := replaceK_len old new k (s.drop ((Lib.index s old).toNat + old.length))
      simp only [List.length_append, List.length_take, List.length_drop, Nat.add_mul, Nat.one_mul] at this ⊢
      omega

set_option maxRecDepth 100000 in
theorem key_any (k n : Int) (s : ByteArray) (w : World) (hs : s.size ≤ maxLen) (hm : ∃ m, w.cell? ⟨0, 0, none⟩ = some (.int .i64 m)) :
    Calls Tryd.prog 6 #[.agg #[.int .i64 k, .int .i64 n, .string s]] w fun e w' => (∃ r : ByteArray, e = .returned (.string r) ∧ (goodB k n s = false → r = ⟨#[]⟩)) ∧ Below w.heap.size w w' := by
  obtain ⟨mm, hm⟩ := hm
  have HM := Lib.hid hm
  go_enter Tryd.func6, Tryd.ntmps6
  go_wp2_with fail
  refine (good_any _ _ _ _ hs).mono ?_
  rintro e w1 ⟨rfl, hb1⟩
  obtain ⟨hc1, hf1⟩ := bcell hb1
  have HB := Lib.hid (((Below.refl _ w).alloc (Nat.le_refl _) _).trans (hb1.mono (by simp)))
  rcases Bool.eq_false_or_eq_true (goodB k n s) with hg | hg
  rotate_left
  · rw [hg]
    go_wp2_with fail
    go_ret
    exact ⟨⟨_, rfl, fun _ => rfl⟩, HB.out⟩
  rw [hg]
  have HG := Lib.hid hg
  clear hg
  go_wp2_with fail
  have hbx := blk_alloc (blk_keep (blk_new (w0 := w) rfl) hb1) (.cells #[.int .u8 (k % 256)] 5)
  have hbn := blk_new (w0 := w1) (g := w1.heap.size) (o := .cells #[.int .u8 (k % 256)] 5) rfl
  have HB2 := Lib.hid (HB.out.trans (((Below.refl _ w1).alloc (Nat.le_refl _) (.cells #[.int .u8 (k % 256)] 5)).mono HB.out.size))
  have hl := blk_lt hbx
  have x0 := blk_cell hbx 0
  have x1 := blk_cell hbx 1
  have x2 := blk_cell hbx 2
  have HM2 := Lib.hid ((HB2.out.cell (p := ⟨0, 0, none⟩) (World.block_lt_of_cell? w _ HM.out)).trans HM.out)
  clear hb1 hc1 hf1 HB hm hbx
  generalize w1.alloc (.cells #[.int .u8 (k % 256)] 5) = w2 at *
  generalize w1.heap.size = g1 at *
  have hcv := run_convert_bytes_arg (P := Tryd.prog) w2 50 5 Tryd.underlying50 Tryd.underlying5 g1 0 1 1 [k % 256] rfl (fun i hi => by
    rw [Nat.zero_add, blk_cell hbn i]
    obtain rfl : i = 0 := by omega
    rfl) 9 Tryd.underlying9
  have hsz := strOfNums_size [k % 256]
  simp only [List.length_cons, List.length_nil, Nat.zero_add] at hsz
  generalize strOfNums [k % 256] = r at *
  rw [hcv]
  simp only [Result.andThen]
  rcases Bool.eq_false_or_eq_true (k == 0) with h0 | h0
  · go_wp2_with fail
    go_ret
    exact ⟨⟨r, rfl, fun h => by have := HG.out; rw [h] at this; cases this⟩, by have := HB2.out; go_grown⟩
  rcases Bool.eq_false_or_eq_true (k == 1) with h1 | h1
  · go_wp2_with fail
    refine (fixed8_any _ _).mono ?_
    rintro e w3 ⟨⟨r2, rfl, hr2⟩, hb2⟩
    go_wp2_with fail
    go_ret
    exact ⟨⟨_, rfl, fun h => by have := HG.out; rw [h] at this; cases this⟩, HB2.out.trans (hb2.mono HB2.out.size)⟩
  have h2000 : s.size ≤ 2000 := by
    have := HG.out
    unfold goodB at this
    simp only [h0, h1, Bool.false_eq_true, if_false] at this
    split at this
    · simp only [Bool.and_eq_true, decide_eq_true_eq] at this; omega
    · cases this
  have hco : Lib.countB s ⟨#[0]⟩ ≤ s.size := Lib.countB_le ⟨#[0]⟩ (by decide) _ s (Nat.le_refl _)
  go_wp2_with fail
  refine (Tryd.strings_ReplaceAll s ⟨#[0]⟩ ⟨#[0, 255]⟩ mm w2 (by omega) HM2.out (by decide) (by show s.size + Lib.countB s ⟨#[0]⟩ * 2 ≤ _; omega)).mono ?_
  rintro e w3 ⟨rfl, hb2⟩
  have hrl : (⟨(Lib.replaceAll s.data.toList [0] [0, 255]).toArray⟩ : ByteArray).size ≤ 6000 := by
    have h1 : (⟨(Lib.replaceAll s.data.toList [0] [0, 255]).toArray⟩ : ByteArray).size = (Lib.replaceAll s.data.toList [0] [0, 255]).length := rfl
    rw [h1]
    have hsl : s.data.toList.length = s.size := rfl
    unfold Lib.replaceAll Lib.replace
    split
    · omega
    · refine Nat.le_trans (replaceK_len _ _ _ _) ?_
      have h2 : Lib.replaceNum s.data.toList [0] (-1) = Lib.countB s ⟨#[0]⟩ := by
        unfold Lib.replaceNum; rw [if_pos (Or.inl (by decide))]; try rfl
      rw [h2, hsl]
      show s.size + Lib.countB s ⟨#[0]⟩ * 2 ≤ 6000
      omega
  generalize (⟨(Lib.replaceAll s.data.toList [0] [0, 255]).toArray⟩ : ByteArray) = q at *
  have hp1 : ¬ 9223372036854775807 < 1 + q.size := by omega
  have hp2 : ¬ 9223372036854775807 < 1 + q.size + 2 := by omega
  go_wp2_with fail
  go_ret
  exact ⟨⟨_, rfl, fun h => by have := HG.out; rw [h] at this; cases this⟩, HB2.out.trans (hb2.mono HB2.out.size)⟩
end Go.Proofs.YtlhmencjhhpacaaDoor
