/- cahierlaw18.awake answers true. -/
import Derived.Test.YtlhmencjhhpacaaRow
import Derived.Test.YtlhmencjhhpacaaFixed
namespace Go.Proofs.Ytlhmencjhhpacaa
open Go.RowKit

theorem blk_new {w0 : World} {o : Obj} {g : Nat} (h : g = w0.heap.size) : (w0.alloc o).heap[g]? = some o := by subst h; exact heap_alloc_new _ _
theorem blk_keep {w w' : World} {g : Nat} {o : Obj} (h : w.heap[g]? = some o) (hb : Below w.heap.size w w') : w'.heap[g]? = some o := by
  rw [hb.block g ?_]
  · exact h
  · rcases Nat.lt_or_ge g w.heap.size with hlt | hge
    · exact hlt
    · rw [Array.getElem?_eq_none hge] at h; cases h
theorem blk_set {w : World} {g : Nat} {cs : Array Value} {e : TypeId} (h : w.heap[g]? = some (.cells cs e (0, 0))) (i : Nat) (u : Value) : (w.setCell ⟨g, i, none⟩ u).heap[g]? = some (.cells (cs.setIfInBounds i u) e (0, 0)) := by
  simp [World.setCell, Array.getElem?_modify, h]
theorem blk_cell {w : World} {g : Nat} {cs : Array Value} {e : TypeId} (h : w.heap[g]? = some (.cells cs e (0, 0))) (i : Nat) : w.cell? ⟨g, i, none⟩ = cs[i]? := by
  simp [World.cell?, h]
theorem blk_frozen {w : World} {g : Nat} {cs : Array Value} {e : TypeId} (h : w.heap[g]? = some (.cells cs e (0, 0))) (i : Nat) : w.frozen? ⟨g, i, none⟩ = false := by
  simp [World.frozen?, h]

set_option maxRecDepth 100000 in
theorem key_t (w : World) : Calls Try.prog 41 #[.agg #[.int .u8 116, .string ⟨#[]⟩, .int .i64 1, .int .i64 0, .int .i64 0]] w fun e w' => e = .returned (.string ⟨#[116, 1]⟩) ∧ Below w.heap.size w w' := by
  have hcv : (convert 98 9 (.slice (some ⟨w.heap.size + 1, 0, none⟩) 2 2)).run Try.prog ((w.alloc (.cells #[.int .u8 116, .string ⟨#[]⟩, .int .i64 1, .int .i64 0, .int .i64 0] 33)).alloc (.cells #[.int .u8 116, .int .u8 1] 5)) = .ok (.string ⟨#[116, 1]⟩) ((w.alloc (.cells #[.int .u8 116, .string ⟨#[]⟩, .int .i64 1, .int .i64 0, .int .i64 0] 33)).alloc (.cells #[.int .u8 116, .int .u8 1] 5)) := run_convert_bytes_back (P := Try.prog) ((w.alloc (.cells #[.int .u8 116, .string ⟨#[]⟩, .int .i64 1, .int .i64 0, .int .i64 0] 33)).alloc (.cells #[.int .u8 116, .int .u8 1] 5))
    98 9 5 ⟨w.heap.size + 1, 0, none⟩ 2 [116, 1] Try.underlying98 Try.underlying5 Try.underlying9 (fun j hj => by
      rcases (by simp at hj; omega : j = 0 ∨ j = 1) with rfl | rfl <;> simp [Addr.add])
  go_enter Try.func41, Try.ntmps41
  go_wp2
  go_ret
  exact ⟨rfl, by go_grown⟩

def awV : List V := [⟨1, 1, ⟨#[]⟩⟩, ⟨1, 10, ⟨#[]⟩⟩, ⟨0, 0, ⟨#[]⟩⟩, ⟨2, 0, ⟨#[104, 105]⟩⟩]
def awV2 : List V := [⟨1, 1, ⟨#[]⟩⟩, ⟨1, 10, ⟨#[]⟩⟩, ⟨0, 0, ⟨#[]⟩⟩, ⟨3, 0, ⟨#[104, 105]⟩⟩]
def awV3 : List V := [⟨1, 1, ⟨#[]⟩⟩, ⟨1, 10, ⟨#[]⟩⟩, ⟨0, 0, ⟨#[]⟩⟩, ⟨0, 0, ⟨#[]⟩⟩]
theorem aw_small (l : List V) (h : l = awV ∨ l = awV2 ∨ l = awV3) : ∀ x ∈ l, x.s.size ≤ maxLen := by
  intro x hx
  rcases h with rfl | rfl | rfl <;> simp [awV, awV2, awV3] at hx <;> rcases hx with rfl | rfl | rfl | rfl <;> simp [maxLen, ByteArray.size]

set_option maxRecDepth 100000 in
set_option maxHeartbeats 1000000 in
theorem awake18_any (w : World) : Calls Try.prog 10 #[] w fun e w' => e = .returned (.bool true) ∧ Below w.heap.size w w' := by
  have r1 : rowE 2 awV = 0 := by decide +kernel
  have r2 : rowE 2 awV2 = 42 := by decide +kernel
  have r3 : rowE 2 awV3 = 43 := by decide +kernel
  have r4 : number ⟨#[112, 97, 114, 97, 115]⟩ = 2 := by decide +kernel
  have r5 : tname 3 = ⟨#[98, 108, 111, 98, 115]⟩ := by rfl
  have r6 : colNo 2 ⟨#[115, 116, 121, 108, 101]⟩ = 3 := by decide +kernel
  have r7 : (cols 1).length = 3 := by decide +kernel
  have r8 : indexE ⟨#[98, 121, 112, 108, 97, 99, 101]⟩ 2 2 = 0 := by decide +kernel
  have r9 : indexE ⟨#[120]⟩ 2 4 = 42 := by decide +kernel
  have r10 : fixedL.length = 5 := by rfl
  go_enter Try.func10, Try.ntmps10
  go_wp2_with fail
  refine (row_any 2 _ awV _ (Sl.new (w0 := w) rfl V.len rfl rfl) (by simp [awV]) (aw_small _ (.inl rfl))).mono ?_
  rw [r1]
  rintro e w1 ⟨rfl, hb1⟩
  have hB1 := blk_keep (blk_new (w0 := w) (g := w.heap.size) rfl) hb1
  have hc1 := blk_cell hB1
  have hf1 := blk_frozen hB1
  have HB1 := Lib.hid hB1
  have HW1 := Lib.hid (((Below.refl _ w).alloc (Nat.le_refl _) _).trans (hb1.mono (by simp)))
  clear hb1 hB1
  go_wp2_with fail
  have hB2 : (w1.setCell ⟨w.heap.size, 9, none⟩ (.int .i64 3)).heap[w.heap.size]? = some (.cells #[.int .i64 1, .int .i64 1, .string ⟨#[]⟩, .int .i64 1, .int .i64 10, .string ⟨#[]⟩, .int .i64 0, .int .i64 0, .string ⟨#[]⟩, .int .i64 3, .int .i64 0, .string ⟨#[104, 105]⟩] 44 (0, 0)) := blk_set HB1.out 9 (.int .i64 3)
  refine (row_any 2 _ awV2 _ (Sl.of_row hB2 V.len rfl rfl) (by simp [awV2]) (aw_small _ (.inr (.inl rfl)))).mono ?_
  rw [r2]
  rintro e w2 ⟨rfl, hb2⟩
  have hB2 := blk_keep hB2 hb2
  have hc2 := blk_cell hB2
  have hf2 := blk_frozen hB2
  have HB2 := Lib.hid hB2
  have HW2 := Lib.hid ((HW1.out.setCell (Nat.le_refl _) _).trans (hb2.mono (by have := HW1.out.size; simp; omega)))
  clear hb2 hB2 hc1 hf1 HB1
  go_wp2_with fail
  have hB3 := blk_set (blk_set (blk_set HB2.out 9 (.int .i64 0)) 10 (.int .i64 0)) 11 (.string ⟨#[]⟩)
  refine (row_any 2 _ awV3 _ (Sl.of_row hB3 V.len rfl rfl) (by simp [awV3]) (aw_small _ (.inr (.inr rfl)))).mono ?_
  rw [r3]
  rintro e w3 ⟨rfl, hb3⟩
  have HW3 := Lib.hid ((((HW2.out.setCell (Nat.le_refl _) _).setCell (Nat.le_refl _) _).setCell (Nat.le_refl _) _).trans (hb3.mono (by have := HW2.out.size; simp; omega)))
  clear hb3 hB3 hc2 hf2 HB2 HW2 HW1
  go_wp2_with fail
  refine (number_any _ _).mono ?_
  rw [r4]
  rintro e w4 ⟨rfl, rfl⟩
  go_wp2_with fail
  refine (name_any _ _).mono ?_
  rw [r5]
  rintro e w4 ⟨rfl, rfl⟩
  go_wp2_with fail
  refine (col_any _ _ _).mono ?_
  rw [r6]
  rintro e w4 ⟨rfl, hb4⟩
  have HW4 := Lib.hid (HW3.out.trans (hb4.mono HW3.out.size))
  clear hb4 HW3
  go_wp2_with fail
  refine (cols_any _ _).mono ?_
  rintro e w5 ⟨v5, rfl, hsl5, -, hb5⟩
  obtain ⟨A5, c5, rfl⟩ := Sl.len' hsl5
  rw [r7]
  have HW5 := Lib.hid (HW4.out.trans (hb5.mono HW4.out.size))
  clear hb5 HW4 hsl5
  go_wp2_with fail
  refine (index_any _ _ _ _ (by simp [maxLen, ByteArray.size])).mono ?_
  rw [r8]
  rintro e w6 ⟨rfl, hb6⟩
  have HW6 := Lib.hid (HW5.out.trans (hb6.mono HW5.out.size))
  clear hb6 HW5
  go_wp2_with fail
  refine (index_any _ _ _ _ (by simp [maxLen, ByteArray.size])).mono ?_
  rw [r9]
  rintro e w7 ⟨rfl, hb7⟩
  have HW7 := Lib.hid (HW6.out.trans (hb7.mono HW6.out.size))
  clear hb7 HW6
  go_wp2_with fail
  refine (key_t _).mono ?_
  rintro e w8 ⟨rfl, hb8⟩
  have HW8 := Lib.hid (HW7.out.trans (hb8.mono HW7.out.size))
  clear hb8 HW7
  go_wp2_with fail
  refine (fixed_any _).mono ?_
  rintro e w9 ⟨v9, rfl, hsl9, hb9⟩
  obtain ⟨A9, c9, rfl⟩ := Sl.len' hsl9
  rw [r10]
  have HW9 := Lib.hid (HW8.out.trans (hb9.mono HW8.out.size))
  clear hb9 HW8 hsl9
  go_wp2_with fail
  go_ret
  exact ⟨rfl, HW9.out⟩
end Go.Proofs.Ytlhmencjhhpacaa
