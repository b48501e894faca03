/- num.Fixed of 8 bytes. -/
import Derived.Test.YtlhmencjhhpacaaDoorVal
import Derived.Test.YtlhmencjhhpacaaDoorUp
import Derived.Laws.BytesArg
namespace Go.Proofs.YtlhmencjhhpacaaDoor
open Go.RowKit

set_option maxRecDepth 100000 in
theorem fixed8_any (n : Int) (w : World) :
    Calls Tryd.prog 15 #[.int .u64 n, .int .i64 8] w fun e w' => (∃ s : ByteArray, e = .returned (.string s) ∧ s.size = 8) ∧ Below w.heap.size w w' := by
  have hmk : ∀ w : World, (Instr.makeSlice 50 (.int .i64 8) (.int .i64 8)).run Tryd.prog w = .ok (.slice (some ⟨w.heap.size, 0, none⟩) 8 8) (w.alloc (.cells #[.int .u8 0, .int .u8 0, .int .u8 0, .int .u8 0, .int .u8 0, .int .u8 0, .int .u8 0, .int .u8 0] 5)) := fun _ => by kernel_rfl
  go_enter Tryd.func15, Tryd.ntmps15
  go_wp2_with fail
  have HB0 := Lib.hid (blk_new (w0 := w) (g := w.heap.size) (o := .cells #[.int .u8 0, .int .u8 0, .int .u8 0, .int .u8 0, .int .u8 0, .int .u8 0, .int .u8 0, .int .u8 0] 5) rfl)
  go_loopw [0, 6] (fun nv i wr => ∃ (m : Int) (k : Nat) (a0 a1 a2 a3 a4 a5 a6 a7 : Int), k ≤ 8 ∧ nv = .int .u64 m ∧ i = .int .i64 ((k : Int) - 1) ∧ wr.heap[w.heap.size]? = some (.cells #[.int .u8 a0, .int .u8 a1, .int .u8 a2, .int .u8 a3, .int .u8 a4, .int .u8 a5, .int .u8 a6, .int .u8 a7] 5) ∧ Below w.heap.size w wr) (fun _ i _ => (intOf i + 1).toNat)
  case atStart => exact ⟨n, 8, 0, 0, 0, 0, 0, 0, 0, 0, by omega, rfl, rfl, HB0.out, by go_grown⟩
  case round =>
    obtain ⟨m, k, a0, a1, a2, a3, a4, a5, a6, a7, hk, rfl, rfl, hb, hw⟩ := hrel
    have HB := Lib.hid hb
    have HW := Lib.hid hw
    have hl := blk_lt hb
    have hfz := blk_frozen hb
    rcases (show k = 0 ∨ k = 1 ∨ k = 2 ∨ k = 3 ∨ k = 4 ∨ k = 5 ∨ k = 6 ∨ k = 7 ∨ k = 8 by omega) with rfl | rfl | rfl | rfl | rfl | rfl | rfl | rfl | rfl
    · have hcv := run_convert_bytes_arg (P := Tryd.prog) wr 50 5 Tryd.underlying50 Tryd.underlying5 w.heap.size 0 8 8 [a0, a1, a2, a3, a4, a5, a6, a7] rfl (fun i hi => by
        rw [Nat.zero_add, blk_cell HB.out i]
        rcases (show i = 0 ∨ i = 1 ∨ i = 2 ∨ i = 3 ∨ i = 4 ∨ i = 5 ∨ i = 6 ∨ i = 7 by omega) with rfl | rfl | rfl | rfl | rfl | rfl | rfl | rfl <;> rfl) 9 Tryd.underlying9
      have hsz := Lib.hid (show (strOfNums [a0, a1, a2, a3, a4, a5, a6, a7]).size = 8 by rw [strOfNums_size]; rfl)
      clear hb hw hfz
      generalize strOfNums [a0, a1, a2, a3, a4, a5, a6, a7] = r at *
      go_wp2_with fail
      go_ret
      exact ⟨⟨r, rfl, hsz.out⟩, HW.out⟩
    · have f0 := hfz 0
      have c0 := blk_cell hb 0
      clear hb hw hfz
      go_wp2_with fail
      exact ⟨⟨_, 0, _, a1, a2, a3, a4, a5, a6, a7, by omega, rfl, by simp, blk_set HB.out 0 _, by have := HW.out; go_grown⟩, by simp [intOf]⟩
    · have f0 := hfz 1
      have c0 := blk_cell hb 1
      clear hb hw hfz
      go_wp2_with fail
      exact ⟨⟨_, 1, a0, _, a2, a3, a4, a5, a6, a7, by omega, rfl, by simp, blk_set HB.out 1 _, by have := HW.out; go_grown⟩, by simp [intOf]⟩
    · have f0 := hfz 2
      have c0 := blk_cell hb 2
      clear hb hw hfz
      go_wp2_with fail
      exact ⟨⟨_, 2, a0, a1, _, a3, a4, a5, a6, a7, by omega, rfl, by simp, blk_set HB.out 2 _, by have := HW.out; go_grown⟩, by simp [intOf]⟩
    · have f0 := hfz 3
      have c0 := blk_cell hb 3
      clear hb hw hfz
      go_wp2_with fail
      exact ⟨⟨_, 3, a0, a1, a2, _, a4, a5, a6, a7, by omega, rfl, by simp, blk_set HB.out 3 _, by have := HW.out; go_grown⟩, by simp [intOf]⟩
    · have f0 := hfz 4
      have c0 := blk_cell hb 4
      clear hb hw hfz
      go_wp2_with fail
      exact ⟨⟨_, 4, a0, a1, a2, a3, _, a5, a6, a7, by omega, rfl, by simp, blk_set HB.out 4 _, by have := HW.out; go_grown⟩, by simp [intOf]⟩
    · have f0 := hfz 5
      have c0 := blk_cell hb 5
      clear hb hw hfz
      go_wp2_with fail
      exact ⟨⟨_, 5, a0, a1, a2, a3, a4, _, a6, a7, by omega, rfl, by simp, blk_set HB.out 5 _, by have := HW.out; go_grown⟩, by simp [intOf]⟩
    · have f0 := hfz 6
      have c0 := blk_cell hb 6
      clear hb hw hfz
      go_wp2_with fail
      exact ⟨⟨_, 6, a0, a1, a2, a3, a4, a5, _, a7, by omega, rfl, by simp, blk_set HB.out 6 _, by have := HW.out; go_grown⟩, by simp [intOf]⟩
    · have f0 := hfz 7
      have c0 := blk_cell hb 7
      clear hb hw hfz
      go_wp2_with fail
      exact ⟨⟨_, 7, a0, a1, a2, a3, a4, a5, a6, _, by omega, rfl, by simp, blk_set HB.out 7 _, by have := HW.out; go_grown⟩, by simp [intOf]⟩
end Go.Proofs.YtlhmencjhhpacaaDoor
