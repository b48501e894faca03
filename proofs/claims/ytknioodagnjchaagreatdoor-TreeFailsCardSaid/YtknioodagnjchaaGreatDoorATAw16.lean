/- cahierlaw16.awake is true. -/
import Derived.Test.YtknioodagnjchaaGreatDoorALi
import Derived.Test.YtknioodagnjchaaGreatDoorATGood
import Derived.Test.YtknioodagnjchaaGreatDoorAPl
import Derived.Test.YtknioodagnjchaaGreatDoorATShelf4
namespace Go.Proofs.YtknioodagnjchaaGreatDoor
open Go.RowKit

/-- a head's fields -/
theorem head_f3 (a b c d e f : Int) (w : World) : (Instr.field 51 (.agg #[.int .i64 a, .int .i64 b, .int .i64 c, .int .i64 d, .int .i64 e, .int .u64 f]) 3).run Tryz.prog w = .ok (.int .i64 d) w := by kernel_rfl
theorem head_f1 (a b c d e f : Int) (w : World) : (Instr.field 51 (.agg #[.int .i64 a, .int .i64 b, .int .i64 c, .int .i64 d, .int .i64 e, .int .u64 f]) 1).run Tryz.prog w = .ok (.int .i64 b) w := by kernel_rfl
set_option maxRecDepth 100000 in
set_option maxHeartbeats 4000000 in
theorem awake16_any (w : World) : Calls Tryz.prog 14 #[] w fun e w' => e = .returned (.bool true) ∧ Below w.heap.size w w' := by
  go_enter Tryz.func14, Tryz.ntmps14
  go_wp2_with fail
  refine (sNewShelf_any 500 w).mono ?_
  rintro e w1 ⟨gs, gm, rfl, hs, h1, h2, hb⟩
  have HS1 := Lib.hid (show ShIs w1 gs gm aS0 from hs)
  have HB1 := Lib.hid hb
  have HG := Lib.hid (And.intro h1 h2)
  clear hs h1 h2 hb
  go_wp2_with fail
  refine (make_ok (gs := gs) (gm := gm) (s := aS0) (s' := aS1) (w := w1) ar1 HS1.out).mono ?_
  rintro e w2 ⟨rfl, hs, hc⟩
  have HS2 := Lib.hid hs
  have HB2 := Lib.hid (HB1.out.trans (hc.below HB1.out.size (fun k hk => hk.elim (fun e => e ▸ HG.out.1) (fun e => e ▸ HG.out.2))))
  clear hs hc
  go_wp2_with fail
  refine (put_ok (root := 1) (k := [98]) (v := [120]) (gs := gs) (gm := gm) (s := aS1) (s' := aS2) (w := w2) ar2 HS2.out).mono ?_
  rintro e w3 ⟨rfl, hs, hc⟩
  have HS3 := Lib.hid hs
  have HB3 := Lib.hid (HB2.out.trans (hc.below HB2.out.size (fun k hk => hk.elim (fun e => e ▸ HG.out.1) (fun e => e ▸ HG.out.2))))
  clear hs hc
  go_wp2_with fail
  refine (put_ok (root := 1) (k := [97]) (v := [121]) (gs := gs) (gm := gm) (s := aS2) (s' := aS3) (w := w3) ar3 HS3.out).mono ?_
  rintro e w4 ⟨rfl, hs, hc⟩
  have HS4 := Lib.hid hs
  have HB4 := Lib.hid (HB3.out.trans (hc.below HB3.out.size (fun k hk => hk.elim (fun e => e ▸ HG.out.1) (fun e => e ▸ HG.out.2))))
  clear hs hc
  go_wp2_with fail
  refine (put_ok (root := 1) (k := [98]) (v := [122]) (gs := gs) (gm := gm) (s := aS3) (s' := aS4) (w := w4) ar4 HS4.out).mono ?_
  rintro e w5 ⟨rfl, hs, hc⟩
  have HS5 := Lib.hid hs
  have HB5 := Lib.hid (HB4.out.trans (hc.below HB4.out.size (fun k hk => hk.elim (fun e => e ▸ HG.out.1) (fun e => e ▸ HG.out.2))))
  clear hs hc
  go_wp2_with fail
  refine (get_some (root := 1) (k := [98]) (v := [122]) (gs := gs) (gm := gm) (s := aS4) (s' := aS5) (w := w5) ar5 HS5.out).mono ?_
  rintro e w6 ⟨rfl, hs, hc⟩
  have HS6 := Lib.hid hs
  have HB6 := Lib.hid (HB5.out.trans (hc.below HB5.out.size (fun k hk => hk.elim (fun e => e ▸ HG.out.1) (fun e => e ▸ HG.out.2))))
  clear hs hc
  go_wp2_with fail
  refine (del_ok (root := 1) (k := [99]) (b := false) (gs := gs) (gm := gm) (s := aS5) (s' := aS6) (w := w6) ar6 HS6.out).mono ?_
  rintro e w7 ⟨rfl, hs, hc⟩
  have HS7 := Lib.hid hs
  have HB7 := Lib.hid (HB6.out.trans (hc.below HB6.out.size (fun k hk => hk.elim (fun e => e ▸ HG.out.1) (fun e => e ▸ HG.out.2))))
  clear hs hc
  go_wp2_with fail
  refine (list_ok (gs := gs) (gm := gm) (s := aS6) (s' := aS7) (w := w7) (root := 1) (l := [1]) ar7 HS7.out).mono ?_
  rintro e w8 ⟨⟨v, rfl, ho, -⟩, hs, hc⟩
  have HS8 := Lib.hid hs
  have HO8 := Lib.hid ho
  have HB8 := Lib.hid (HB7.out.trans (hc.below HB7.out.size (fun k hk => hk.elim (fun e => e ▸ HG.out.1) (fun e => e ▸ HG.out.2))))
  have HN := Lib.hid (show gs < w7.heap.size ∧ gm < w7.heap.size from ⟨blk_lt HS7.out.blk, HS7.out.book.lt⟩)
  obtain ⟨A, c, rfl⟩ := Sl.len' (ho.sl iC_len)
  clear ho hs hc
  have hmk : (Instr.makeSlice 46 (.int .i64 65) (.int .i64 65)).run Tryz.prog w8 = .ok (.slice (some ⟨w8.heap.size, 0, none⟩) 65 65) (w8.alloc (.cells ((List.replicate 65 (0 : UInt8)).flatMap uC).toArray 5)) := mk_bytes w8 65 (by omega)
  have HM0 := Lib.hid (blk_new (w0 := w8) (g := w8.heap.size) (o := .cells ((List.replicate 65 (0 : UInt8)).flatMap uC).toArray 5) rfl)
  have HW0 := Lib.hid (Below.alloc (Below.refl _ w8) (Nat.le_refl _) (.cells ((List.replicate 65 (0 : UInt8)).flatMap uC).toArray 5))
  generalize w8.alloc (.cells ((List.replicate 65 (0 : UInt8)).flatMap uC).toArray 5) = w9 at *
  have hcv : (convert 46 9 (.slice (some ⟨w8.heap.size, 0, none⟩) 65 65)).run Tryz.prog w9 = .ok (.string (mkS (List.replicate 65 0))) w9 := conv_back w9 w8.heap.size 65 65 (List.replicate 65 0) (by simp) (blk_bytes HM0.out)
  have HS9 := Lib.hid (HS8.out.ch (S := fun _ => False) (Ch.of_below HW0.out) id id)
  have HB9 := Lib.hid (HB8.out.trans (HW0.out.mono HB8.out.size))
  have HO9 := Lib.hid (HO8.out.below HW0.out)
  go_wp2_with fail
  refine (put_err (gs := gs) (gm := gm) (s := aS7) (s' := aS8) (w := w9) (root := 1) (k := List.replicate 65 0) (v := []) (x := 1) ar8 HS9.out).mono ?_
  rintro e w10 ⟨rfl, hs, hc⟩
  have HS10 := Lib.hid hs
  have HO10 := Lib.hid (HO9.out.ch hc (fun k hk e => by have := (HO8.out.lt k hk).1; have := HN.out.1; have := HN.out.2; omega))
  have HB10 := Lib.hid (HB9.out.trans (hc.below HB9.out.size (fun k hk => hk.elim (fun e => e ▸ HG.out.1) (fun e => e ▸ HG.out.2))))
  clear hs hc hmk hcv
  go_wp2_with fail
  refine (drop_ok (gs := gs) (gm := gm) (s := aS8) (s' := aS9) (w := w10) (root := 1) ar9 HS10.out).mono ?_
  rintro e w11 ⟨rfl, hs, hc⟩
  have HS11 := Lib.hid hs
  have HO11 := Lib.hid (HO10.out.ch hc (fun k hk e => by have := (HO8.out.lt k hk).1; have := HN.out.1; have := HN.out.2; omega))
  have HB11 := Lib.hid (HB10.out.trans (hc.below HB10.out.size (fun k hk => hk.elim (fun e => e ▸ HG.out.1) (fun e => e ▸ HG.out.2))))
  clear hs hc
  rcases (HO11.out.sl iC_len).cases with ⟨_, _, _, h0⟩ | ⟨b, off, c2, he, -, hbl, hsl⟩
  · cases h0
  injection he with he1 he2 he3
  subst he1 he3
  obtain ⟨-, hcl⟩ := hsl.cells (k := 0) (by simp)
  have e0 : w11.cell? ⟨b, off, none⟩ = some (.int .i64 1) := by simpa [iC] using hcl 0 _ rfl
  have hz : (mkS [122]).toList = [122] := mkS_toList _
  clear hcl hsl
  go_wp2_with fail
  refine (sHead_any gs gm aS9 w11 HS11.out).mono ?_
  rintro e w12 ⟨rfl, hb⟩
  rw [aw10]
  have hf3 := head_f3
  go_wp2_with fail
  go_ret
  exact ⟨rfl, HB11.out.trans (hb.mono HB11.out.size)⟩
end Go.Proofs.YtknioodagnjchaaGreatDoor
