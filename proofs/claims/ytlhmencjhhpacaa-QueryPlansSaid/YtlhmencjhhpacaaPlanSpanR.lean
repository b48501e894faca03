/- cahierref20.span: the bounds that conditions give a column. -/
import Derived.Test.YtlhmencjhhpacaaPlanSpan
namespace Go.Proofs.Ytlhmencjhhpacaa
open Go.RowKit

set_option maxRecDepth 100000 in
set_option maxHeartbeats 2000000 in
theorem spanR_any (t : Int) (cv lv : Value) (conds : List Cnd) (ord : Int) (down : Bool) (lim col : Int) (w : World) (hcv : Sl Cnd.cells 5 w cv conds) (hz : ∀ x ∈ conds, Zok x.v) (hl : conds.length ≤ 1000000) :
    Calls Try.prog 61 #[.agg #[.int .i64 t, cv, lv, .int .i64 ord, .bool down, .int .i64 lim], .int .i64 col] w fun e w' => e = .returned (.tuple #[(spanV conds col (vZero, vZero)).1.agg, (spanV conds col (vZero, vZero)).2.agg]) ∧ Below w.heap.size w w' := by
  obtain ⟨Ac, cc, rfl⟩ := Sl.len' hcv
  have HCV := Lib.hid hcv
  have HCV0 := Lib.hid hcv
  have HZ := Lib.hid hz
  clear hcv hz
  go_enter Try.func61, Try.ntmps61
  go_wp2_with fail
  go_loopw [8] (fun i wr => ∃ (k : Nat) (lo hi : V), k ≤ conds.length ∧ i = .int .i64 k ∧ Below w.heap.size w wr ∧ spanV (conds.drop k) col (lo, hi) = spanV conds col (vZero, vZero) ∧ Zok lo ∧ Zok hi ∧ Sl Cnd.cells 5 wr (.slice Ac conds.length cc) conds ∧
    wr.heap[w.heap.size]? = some (.cells #[.int .i64 t, .slice Ac conds.length cc, lv, .int .i64 ord, .bool down, .int .i64 lim] 50 (0, 0)) ∧
    wr.heap[w.heap.size + 1]? = some (.cells #[.int .i64 0, .int .i64 0, .string ⟨#[]⟩] 44 (0, 0)) ∧
    wr.heap[w.heap.size + 1 + 1]? = some (.cells #[.int .i64 0, .int .i64 0, .string ⟨#[]⟩] 44 (0, 0)) ∧
    wr.heap[w.heap.size + 1 + 1 + 1]? = some (.cells #[.int .i64 lo.k, .int .i64 lo.n, .string lo.s] 44 (0, 0)) ∧
    wr.heap[w.heap.size + 1 + 1 + 1 + 1]? = some (.cells #[.int .i64 hi.k, .int .i64 hi.n, .string hi.s] 44 (0, 0))) (fun i _ => conds.length - (intOf i).toNat)
  case atStart => exact ⟨0, vZero, vZero, Nat.zero_le _, rfl, (((((Below.refl _ w).alloc (Nat.le_refl _) _).alloc (by simp) _).alloc (by simp; omega) _).alloc (by simp; omega) _).alloc (by simp; omega) _, rfl, zok_zero, zok_zero, ((((HCV.out.alloc _).alloc _).alloc _).alloc _).alloc _,
    blk_alloc (blk_alloc (blk_alloc (blk_alloc (blk_new rfl) _) _) _) _, blk_alloc (blk_alloc (blk_alloc (blk_new (by simp)) _) _) _, blk_alloc (blk_alloc (blk_new (by simp)) _) _, blk_alloc (blk_new (by simp)) _, blk_new (by simp)⟩
  case round =>
    obtain ⟨k, lo, hi, hk, rfl, hb, he, hzl, hzh, hcv, hQ, hA, hB, hL, hH⟩ := hrel
    obtain ⟨lok, lon, los⟩ := lo
    obtain ⟨hik, hin, his⟩ := hi
    simp only at hL hH
    have HW := Lib.hid hb
    have HE := Lib.hid he
    have Zlo := Lib.hid hzl
    have Zhi := Lib.hid hzh
    clear HCV
    have HCV := Lib.hid hcv
    have HQ := Lib.hid hQ
    have HA := Lib.hid hA
    have HB := Lib.hid hB
    have HL := Lib.hid hL
    have HH := Lib.hid hH
    have hgq := blk_lt hQ
    have hgh := blk_lt hH
    have hgl := blk_lt hL
    have hga := blk_lt hA
    have hgb := blk_lt hB
    have hcq := blk_cell hQ
    have hcl := blk_cell hL
    have hch := blk_cell hH
    have hfl := blk_frozen hL
    have hfh := blk_frozen hH
    have hca := blk_cell hA
    have hcb := blk_cell hB
    have hfa := blk_frozen hA
    have hfb := blk_frozen hB
    clear hb he hcv hL hH hzl hzh hQ hA hB
    have l0 : wr.cell? ⟨w.heap.size + 1 + 1 + 1, 0, none⟩ = some (.int .i64 lok) := hcl 0
    have l1 : wr.cell? ⟨w.heap.size + 1 + 1 + 1, 1, none⟩ = some (.int .i64 lon) := hcl 1
    have l2 : wr.cell? ⟨w.heap.size + 1 + 1 + 1, 2, none⟩ = some (.string los) := hcl 2
    have h0 : wr.cell? ⟨w.heap.size + 1 + 1 + 1 + 1, 0, none⟩ = some (.int .i64 hik) := hch 0
    have h1 : wr.cell? ⟨w.heap.size + 1 + 1 + 1 + 1, 1, none⟩ = some (.int .i64 hin) := hch 1
    have h2 : wr.cell? ⟨w.heap.size + 1 + 1 + 1 + 1, 2, none⟩ = some (.string his) := hch 2
    by_cases hkl : k < conds.length
    rotate_left
    · have hr := Lib.hid ((congrArg (spanV · col (⟨lok, lon, los⟩, ⟨hik, hin, his⟩)) (drop_end hkl)).symm.trans HE.out)
      have hbb := HW.out
      have a0 : wr.cell? ⟨w.heap.size + 1, 0, none⟩ = some (.int .i64 0) := hca 0
      have a1 : wr.cell? ⟨w.heap.size + 1, 1, none⟩ = some (.int .i64 0) := hca 1
      have a2 : wr.cell? ⟨w.heap.size + 1, 2, none⟩ = some (.string ⟨#[]⟩) := hca 2
      have b0 : wr.cell? ⟨w.heap.size + 1 + 1, 0, none⟩ = some (.int .i64 0) := hcb 0
      have b1 : wr.cell? ⟨w.heap.size + 1 + 1, 1, none⟩ = some (.int .i64 0) := hcb 1
      have b2 : wr.cell? ⟨w.heap.size + 1 + 1, 2, none⟩ = some (.string ⟨#[]⟩) := hcb 2
      go_wp2_with fail
      clear hk hkl HE HCV HZ
      go_region
      all_goals go_wp2_with fail
      all_goals exact bodyPost_ret (v := .tuple #[.agg #[.int .i64 lok, .int .i64 lon, .string los], .agg #[.int .i64 hik, .int .i64 hin, .string his]]) (by simp [results, Try.results61, go_sem, a0, a1, a2, b0, b1, b2]) rfl ⟨ret_vv hr.out, by go_grown⟩
    clear hca hcb hfa hfb hcl hch
    rcases HCV.out.cases with ⟨A, c, he, rfl⟩ | ⟨b, off, c, he, -, hbl, hcv'⟩
    · simp at hkl
    injection he with he1 he2 he3
    subst he1 he3
    obtain ⟨-, hcells⟩ := hcv'.cells hkl
    obtain ⟨e1, e2, e3, e4, e5⟩ := Cnd.row hcells
    have HE2 := Lib.hid ((congrArg (spanV · col (⟨lok, lon, los⟩, ⟨hik, hin, his⟩)) (drop_at hkl)).symm.trans HE.out)
    have ZX := Lib.hid (HZ.out _ (List.getElem_mem hkl))
    clear hcells hcv'
    generalize hx : conds[k] = x at *
    clear hx
    obtain ⟨xc, xo, ⟨xk, xn, xs⟩⟩ := x
    simp only at e1 e2 e3 e4 e5
    by_cases hcc : xc = col
    rotate_left
    · have HN := Lib.hid (span_off (c := ⟨xc, xo, ⟨xk, xn, xs⟩⟩) hcc HE2.out)
      go_wp2_with fail
      go_roundw
      case rel => exact ⟨k + 1, _, _, by omega, by go_num, HW.out.alloc HW.out.size _, HN.out, Zlo.out, Zhi.out, HCV.out.alloc _, blk_alloc HQ.out _, blk_alloc HA.out _, blk_alloc HB.out _, blk_alloc HL.out _, blk_alloc HH.out _⟩
      case measure => simp [intOf]; omega
    subst hcc
    by_cases hxk : xk = 0
    · have HN := Lib.hid (span_null (c := ⟨xc, xo, ⟨xk, xn, xs⟩⟩) Zlo.out Zhi.out hxk ZX.out HE2.out)
      go_wp2_with fail
      go_roundw
      case rel => exact ⟨k + 1, _, _, by omega, by go_num, HW.out.alloc HW.out.size _, HN.out, Zlo.out, Zhi.out, HCV.out.alloc _, blk_alloc HQ.out _, blk_alloc HA.out _, blk_alloc HB.out _, blk_alloc HL.out _, blk_alloc HH.out _⟩
      case measure => simp [intOf]; omega
    by_cases h5 : xo = 5 ∨ xo = 6
    · rcases h5 with rfl | rfl
      · by_cases d0 : lok = 0
        · have HN := Lib.hid (span_low (y := ⟨xk, xn, xs⟩) (by first | rfl | assumption) (by simp) (by unfold orK; rw [if_pos d0]) HE2.out)
          go_wp2_with fail
          go_roundw
          case rel => exact ⟨k + 1, ⟨xk, xn, xs⟩, _, by omega, by go_num, (((HW.out.setCell (by dsimp only; omega) _).setCell (by dsimp only; omega) _).setCell (by dsimp only; omega) _).alloc (by have := HW.out.size; simp; omega) _, HN.out, ZX.out, Zhi.out, HCV0.out.keep ((((HW.out.setCell (by dsimp only; omega) _).setCell (by dsimp only; omega) _).setCell (by dsimp only; omega) _).alloc (by have := HW.out.size; simp; omega) _), blk_alloc (blk_far (blk_far (blk_far HQ.out (by omega) _ _) (by omega) _ _) (by omega) _ _) _, blk_alloc (blk_far (blk_far (blk_far HA.out (by omega) _ _) (by omega) _ _) (by omega) _ _) _, blk_alloc (blk_far (blk_far (blk_far HB.out (by omega) _ _) (by omega) _ _) (by omega) _ _) _, blk_alloc (blk_set (blk_set (blk_set HL.out 0 _) 1 _) 2 _) _, blk_alloc (blk_far (blk_far (blk_far HH.out (by omega) _ _) (by omega) _ _) (by omega) _ _) _⟩
          case measure => simp [intOf]; omega
        · have HN := Lib.hid (span_low (y := ⟨lok, lon, los⟩) (by first | rfl | assumption) (by simp) (by unfold orK; rw [if_neg d0]) HE2.out)
          go_wp2_with fail
          go_roundw
          case rel => exact ⟨k + 1, _, _, by omega, by go_num, HW.out.alloc HW.out.size _, HN.out, Zlo.out, Zhi.out, HCV.out.alloc _, blk_alloc HQ.out _, blk_alloc HA.out _, blk_alloc HB.out _, blk_alloc HL.out _, blk_alloc HH.out _⟩
          case measure => simp [intOf]; omega
      · by_cases d0 : lok = 0
        · have HN := Lib.hid (span_low (y := ⟨xk, xn, xs⟩) (by first | rfl | assumption) (by simp) (by unfold orK; rw [if_pos d0]) HE2.out)
          go_wp2_with fail
          go_roundw
          case rel => exact ⟨k + 1, ⟨xk, xn, xs⟩, _, by omega, by go_num, (((HW.out.setCell (by dsimp only; omega) _).setCell (by dsimp only; omega) _).setCell (by dsimp only; omega) _).alloc (by have := HW.out.size; simp; omega) _, HN.out, ZX.out, Zhi.out, HCV0.out.keep ((((HW.out.setCell (by dsimp only; omega) _).setCell (by dsimp only; omega) _).setCell (by dsimp only; omega) _).alloc (by have := HW.out.size; simp; omega) _), blk_alloc (blk_far (blk_far (blk_far HQ.out (by omega) _ _) (by omega) _ _) (by omega) _ _) _, blk_alloc (blk_far (blk_far (blk_far HA.out (by omega) _ _) (by omega) _ _) (by omega) _ _) _, blk_alloc (blk_far (blk_far (blk_far HB.out (by omega) _ _) (by omega) _ _) (by omega) _ _) _, blk_alloc (blk_set (blk_set (blk_set HL.out 0 _) 1 _) 2 _) _, blk_alloc (blk_far (blk_far (blk_far HH.out (by omega) _ _) (by omega) _ _) (by omega) _ _) _⟩
          case measure => simp [intOf]; omega
        · have HN := Lib.hid (span_low (y := ⟨lok, lon, los⟩) (by first | rfl | assumption) (by simp) (by unfold orK; rw [if_neg d0]) HE2.out)
          go_wp2_with fail
          go_roundw
          case rel => exact ⟨k + 1, _, _, by omega, by go_num, HW.out.alloc HW.out.size _, HN.out, Zlo.out, Zhi.out, HCV.out.alloc _, blk_alloc HQ.out _, blk_alloc HA.out _, blk_alloc HB.out _, blk_alloc HL.out _, blk_alloc HH.out _⟩
          case measure => simp [intOf]; omega
    by_cases h3 : xo = 3 ∨ xo = 4
    · rcases h3 with rfl | rfl
      · by_cases d0 : hik = 0
        · have HN := Lib.hid (span_high (y := ⟨xk, xn, xs⟩) (by first | rfl | assumption) (by simp) (by unfold orK; rw [if_pos d0]) HE2.out)
          go_wp2_with fail
          go_roundw
          case rel => exact ⟨k + 1, _, ⟨xk, xn, xs⟩, by omega, by go_num, (((HW.out.setCell (by dsimp only; omega) _).setCell (by dsimp only; omega) _).setCell (by dsimp only; omega) _).alloc (by have := HW.out.size; simp; omega) _, HN.out, Zlo.out, ZX.out, HCV0.out.keep ((((HW.out.setCell (by dsimp only; omega) _).setCell (by dsimp only; omega) _).setCell (by dsimp only; omega) _).alloc (by have := HW.out.size; simp; omega) _), blk_alloc (blk_far (blk_far (blk_far HQ.out (by omega) _ _) (by omega) _ _) (by omega) _ _) _, blk_alloc (blk_far (blk_far (blk_far HA.out (by omega) _ _) (by omega) _ _) (by omega) _ _) _, blk_alloc (blk_far (blk_far (blk_far HB.out (by omega) _ _) (by omega) _ _) (by omega) _ _) _, blk_alloc (blk_far (blk_far (blk_far HL.out (by omega) _ _) (by omega) _ _) (by omega) _ _) _, blk_alloc (blk_set (blk_set (blk_set HH.out 0 _) 1 _) 2 _) _⟩
          case measure => simp [intOf]; omega
        · have HN := Lib.hid (span_high (y := ⟨hik, hin, his⟩) (by first | rfl | assumption) (by simp) (by unfold orK; rw [if_neg d0]) HE2.out)
          go_wp2_with fail
          go_roundw
          case rel => exact ⟨k + 1, _, _, by omega, by go_num, HW.out.alloc HW.out.size _, HN.out, Zlo.out, Zhi.out, HCV.out.alloc _, blk_alloc HQ.out _, blk_alloc HA.out _, blk_alloc HB.out _, blk_alloc HL.out _, blk_alloc HH.out _⟩
          case measure => simp [intOf]; omega
      · by_cases d0 : hik = 0
        · have HN := Lib.hid (span_high (y := ⟨xk, xn, xs⟩) (by first | rfl | assumption) (by simp) (by unfold orK; rw [if_pos d0]) HE2.out)
          go_wp2_with fail
          go_roundw
          case rel => exact ⟨k + 1, _, ⟨xk, xn, xs⟩, by omega, by go_num, (((HW.out.setCell (by dsimp only; omega) _).setCell (by dsimp only; omega) _).setCell (by dsimp only; omega) _).alloc (by have := HW.out.size; simp; omega) _, HN.out, Zlo.out, ZX.out, HCV0.out.keep ((((HW.out.setCell (by dsimp only; omega) _).setCell (by dsimp only; omega) _).setCell (by dsimp only; omega) _).alloc (by have := HW.out.size; simp; omega) _), blk_alloc (blk_far (blk_far (blk_far HQ.out (by omega) _ _) (by omega) _ _) (by omega) _ _) _, blk_alloc (blk_far (blk_far (blk_far HA.out (by omega) _ _) (by omega) _ _) (by omega) _ _) _, blk_alloc (blk_far (blk_far (blk_far HB.out (by omega) _ _) (by omega) _ _) (by omega) _ _) _, blk_alloc (blk_far (blk_far (blk_far HL.out (by omega) _ _) (by omega) _ _) (by omega) _ _) _, blk_alloc (blk_set (blk_set (blk_set HH.out 0 _) 1 _) 2 _) _⟩
          case measure => simp [intOf]; omega
        · have HN := Lib.hid (span_high (y := ⟨hik, hin, his⟩) (by first | rfl | assumption) (by simp) (by unfold orK; rw [if_neg d0]) HE2.out)
          go_wp2_with fail
          go_roundw
          case rel => exact ⟨k + 1, _, _, by omega, by go_num, HW.out.alloc HW.out.size _, HN.out, Zlo.out, Zhi.out, HCV.out.alloc _, blk_alloc HQ.out _, blk_alloc HA.out _, blk_alloc HB.out _, blk_alloc HL.out _, blk_alloc HH.out _⟩
          case measure => simp [intOf]; omega
    · have HN := Lib.hid (span_not (c := ⟨xc, xo, ⟨xk, xn, xs⟩⟩) h5 h3 HE2.out)
      have d3 : ¬ xo = 3 := fun h => h3 (.inl h)
      have d4 : ¬ xo = 4 := fun h => h3 (.inr h)
      have d5 : ¬ xo = 5 := fun h => h5 (.inl h)
      have d6 : ¬ xo = 6 := fun h => h5 (.inr h)
      go_wp2_with fail
      go_roundw
      case rel => exact ⟨k + 1, _, _, by omega, by go_num, HW.out.alloc HW.out.size _, HN.out, Zlo.out, Zhi.out, HCV.out.alloc _, blk_alloc HQ.out _, blk_alloc HA.out _, blk_alloc HB.out _, blk_alloc HL.out _, blk_alloc HH.out _⟩
      case measure => simp [intOf]; omega
end Go.Proofs.Ytlhmencjhhpacaa
