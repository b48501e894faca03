/- query.span and cahierref20.span: the bounds that conditions give a column. -/
import Derived.Test.YtlhmencjhhpacaaDoorPlanOr
namespace Go.Proofs.YtlhmencjhhpacaaDoor
open Go.RowKit

def Zok (x : V) : Prop := x.k = 0 → x = vZero
theorem zok_zero : Zok vZero := fun _ => rfl
def orK (lo x : V) : V := if lo.k = 0 then x else lo
def spanS (col : Int) (c : Cnd) (p : V × V) : V × V :=
  if c.col = col then (if c.op = 5 ∨ c.op = 6 then (orK p.1 c.v, p.2) else if c.op = 3 ∨ c.op = 4 then (p.1, orK p.2 c.v) else p) else p
def spanV : List Cnd → Int → V × V → V × V
  | [], _, p => p
  | c :: cs, col, p => spanV cs col (spanS col c p)
theorem zok_orK {lo x : V} (h1 : Zok lo) (h2 : Zok x) : Zok (orK lo x) := by unfold orK; split <;> assumption
theorem zok_isZ {x : V} (h : Zok x) : x.isZ = decide (x.k = 0) := by
  unfold V.isZ
  by_cases h0 : x.k = 0
  · rw [h h0]; decide +kernel
  · rw [decide_eq_false h0, decide_eq_false (fun h => h0 h.1)]
theorem orV_two {lo x : V} (h1 : Zok lo) (h2 : Zok x) : orV [lo, x] = orK lo x := by
  show (if lo.isZ = true then (if x.isZ = true then vZero else x) else lo) = _
  unfold orK
  rw [zok_isZ h1, zok_isZ h2]
  by_cases h0 : lo.k = 0
  · by_cases h3 : x.k = 0
    · simp [h0, h2 h3]
    · simp [h0, h3]
  · simp [h0]
theorem span_off {col : Int} {c : Cnd} {cs : List Cnd} {p z : V × V} (hc : ¬ c.col = col) (h : spanV (c :: cs) col p = z) : spanV cs col p = z := by
  rw [← h]; show _ = spanV cs col (spanS col c p); unfold spanS; rw [if_neg hc]
theorem span_low {col : Int} {c : Cnd} {cs : List Cnd} {lo hi y : V} {z : V × V} (hc : c.col = col) (ho : c.op = 5 ∨ c.op = 6) (hy : y = orK lo c.v) (h : spanV (c :: cs) col (lo, hi) = z) : spanV cs col (y, hi) = z := by
  rw [← h]; show _ = spanV cs col (spanS col c _); unfold spanS; rw [if_pos hc, if_pos ho, hy]
theorem span_high {col : Int} {c : Cnd} {cs : List Cnd} {lo hi y : V} {z : V × V} (hc : c.col = col) (ho : c.op = 3 ∨ c.op = 4) (hy : y = orK hi c.v) (h : spanV (c :: cs) col (lo, hi) = z) : spanV cs col (lo, y) = z := by
  rw [← h]; show _ = spanV cs col (spanS col c _); unfold spanS; rw [if_pos hc, if_neg (by omega), if_pos ho, hy]
theorem span_not {col : Int} {c : Cnd} {cs : List Cnd} {p z : V × V} (ho : ¬ (c.op = 5 ∨ c.op = 6)) (ho2 : ¬ (c.op = 3 ∨ c.op = 4)) (h : spanV (c :: cs) col p = z) : spanV cs col p = z := by
  rw [← h]; show _ = spanV cs col (spanS col c p); unfold spanS; rw [if_neg ho, if_neg ho2]; split <;> rfl
theorem span_null {col : Int} {c : Cnd} {cs : List Cnd} {lo hi : V} {z : V × V} (h1 : Zok lo) (h2 : Zok hi) (h0 : c.v.k = 0) (hz : Zok c.v) (h : spanV (c :: cs) col (lo, hi) = z) : spanV cs col (lo, hi) = z := by
  have e1 : orK lo c.v = lo := by unfold orK; split; · rw [hz h0, h1 ‹_›]
                                  rfl
  have e2 : orK hi c.v = hi := by unfold orK; split; · rw [hz h0, h2 ‹_›]
                                  rfl
  rw [← h]; show _ = spanV cs col (spanS col c _); unfold spanS; simp only [e1, e2]; split <;> (try split) <;> (try split) <;> rfl
theorem ret_vv {k n k2 n2 : Int} {s s2 : ByteArray} {x : V × V} (h : ((⟨k, n, s⟩, ⟨k2, n2, s2⟩) : V × V) = x) : Ending.returned (.tuple #[.agg #[.int .i64 k, .int .i64 n, .string s], .agg #[.int .i64 k2, .int .i64 n2, .string s2]]) = .returned (.tuple #[x.1.agg, x.2.agg]) := by subst h; rfl

theorem blk_far {w : World} {g h : Nat} {o : Obj} (hb : w.heap[g]? = some o) (hne : h ≠ g) (i : Nat) (u : Value) : (w.setCell ⟨h, i, none⟩ u).heap[g]? = some o := by
  simp [World.setCell, Array.getElem?_modify, hb, hne]

set_option maxRecDepth 100000 in
set_option maxHeartbeats 2000000 in
theorem span_any (t : Int) (cv lv : Value) (conds : List Cnd) (ord : Int) (down : Bool) (lim col : Int) (w : World) (hcv : Sl Cnd.cells 5 w cv conds) (hz : ∀ x ∈ conds, Zok x.v) (hl : conds.length ≤ 1000000) :
    Calls Tryd.prog 23 #[.agg #[.int .i64 t, cv, lv, .int .i64 ord, .bool down, .int .i64 lim], .int .i64 col] w fun e w' => e = .returned (.tuple #[(spanV conds col (vZero, vZero)).1.agg, (spanV conds col (vZero, vZero)).2.agg]) ∧ Below w.heap.size w w' := by
  obtain ⟨Ac, cc, rfl⟩ := Sl.len' hcv
  have HCV := Lib.hid hcv
  have HCV0 := Lib.hid hcv
  have HZ := Lib.hid hz
  clear hcv hz
  go_enter Tryd.func23, Tryd.ntmps23
  go_wp2_with fail
  go_loopw [11] (fun i wr => ∃ (k : Nat) (lo hi : V), k ≤ conds.length ∧ i = .int .i64 k ∧ Below w.heap.size w wr ∧ spanV (conds.drop k) col (lo, hi) = spanV conds col (vZero, vZero) ∧ Zok lo ∧ Zok hi ∧ Sl Cnd.cells 5 wr (.slice Ac conds.length cc) conds ∧
    wr.heap[w.heap.size + 1]? = some (.cells #[.int .i64 lo.k, .int .i64 lo.n, .string lo.s] 25 (0, 0)) ∧
    wr.heap[w.heap.size + 2]? = some (.cells #[.int .i64 hi.k, .int .i64 hi.n, .string hi.s] 25 (0, 0))) (fun i _ => conds.length - (intOf i).toNat)
  case atStart => exact ⟨0, vZero, vZero, Nat.zero_le _, rfl, (((Below.refl _ w).alloc (Nat.le_refl _) _).alloc (by simp) _).alloc (by simp; omega) _, rfl, zok_zero, zok_zero, ((HCV.out.alloc _).alloc _).alloc _, blk_alloc (blk_new (by simp)) _, blk_new (by simp)⟩
  case round =>
    obtain ⟨k, lo, hi, hk, rfl, hb, he, hzl, hzh, hcv, hL, hH⟩ := hrel
    obtain ⟨lok, lon, los⟩ := lo
    obtain ⟨hik, hin, his⟩ := hi
    simp only at hL hH
    have HW := Lib.hid hb
    have HE := Lib.hid he
    have Zlo := Lib.hid hzl
    have Zhi := Lib.hid hzh
    clear HCV
    have HCV := Lib.hid hcv
    have HL := Lib.hid hL
    have HH := Lib.hid hH
    have hgl := blk_lt hL
    have hgh := blk_lt hH
    have hcl := blk_cell hL
    have hch := blk_cell hH
    have hfl := blk_frozen hL
    have hfh := blk_frozen hH
    clear hb he hcv hL hH hzl hzh
    by_cases hkl : k < conds.length
    rotate_left
    · have hr := Lib.hid ((congrArg (spanV · col (⟨lok, lon, los⟩, ⟨hik, hin, his⟩)) (drop_end hkl)).symm.trans HE.out)
      have hbb := HW.out
      have l0 : wr.cell? ⟨w.heap.size + 1, 0, none⟩ = some (.int .i64 lok) := hcl 0
      have l1 : wr.cell? ⟨w.heap.size + 1, 1, none⟩ = some (.int .i64 lon) := hcl 1
      have l2 : wr.cell? ⟨w.heap.size + 1, 2, none⟩ = some (.string los) := hcl 2
      have h0 : wr.cell? ⟨w.heap.size + 2, 0, none⟩ = some (.int .i64 hik) := hch 0
      have h1 : wr.cell? ⟨w.heap.size + 2, 1, none⟩ = some (.int .i64 hin) := hch 1
      have h2 : wr.cell? ⟨w.heap.size + 2, 2, none⟩ = some (.string his) := hch 2
      go_wp2_with fail
      clear hk hkl HE HCV HZ
      go_region
      all_goals go_wp2_with fail
      all_goals exact bodyPost_ret (v := .tuple #[.agg #[.int .i64 lok, .int .i64 lon, .string los], .agg #[.int .i64 hik, .int .i64 hin, .string his]]) (by simp [results, Tryd.results23, go_sem, l0, l1, l2, h0, h1, h2]) rfl ⟨ret_vv hr.out, by go_grown⟩
    rcases HCV.out.cases with ⟨A, c, he, rfl⟩ | ⟨b, off, c, he, -, hbl, hcv'⟩
    · simp at hkl
    injection he with he1 he2 he3
    subst he1 he3
    obtain ⟨-, hcells⟩ := hcv'.cells hkl
    obtain ⟨e1, e2, e3, e4, e5⟩ := Cnd.row hcells
    have HE2 := Lib.hid ((congrArg (spanV · col (⟨lok, lon, los⟩, ⟨hik, hin, his⟩)) (drop_at hkl)).symm.trans HE.out)
    have ZX := Lib.hid (HZ.out _ (List.getElem_mem hkl))
    clear hcells hcv'
    generalize hx : conds[k] = x at *
    clear hx
    obtain ⟨xc, xo, ⟨xk, xn, xs⟩⟩ := x
    simp only at e1 e2 e3 e4 e5
    by_cases h1 : xc = col
    rotate_left
    · have HN := Lib.hid (span_off (c := ⟨xc, xo, ⟨xk, xn, xs⟩⟩) h1 HE2.out)
      go_wp2_with fail
      go_roundw
      case rel => exact ⟨k + 1, _, _, by omega, by go_num, HW.out.alloc HW.out.size _, HN.out, Zlo.out, Zhi.out, HCV.out.alloc _, blk_alloc HL.out _, blk_alloc HH.out _⟩
      case measure => simp [intOf]; omega
    subst h1
    by_cases h5 : xo = 5 ∨ xo = 6
    · rcases h5 with rfl | rfl
      ·
        go_wp2_with fail
        refine (orVal_any _ [⟨lok, lon, los⟩, ⟨xk, xn, xs⟩] _ (Sl.new (by simp) V.len (by rfl) (by rfl)) (by simp)).mono ?_
        rintro e w2 ⟨rfl, hb2⟩
        rw [orV_two Zlo.out ZX.out]
        have HN := Lib.hid (span_low (by first | rfl | assumption) (by simp) rfl HE2.out)
        have ZN := Lib.hid (zok_orK Zlo.out ZX.out)
        have hba := (HW.out.alloc HW.out.size (.cells #[.int .i64 xc, .int .i64 5, .int .i64 xk, .int .i64 xn, .string xs] 27)).alloc (by have := HW.out.size; simp; omega) (.cells #[.int .i64 lok, .int .i64 lon, .string los, .int .i64 xk, .int .i64 xn, .string xs] 25)
        have HB2 := Lib.hid (hba.trans (hb2.mono hba.size))
        have HCV2 := Lib.hid (((HCV.out.alloc _).alloc _).keep hb2)
        have HL2 := Lib.hid (blk_keep (blk_alloc (blk_alloc HL.out _) _) hb2)
        have HH2 := Lib.hid (blk_keep (blk_alloc (blk_alloc HH.out _) _) hb2)
        generalize orK (⟨lok, lon, los⟩ : V) ⟨xk, xn, xs⟩ = y at *
        obtain ⟨yk, yn, ys⟩ := y
        simp only [V.agg]
        clear e1 e2 e3 e4 e5 hcl hch hfl hfh HL HH hgl hgh
        have hf2 := blk_frozen HL2.out
        have hc2 := blk_cell HL2.out
        have hg2 := blk_lt HL2.out
        go_wp2_with fail
        go_roundw
        case rel => exact ⟨k + 1, ⟨yk, yn, ys⟩, _, by omega, by go_num, ((HB2.out.setCell (by dsimp only; omega) _).setCell (by dsimp only; omega) _).setCell (by dsimp only; omega) _, HN.out, ZN.out, Zhi.out, HCV0.out.keep (((HB2.out.setCell (by dsimp only; omega) _).setCell (by dsimp only; omega) _).setCell (by dsimp only; omega) _), blk_set (blk_set (blk_set HL2.out 0 _) 1 _) 2 _, blk_far (blk_far (blk_far HH2.out (by omega) _ _) (by omega) _ _) (by omega) _ _⟩
        case measure => simp [intOf]; omega
      ·
        go_wp2_with fail
        refine (orVal_any _ [⟨lok, lon, los⟩, ⟨xk, xn, xs⟩] _ (Sl.new (by simp) V.len (by rfl) (by rfl)) (by simp)).mono ?_
        rintro e w2 ⟨rfl, hb2⟩
        rw [orV_two Zlo.out ZX.out]
        have HN := Lib.hid (span_low (by first | rfl | assumption) (by simp) rfl HE2.out)
        have ZN := Lib.hid (zok_orK Zlo.out ZX.out)
        have hba := (HW.out.alloc HW.out.size (.cells #[.int .i64 xc, .int .i64 6, .int .i64 xk, .int .i64 xn, .string xs] 27)).alloc (by have := HW.out.size; simp; omega) (.cells #[.int .i64 lok, .int .i64 lon, .string los, .int .i64 xk, .int .i64 xn, .string xs] 25)
        have HB2 := Lib.hid (hba.trans (hb2.mono hba.size))
        have HCV2 := Lib.hid (((HCV.out.alloc _).alloc _).keep hb2)
        have HL2 := Lib.hid (blk_keep (blk_alloc (blk_alloc HL.out _) _) hb2)
        have HH2 := Lib.hid (blk_keep (blk_alloc (blk_alloc HH.out _) _) hb2)
        generalize orK (⟨lok, lon, los⟩ : V) ⟨xk, xn, xs⟩ = y at *
        obtain ⟨yk, yn, ys⟩ := y
        simp only [V.agg]
        clear e1 e2 e3 e4 e5 hcl hch hfl hfh HL HH hgl hgh
        have hf2 := blk_frozen HL2.out
        have hc2 := blk_cell HL2.out
        have hg2 := blk_lt HL2.out
        go_wp2_with fail
        go_roundw
        case rel => exact ⟨k + 1, ⟨yk, yn, ys⟩, _, by omega, by go_num, ((HB2.out.setCell (by dsimp only; omega) _).setCell (by dsimp only; omega) _).setCell (by dsimp only; omega) _, HN.out, ZN.out, Zhi.out, HCV0.out.keep (((HB2.out.setCell (by dsimp only; omega) _).setCell (by dsimp only; omega) _).setCell (by dsimp only; omega) _), blk_set (blk_set (blk_set HL2.out 0 _) 1 _) 2 _, blk_far (blk_far (blk_far HH2.out (by omega) _ _) (by omega) _ _) (by omega) _ _⟩
        case measure => simp [intOf]; omega
    by_cases h3 : xo = 3 ∨ xo = 4
    · rcases h3 with rfl | rfl
      ·
        go_wp2_with fail
        refine (orVal_any _ [⟨hik, hin, his⟩, ⟨xk, xn, xs⟩] _ (Sl.new (by simp) V.len (by rfl) (by rfl)) (by simp)).mono ?_
        rintro e w2 ⟨rfl, hb2⟩
        rw [orV_two Zhi.out ZX.out]
        have HN := Lib.hid (span_high (by first | rfl | assumption) (by simp) rfl HE2.out)
        have ZN := Lib.hid (zok_orK Zhi.out ZX.out)
        have hba := (HW.out.alloc HW.out.size (.cells #[.int .i64 xc, .int .i64 3, .int .i64 xk, .int .i64 xn, .string xs] 27)).alloc (by have := HW.out.size; simp; omega) (.cells #[.int .i64 hik, .int .i64 hin, .string his, .int .i64 xk, .int .i64 xn, .string xs] 25)
        have HB2 := Lib.hid (hba.trans (hb2.mono hba.size))
        have HCV2 := Lib.hid (((HCV.out.alloc _).alloc _).keep hb2)
        have HL2 := Lib.hid (blk_keep (blk_alloc (blk_alloc HL.out _) _) hb2)
        have HH2 := Lib.hid (blk_keep (blk_alloc (blk_alloc HH.out _) _) hb2)
        generalize orK (⟨hik, hin, his⟩ : V) ⟨xk, xn, xs⟩ = y at *
        obtain ⟨yk, yn, ys⟩ := y
        simp only [V.agg]
        clear e1 e2 e3 e4 e5 hcl hch hfl hfh HL HH hgl hgh
        have hf2 := blk_frozen HH2.out
        have hc2 := blk_cell HH2.out
        have hg2 := blk_lt HH2.out
        go_wp2_with fail
        go_roundw
        case rel => exact ⟨k + 1, _, ⟨yk, yn, ys⟩, by omega, by go_num, ((HB2.out.setCell (by dsimp only; omega) _).setCell (by dsimp only; omega) _).setCell (by dsimp only; omega) _, HN.out, Zlo.out, ZN.out, HCV0.out.keep (((HB2.out.setCell (by dsimp only; omega) _).setCell (by dsimp only; omega) _).setCell (by dsimp only; omega) _), blk_far (blk_far (blk_far HL2.out (by omega) _ _) (by omega) _ _) (by omega) _ _, blk_set (blk_set (blk_set HH2.out 0 _) 1 _) 2 _⟩
        case measure => simp [intOf]; omega
      ·
        go_wp2_with fail
        refine (orVal_any _ [⟨hik, hin, his⟩, ⟨xk, xn, xs⟩] _ (Sl.new (by simp) V.len (by rfl) (by rfl)) (by simp)).mono ?_
        rintro e w2 ⟨rfl, hb2⟩
        rw [orV_two Zhi.out ZX.out]
        have HN := Lib.hid (span_high (by first | rfl | assumption) (by simp) rfl HE2.out)
        have ZN := Lib.hid (zok_orK Zhi.out ZX.out)
        have hba := (HW.out.alloc HW.out.size (.cells #[.int .i64 xc, .int .i64 4, .int .i64 xk, .int .i64 xn, .string xs] 27)).alloc (by have := HW.out.size; simp; omega) (.cells #[.int .i64 hik, .int .i64 hin, .string his, .int .i64 xk, .int .i64 xn, .string xs] 25)
        have HB2 := Lib.hid (hba.trans (hb2.mono hba.size))
        have HCV2 := Lib.hid (((HCV.out.alloc _).alloc _).keep hb2)
        have HL2 := Lib.hid (blk_keep (blk_alloc (blk_alloc HL.out _) _) hb2)
        have HH2 := Lib.hid (blk_keep (blk_alloc (blk_alloc HH.out _) _) hb2)
        generalize orK (⟨hik, hin, his⟩ : V) ⟨xk, xn, xs⟩ = y at *
        obtain ⟨yk, yn, ys⟩ := y
        simp only [V.agg]
        clear e1 e2 e3 e4 e5 hcl hch hfl hfh HL HH hgl hgh
        have hf2 := blk_frozen HH2.out
        have hc2 := blk_cell HH2.out
        have hg2 := blk_lt HH2.out
        go_wp2_with fail
        go_roundw
        case rel => exact ⟨k + 1, _, ⟨yk, yn, ys⟩, by omega, by go_num, ((HB2.out.setCell (by dsimp only; omega) _).setCell (by dsimp only; omega) _).setCell (by dsimp only; omega) _, HN.out, Zlo.out, ZN.out, HCV0.out.keep (((HB2.out.setCell (by dsimp only; omega) _).setCell (by dsimp only; omega) _).setCell (by dsimp only; omega) _), blk_far (blk_far (blk_far HL2.out (by omega) _ _) (by omega) _ _) (by omega) _ _, blk_set (blk_set (blk_set HH2.out 0 _) 1 _) 2 _⟩
        case measure => simp [intOf]; omega
    · have HN := Lib.hid (span_not (c := ⟨xc, xo, ⟨xk, xn, xs⟩⟩) h5 h3 HE2.out)
      have d3 : ¬ xo = 3 := fun h => h3 (.inl h)
      have d4 : ¬ xo = 4 := fun h => h3 (.inr h)
      have d5 : ¬ xo = 5 := fun h => h5 (.inl h)
      have d6 : ¬ xo = 6 := fun h => h5 (.inr h)
      go_wp2_with fail
      go_roundw
      case rel => exact ⟨k + 1, _, _, by omega, by go_num, HW.out.alloc HW.out.size _, HN.out, Zlo.out, Zhi.out, HCV.out.alloc _, blk_alloc HL.out _, blk_alloc HH.out _⟩
      case measure => simp [intOf]; omega
end Go.Proofs.YtlhmencjhhpacaaDoor
