/- cahierref20.before: whether a row stands ahead of another one. -/
import Derived.Test.YtlhmencjhhpacaaPick3
namespace Go.Proofs.Ytlhmencjhhpacaa
open Go.RowKit

theorem lt_of_k {ord : Int} {down : Bool} {a b : List V} {k : Int} (h : ordK ord down a b = k) (hk : ¬ k = 0) : decide (k < 0) = ltR ord down a b := by
  unfold ltR ordC
  rw [h, if_neg (fun h => hk h.1)]
theorem lt_of_0 {ord : Int} {down : Bool} {a b : List V} (h : ordK ord down a b = 0) (h0 : 0 < a.length) {c : Int} (hc : cmpVV (a.getD 0 vZero) (b.getD 0 vZero) = c) : decide (c < 0) = ltR ord down a b := by
  unfold ltR ordC
  rw [h, if_pos ⟨rfl, h0⟩, hc]
theorem lt_of_none {ord : Int} {down : Bool} {a b : List V} (h : ordK ord down a b = 0) (h0 : ¬ 0 < a.length) : false = ltR ord down a b := by
  unfold ltR ordC
  rw [h, if_neg (fun h => h0 h.2)]
  rfl

set_option maxRecDepth 100000 in
set_option maxHeartbeats 2000000 in
theorem before_any (t : Int) (cv lv : Value) (ord : Int) (down : Bool) (lim : Int) (va vb : Value) (a b : List V) (w : World)
    (ha : Sl V.cells 3 w va a) (hb : Sl V.cells 3 w vb b) (hl : b.length = a.length) (has : ∀ x ∈ a, x.s.size ≤ maxLen) (hbs : ∀ x ∈ b, x.s.size ≤ maxLen) (hal : a.length ≤ 1000000) :
    Calls Try.prog 68 #[.agg #[.int .i64 t, cv, lv, .int .i64 ord, .bool down, .int .i64 lim], va, vb] w fun e w' => e = .returned (.bool (ltR ord down a b)) ∧ Below w.heap.size w w' := by
  obtain ⟨Aa, ca, rfl⟩ := Sl.len' ha
  obtain ⟨Ab, cb, rfl⟩ := Sl.len' hb
  rw [hl] at hb ⊢
  have HA0 := Lib.hid ha
  have HB0 := Lib.hid hb
  have HL := Lib.hid hl
  clear ha hb hl
  go_enter Try.func68, Try.ntmps68
  go_upto_region 1 with fail
  have HQ := Lib.hid (blk_new (w0 := w) (g := w.heap.size) (o := .cells #[.int .i64 t, cv, lv, .int .i64 ord, .bool down, .int .i64 lim] 50) rfl)
  have HW1 := Lib.hid ((Below.refl w.heap.size w).alloc (Nat.le_refl _) (.cells #[.int .i64 t, cv, lv, .int .i64 ord, .bool down, .int .i64 lim] 50))
  have HA := Lib.hid (HA0.out.keep HW1.out)
  have HB := Lib.hid (HB0.out.keep HW1.out)
  clear HA0 HB0
  generalize w.alloc (.cells #[.int .i64 t, cv, lv, .int .i64 ord, .bool down, .int .i64 lim] 50) = w1 at *
  have q0 : w1.cell? ⟨w.heap.size, 3, none⟩ = some (.int .i64 ord) := blk_cell HQ.out 3
  have hql := blk_lt HQ.out
  go_cut [17] from 8 to 17 (fun v wc => v = .bool (inC ord a) ∧ w1 = wc)
  case first =>
    by_cases h1 : 1 ≤ ord
    · by_cases h2 : ord ≤ a.length
      · have HI := Lib.hid (show Value.bool true = .bool (inC ord a) by unfold inC; rw [decide_eq_true ⟨h1, h2⟩])
        go_wp2_with fail
        go_meet
        case rel => exact ⟨HI.out, rfl⟩
      · have HI := Lib.hid (show Value.bool false = .bool (inC ord a) by unfold inC; rw [decide_eq_false (fun h => h2 h.2)])
        go_wp2_with fail
        go_meet
        case rel => exact ⟨HI.out, rfl⟩
    · have HI := Lib.hid (show Value.bool false = .bool (inC ord a) by unfold inC; rw [decide_eq_false (fun h => h1 h.1)])
      go_wp2_with fail
      go_meet
      case rel => exact ⟨HI.out, rfl⟩
  case rest =>
  obtain ⟨rfl, rfl⟩ := hcut
  go_upto_if 17 with fail
  go_cut [] from 17 to 38 (fun wc => Hid (ordK ord down a b = 0) ∧ Below w1.heap.size w1 wc)
  case first =>
    rcases Bool.eq_false_or_eq_true (inC ord a) with hin | hin
    rotate_left
    · have HI := Lib.hid (show ordK ord down a b = 0 by unfold ordK; rw [hin]; rfl)
      rw [hin]
      go_wp2_with fail
      go_meet
      case rel => exact ⟨HI, Below.refl _ _⟩
    · have hin' := hin
      unfold inC at hin'
      have hio := of_decide_eq_true hin'
      obtain ⟨j, rfl⟩ : ∃ j : Nat, ord = (j : Int) + 1 := ⟨(ord - 1).toNat, by omega⟩
      have hja : j < a.length := by omega
      rw [hin]
      have HK := Lib.hid (show ordK ((j : Int) + 1) down a b = if down = true then -cmpVV (a.getD j vZero) (b.getD j vZero) else cmpVV (a.getD j vZero) (b.getD j vZero) by
        unfold ordK; rw [if_pos hin]; rw [show ((j : Int) + 1 - 1).toNat = j by omega])
      rcases HA.out.cases with ⟨A', c', he, hnil⟩ | ⟨ba, oa, c', he, -, hbla, hsa⟩
      · rw [hnil] at hja; simp at hja
      injection he with he1 he2 he3
      subst he1 he3
      rw [← HL.out] at HB
      rcases HB.out.cases with ⟨A', c', he, hnil⟩ | ⟨bb, ob, c', he, -, hblb, hsb⟩
      · have := HL.out; rw [hnil] at this; simp at this; omega
      injection he with he1 he2 he3
      subst he1 he3
      have hjbl : j < b.length := by rw [HL.out]; exact hja
      obtain ⟨-, ea⟩ := hsa.cells hja
      obtain ⟨-, eb⟩ := hsb.cells hjbl
      obtain ⟨ea0, ea1, ea2⟩ := V.row ea
      obtain ⟨eb0, eb1, eb2⟩ := V.row eb
      have hxs := has _ (List.getElem_mem hja)
      have hys := hbs _ (List.getElem_mem hjbl)
      have ga : a.getD j vZero = a[j] := by simp [hja]
      have gb : b.getD j vZero = b[j] := by simp [hjbl]
      rw [ga, gb] at HK
      clear hin hin' hio ea eb ga gb hsa hsb
      generalize a[j] = x at *
      generalize b[j] = y at *
      obtain ⟨xk, xn, xs⟩ := x
      obtain ⟨yk, yn, ys⟩ := y
      simp only at ea0 ea1 ea2 eb0 eb1 eb2 hxs hys
      have ua0 := up_at ea0 hbla
      have ua1 := up_at ea1 hbla
      have ua2 := up_at ea2 hbla
      have ub0 := up_at eb0 hblb
      have ub1 := up_at eb1 hblb
      have ub2 := up_at eb2 hblb
      have uq := up_at q0 hql
      have hcb := cmpVV_bd ⟨xk, xn, xs⟩ ⟨yk, yn, ys⟩
      have hco : cmpV xk xn xs yk yn ys = cmpVV ⟨xk, xn, xs⟩ ⟨yk, yn, ys⟩ := rfl
      have HCO := Lib.hid hco
      generalize cmpVV ⟨xk, xn, xs⟩ ⟨yk, yn, ys⟩ = c at *
      obtain ⟨hc1, hc2⟩ := hcb
      clear hco ea0 ea1 ea2 eb0 eb1 eb2
      have hjb : (j : Int) < (a.length : Int) := by omega
      have hj0 : (0 : Int) ≤ (j : Int) := by omega
      go_wp2_with fail
      refine wp_region_up (by kernel_rfl) (by kernel_rfl) ?_
      repeat (go_big_quiet_step (first
        | (go_at_call 77; exact up_call (compareR_any _ _ _ _ _ _ _ hxs hys))))
      refine wpQuiet_nil ?_
      rintro w' ⟨⟨w2, hb2⟩, rfl⟩
      rw [HCO.out]
      have q4' : w'.cell? ⟨w.heap.size, 4, none⟩ = some (.bool down) := blk_cell (blk_keep HQ.out hb2) 4
      have hql' := blk_lt (blk_keep HQ.out hb2)
      have HBB := Lib.hid hb2
      have HBW := Lib.hid (HW1.out.trans (hb2.mono HW1.out.size))
      clear hb2 ua0 ua1 ua2 ub0 ub1 ub2 uq q0 hql
      by_cases hc0 : c = 0
      · subst hc0
        have HI := Lib.hid (show ordK ((j : Int) + 1) down a b = 0 by rw [HK.out]; cases down <;> rfl)
        cases down with
        | false =>
          go_wp2_with fail
          go_meet
          case rel => exact ⟨HI, HBB.out⟩
        | true =>
          go_wp2_with fail
          go_meet
          case rel => exact ⟨HI, HBB.out⟩
      · cases down with
        | false =>
          have HF := Lib.hid (show Ending.returned (.bool (decide (c < 0))) = .returned (.bool (ltR ((j : Int) + 1) false a b)) by rw [lt_of_k (by rw [HK.out]; rfl) hc0])
          go_wp2_with fail
          go_ret
          exact ⟨HF.out, HBW.out⟩
        | true =>
          have hc0' : ¬ -c = 0 := by omega
          have HF := Lib.hid (show Ending.returned (.bool (decide (0 < c))) = .returned (.bool (ltR ((j : Int) + 1) true a b)) by rw [← lt_of_k (k := -c) (by rw [HK.out]; rfl) hc0', show decide (0 < c) = decide (-c < 0) from decide_eq_decide.2 (by omega)])
          go_wp2_with fail
          go_ret
          exact ⟨HF.out, HBW.out⟩
  case rest =>
  obtain ⟨HK0, hbc⟩ := hcut
  have HBC := Lib.hid (HW1.out.trans (hbc.mono HW1.out.size))
  have HA2 := Lib.hid (HA.out.keep hbc)
  have HB2 := Lib.hid (HB.out.keep hbc)
  clear hbc q0 hql HQ HA HB
  by_cases hla : 0 < a.length
  rotate_left
  · have HF := Lib.hid (show Ending.returned (.bool false) = .returned (.bool (ltR ord down a b)) by rw [lt_of_none HK0.out hla])
    have hla' : decide ((a.length : Int) > 0) = false := decide_eq_false (by omega)
    go_wp2_with fail
    refine wp_region_up (by kernel_rfl) (by kernel_rfl) ?_
    repeat (go_big_quiet_step (fail))
    refine wpQuiet_nil ?_
    rintro w' ⟨⟨w2, hb2⟩, rfl⟩
    have HBB := Lib.hid (HBC.out.trans (hb2.mono HBC.out.size))
    clear hb2
    go_wp2_with fail
    go_ret
    exact ⟨HF.out, HBB.out⟩
  rcases HA2.out.cases with ⟨A', c', he, hnil⟩ | ⟨ba, oa, c', he, -, hbla, hsa⟩
  · rw [hnil] at hla; simp at hla
  injection he with he1 he2 he3
  subst he1 he3
  rw [← HL.out] at HB2
  rcases HB2.out.cases with ⟨A', c', he, hnil⟩ | ⟨bb, ob, c', he, -, hblb, hsb⟩
  · have := HL.out; rw [hnil] at this; simp at this; omega
  injection he with he1 he2 he3
  subst he1 he3
  have hjbl : 0 < b.length := by rw [HL.out]; exact hla
  obtain ⟨-, ea⟩ := hsa.cells hla
  obtain ⟨-, eb⟩ := hsb.cells hjbl
  obtain ⟨ea0, ea1, ea2⟩ := V.row ea
  obtain ⟨eb0, eb1, eb2⟩ := V.row eb
  simp only [Nat.zero_mul, Nat.add_zero] at ea0 ea1 ea2 eb0 eb1 eb2
  have hxs := has _ (List.getElem_mem hla)
  have hys := hbs _ (List.getElem_mem hjbl)
  have ga : a.getD 0 vZero = a[0] := by simp [hla]
  have gb : b.getD 0 vZero = b[0] := by simp [hjbl]
  have HR := Lib.hid (lt_of_0 HK0.out hla (c := cmpVV a[0] b[0]) (by rw [ga, gb]))
  clear ea eb ga gb hsa hsb
  generalize a[0] = x at *
  generalize b[0] = y at *
  obtain ⟨xk, xn, xs⟩ := x
  obtain ⟨yk, yn, ys⟩ := y
  simp only at ea0 ea1 ea2 eb0 eb1 eb2 hxs hys
  have HF := Lib.hid (show Ending.returned (.bool (decide (cmpV xk xn xs yk yn ys < 0))) = .returned (.bool (ltR ord down a b)) by rw [← HR.out]; rfl)
  have ua0 := up_at ea0 hbla
  have ua1 := up_at ea1 hbla
  have ua2 := up_at ea2 hbla
  have ub0 := up_at eb0 hblb
  have ub1 := up_at eb1 hblb
  have ub2 := up_at eb2 hblb
  clear ea0 ea1 ea2 eb0 eb1 eb2 HR
  have hjb : (0 : Int) < (a.length : Int) := by omega
  have hjd : decide ((a.length : Int) > 0) = true := decide_eq_true (by omega)
  go_wp2_with fail
  refine wp_region_up (by kernel_rfl) (by kernel_rfl) ?_
  repeat (go_big_quiet_step (first
    | (go_at_call 77; exact up_call (compareR_any _ _ _ _ _ _ _ hxs hys))))
  refine wpQuiet_nil ?_
  rintro w' ⟨⟨w2, hb2⟩, rfl⟩
  have HBB := Lib.hid (HBC.out.trans (hb2.mono HBC.out.size))
  clear hb2 ua0 ua1 ua2 ub0 ub1 ub2
  go_wp2_with fail
  go_ret
  exact ⟨HF.out, HBB.out⟩
end Go.Proofs.Ytlhmencjhhpacaa
