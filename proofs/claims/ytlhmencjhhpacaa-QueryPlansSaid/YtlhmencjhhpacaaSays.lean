/- cahierlaw20.QuerySays answers true. -/
import Derived.Test.YtlhmencjhhpacaaAwake20
import Derived.Test.YtlhmencjhhpacaaPlanR
namespace Go.Proofs.Ytlhmencjhhpacaa
open Go.RowKit

theorem firstErr_zero : ∀ (l : List Int), firstErr l = 0 → ∀ x ∈ l, x = 0
  | [], _, x, hx => by cases hx
  | e :: es, h, x, hx => by
    unfold firstErr at h
    split at h
    · rename_i h0
      rcases List.mem_cons.1 hx with rfl | hx
      · exact h0
      · exact firstErr_zero es h x hx
    · rename_i h0; exact absurd h h0
/-- where a query can be asked, its conditions' values are good -/
theorem check_good {t : Int} {conds : List Cnd} {cs : List Int} {ord : Int} (h : checkE t conds cs ord = 0) : ∀ x ∈ conds, goodB x.v.k x.v.n x.v.s = true := by
  intro x hx
  have hf : firstErr (conds.map (condErr t)) = 0 := by
    unfold checkE at h
    split at h
    · omega
    · split at h
      · omega
      · split at h
        · assumption
        · exact h
  have h0 := firstErr_zero _ hf _ (List.mem_map.2 ⟨x, hx, rfl⟩)
  unfold condErr at h0
  split at h0
  · omega
  · split at h0
    · omega
    · split at h0
      · omega
      · rename_i hr
        unfold isRightB at hr
        rcases Bool.eq_false_or_eq_true (goodB x.v.k x.v.n x.v.s) with hg | hg
        · exact hg
        · rw [if_pos hg] at hr; exact absurd rfl hr
theorem good_zok {v : V} (h : goodB v.k v.n v.s = true) : Zok v := by
  intro hk
  obtain ⟨k, n, s⟩ := v
  simp only at hk h
  subst hk
  unfold goodB at h
  simp only [beq_self_eq_true, if_true, Bool.and_eq_true, beq_iff_eq] at h
  obtain ⟨h1, h2⟩ := h
  subst h1
  obtain ⟨⟨l⟩⟩ := s
  have : l = [] := by simpa [ByteArray.toList_eq] using h2
  subst this
  rfl

set_option maxRecDepth 100000 in
set_option maxHeartbeats 2000000 in
theorem says_any (t : Int) (cv lv iv : Value) (conds : List Cnd) (cs : List Int) (ord : Int) (down : Bool) (lim : Int) (list : List Ix) (w : World) (hcv : Sl Cnd.cells 5 w cv conds) (hlv : Sl iCells 1 w lv cs) (hiv : Sl Ix.cells 3 w iv list) (hcs : ∀ x ∈ conds, x.v.s.size ≤ maxLen) :
    Calls Try.prog 6 #[.agg #[.int .i64 t, cv, lv, .int .i64 ord, .bool down, .int .i64 lim], iv] w fun e w' => e = .returned (.bool true) ∧ Below w.heap.size w w' := by
  obtain ⟨Ac, cc, rfl⟩ := Sl.len' hcv
  obtain ⟨Al, cl, rfl⟩ := Sl.len' hlv
  obtain ⟨Ai, ci, rfl⟩ := Sl.len' hiv
  have HCV := Lib.hid hcv
  have HLV := Lib.hid hlv
  have HIV := Lib.hid hiv
  have HCS := Lib.hid hcs
  clear hcv hlv hiv hcs
  go_enter Try.func6, Try.ntmps6
  go_wp2_with fail
  refine (awake20_any _).mono ?_
  rintro e w1 ⟨rfl, hb⟩
  have HQ := Lib.hid (blk_keep (blk_new (w0 := w) (g := w.heap.size) rfl) hb)
  have HB := Lib.hid (((Below.refl _ w).alloc (Nat.le_refl _) _).trans (hb.mono (by simp)))
  clear hb
  have hq := blk_cell HQ.out
  have hql := blk_lt HQ.out
  go_wp2_with fail
  refine (great_any t _ _ conds cs ord down lim _ (HCV.out.keep HB.out) (HLV.out.keep HB.out)).mono ?_
  rintro e w2 ⟨⟨b, rfl, hsm⟩, hb⟩
  have HQ2 := Lib.hid (blk_keep HQ.out hb)
  have HB2 := Lib.hid (HB.out.trans (hb.mono HB.out.size))
  clear hb hq hql HQ HB
  have hq := blk_cell HQ2.out
  have hql := blk_lt HQ2.out
  cases b with
  | true =>
    clear hsm
    go_wp2_with fail
    go_ret
    exact ⟨rfl, HB2.out⟩
  | false =>
    have HSM := Lib.hid (hsm rfl)
    clear hsm
    by_cases h20 : (20 : Int) < list.length
    · go_wp2_with fail
      go_ret
      exact ⟨rfl, HB2.out⟩
    have H20 := Lib.hid (show list.length ≤ 1000 by omega)
    go_wp2_with fail
    refine (check_any t _ _ conds cs ord down lim _ (HCV.out.keep HB2.out) (HLV.out.keep HB2.out) HCS.out).mono ?_
    rintro e w3 ⟨rfl, hb⟩
    have HQ3 := Lib.hid (blk_keep HQ2.out hb)
    have HB3 := Lib.hid (HB2.out.trans (hb.mono HB2.out.size))
    clear hb hq hql HQ2 HB2
    have hq := blk_cell HQ3.out
    have hql := blk_lt HQ3.out
    go_wp2_with fail
    refine (checkR_any t _ _ conds cs ord down lim _ (HCV.out.keep HB3.out) (HLV.out.keep HB3.out) HCS.out).mono ?_
    rintro e w4 ⟨rfl, hb⟩
    have HQ4 := Lib.hid (blk_keep HQ3.out hb)
    have HB4 := Lib.hid (HB3.out.trans (hb.mono HB3.out.size))
    clear hb hq hql HQ3 HB3
    have hql := blk_lt HQ4.out
    have hc4 : ∀ (y : Up w4) (o : Nat), y.w.cell? ⟨w.heap.size, o, none⟩ = (#[.int .i64 t, .slice Ac conds.length cc, .slice Al cs.length cl, .int .i64 ord, .bool down, .int .i64 lim] : Array Value)[o]? := fun y o => (y.cell _ _ hql).trans (blk_cell HQ4.out o)
    have HG := Lib.hid (fun h x hx => good_zok (check_good (t := t) (conds := conds) (cs := cs) (ord := ord) h x hx))
    generalize checkE t conds cs ord = ce at *
    by_cases h0 : ce = 0
    · subst h0
      have HZ := Lib.hid (HG.out rfl)
      have HL := Lib.hid (show conds.length ≤ 1000000 by have := HSM.out.1; omega)
      clear HG
      go_wp2_with fail
      refine wp_region_up (by kernel_rfl) (by kernel_rfl) ?_
      repeat (go_big_quiet_step (first
        | (go_at_call 32; exact up_call (plan_any t _ _ _ conds ord down lim list _ (HCV.out.keep (HB4.out.trans ((Up.h _).mono HB4.out.size))) (HIV.out.keep (HB4.out.trans ((Up.h _).mono HB4.out.size))) HZ.out HL.out H20.out))
        | (go_at_call 33; exact up_call (planR_any t _ _ _ conds ord down lim list _ (HCV.out.keep (HB4.out.trans ((Up.h _).mono HB4.out.size))) (HIV.out.keep (HB4.out.trans ((Up.h _).mono HB4.out.size))) HZ.out HL.out H20.out))
        | (go_at_call 31; exact up_call (same_any _ _))))
      refine wpQuiet_nil ?_
      rintro w' ⟨⟨w2, hb2⟩, rfl⟩
      have HB5 := Lib.hid (HB4.out.trans (hb2.mono HB4.out.size))
      clear hb2 hc4 hql
      go_wp2_with fail
      go_ret
      exact ⟨rfl, HB5.out⟩
    · have hd : (ce != 0) = true := by simpa using h0
      clear HG
      go_wp2_with fail
      refine wp_region_up (by kernel_rfl) (by kernel_rfl) ?_
      repeat (go_big_quiet_step (fail))
      refine wpQuiet_nil ?_
      rintro w' ⟨⟨w2, hb2⟩, rfl⟩
      have HB5 := Lib.hid (HB4.out.trans (hb2.mono HB4.out.size))
      clear hb2 hc4 hql
      go_wp2_with fail
      go_ret
      exact ⟨rfl, HB5.out⟩
end Go.Proofs.Ytlhmencjhhpacaa
