/- cahierlaw20.QueryPicks answers true. -/
import Derived.Test.YtlhmencjhhpacaaPickR
import Derived.Test.YtlhmencjhhpacaaRowsEq
import Derived.Test.YtlhmencjhhpacaaEven
import Derived.Test.YtlhmencjhhpacaaAwake20
import Derived.Test.YtlhmencjhhpacaaGreat
namespace Go.Proofs.Ytlhmencjhhpacaa
open Go.RowKit
attribute [local go_sem ↓] Go.wp_at_zero Go.wp_at_succ

theorem showB_len (cs : List Int) (r : List V) (h : r.length ≤ 1000000) (hc : cs.length ≤ 1000) : (showB cs r).length ≤ 1000000 := by
  unfold showB
  split
  · exact h
  · have := List.length_filterMap_le (fun n : Int => if 1 ≤ n ∧ n ≤ r.length then some (r.getD (n - 1).toNat vZero) else none) cs
    omega
theorem pickB_len (ord : Int) (down : Bool) (lim : Int) (conds : List Cnd) (cs : List Int) (rows : List (List V)) : (pickB ord down lim conds cs rows).length ≤ rows.length := by
  unfold pickB
  rw [List.length_map, cutB_len, isort_len]
  have := List.length_filter_le (fun r => matchB r conds) rows
  split <;> omega
theorem pickB_small {ord : Int} {down : Bool} {lim : Int} {conds : List Cnd} {cs : List Int} {rows : List (List V)} {m : Nat} (hE : Even rows m) (hc : cs.length ≤ 1000) : ∀ r ∈ pickB ord down lim conds cs rows, r.length ≤ 1000000 := by
  intro r hr
  obtain ⟨q, hq, rfl⟩ := List.mem_map.1 hr
  have h1 := isort_mem _ q (cutB_mem hq)
  have h2 := (List.mem_filter.1 h1).1
  exact showB_len cs q (by rw [hE.len q h2]; exact hE.small) hc
theorem even_of {R : List Rr} {m : Nat} (hm : m ≤ 16) (h : ∀ p ∈ R, p.row.length = m ∧ ∀ x ∈ p.row, goodV x = true) (hs : ∀ p ∈ R, ∀ x ∈ p.row, x.s.size ≤ maxLen) : Even (R.map Rr.row) m := by
  refine ⟨fun r hr => ?_, fun r hr => ?_, fun r hr => ?_, by omega⟩
  · obtain ⟨p, hp, rfl⟩ := List.mem_map.1 hr; exact (h p hp).1
  · obtain ⟨p, hp, rfl⟩ := List.mem_map.1 hr; exact (h p hp).2
  · obtain ⟨p, hp, rfl⟩ := List.mem_map.1 hr; exact hs p hp

set_option maxRecDepth 100000 in
set_option maxHeartbeats 2000000 in
theorem picks_any (t : Int) (cv lv rv : Value) (conds : List Cnd) (cs : List Int) (ord : Int) (down : Bool) (lim : Int) (R : List Rr) (w : World) (hcv : Sl Cnd.cells 5 w cv conds) (hlv : Sl iCells 1 w lv cs) (hrv : Sl Rr.cells 1 w rv R) (hL : Lies w R) (hcs : ∀ x ∈ conds, x.v.s.size ≤ maxLen) (hs : ∀ p ∈ R, ∀ x ∈ p.row, x.s.size ≤ maxLen) :
    Calls Try.prog 7 #[.agg #[.int .i64 t, cv, lv, .int .i64 ord, .bool down, .int .i64 lim], rv] w fun e w' => e = .returned (.bool true) ∧ Below w.heap.size w w' := by
  obtain ⟨Ac, cc, rfl⟩ := Sl.len' hcv
  obtain ⟨Al, cl, rfl⟩ := Sl.len' hlv
  obtain ⟨Ar, cr, rfl⟩ := Sl.len' hrv
  have HCV := Lib.hid hcv
  have HLV := Lib.hid hlv
  have HRV := Lib.hid hrv
  have HL := Lib.hid hL
  have HCS := Lib.hid hcs
  have HS := Lib.hid hs
  clear hcv hlv hrv hL hcs hs
  go_enter Try.func7, Try.ntmps7
  go_wp2_with fail
  refine (awake20_any _).mono ?_
  rintro e w1 ⟨rfl, hb⟩
  have HQ := Lib.hid (blk_keep (blk_new (w0 := w) (g := w.heap.size) rfl) hb)
  have HB := Lib.hid (((Below.refl w.heap.size w).alloc (Nat.le_refl _) _).trans (hb.mono (by simp)))
  clear hb
  have hq := blk_cell HQ.out
  have hql := blk_lt HQ.out
  go_wp2_with fail
  refine (great_any t _ _ conds cs ord down lim _ (HCV.out.keep HB.out) (HLV.out.keep HB.out)).mono ?_
  rintro e w2 ⟨⟨b, rfl, hsm⟩, hb⟩
  have HQ2 := Lib.hid (blk_keep HQ.out hb)
  have HB2 := Lib.hid (HB.out.trans (hb.mono HB.out.size))
  clear hb hq hql HQ HB
  cases b with
  | true =>
    clear hsm
    go_wp2_with fail
    go_ret
    exact ⟨rfl, HB2.out⟩
  | false =>
    have HSM := Lib.hid (hsm rfl)
    clear hsm
    go_wp2_with fail
    refine (even_any _ R _ (HRV.out.keep HB2.out) (HL.out.keep HB2.out) HS.out).mono ?_
    rintro e w3 ⟨⟨b, rfl, hev⟩, hb⟩
    have HQ3 := Lib.hid (blk_keep HQ2.out hb)
    have HB3 := Lib.hid (HB2.out.trans (hb.mono HB2.out.size))
    clear hb HQ2 HB2
    cases b with
    | false =>
      clear hev
      go_wp2_with fail
      go_ret
      exact ⟨rfl, HB3.out⟩
    | true =>
      obtain ⟨h60, m, hm16, hev⟩ := hev rfl
      have HEV := Lib.hid (even_of hm16 hev HS.out)
      have H60 := Lib.hid h60
      clear hev hm16
      go_wp2_with fail
      go_loopw [5] (fun i wr => ∃ k : Nat, k ≤ R.length ∧ i = .int .i64 k ∧ Below w3.heap.size w3 wr) (fun i _ => R.length - (intOf i).toNat)
      case atStart => exact ⟨0, Nat.zero_le _, rfl, Below.refl _ _⟩
      case round =>
        obtain ⟨k, hk, rfl, hb⟩ := hrel
        have HBK := Lib.hid hb
        have HBW := Lib.hid (HB3.out.trans (hb.mono HB3.out.size))
        have HQ4 := Lib.hid (blk_keep HQ3.out hb)
        have hql := blk_lt HQ4.out
        clear hb
        have uq : ∀ (y : Up wr) (o : Nat), y.w.cell? ⟨w.heap.size, o, none⟩ = (#[.int .i64 t, .slice Ac conds.length cc, .slice Al cs.length cl, .int .i64 ord, .bool down, .int .i64 lim] : Array Value)[o]? := fun y o => (y.cell _ _ hql).trans (blk_cell HQ4.out o)
        by_cases hkl : k < R.length
        · rcases (HRV.out.keep HBW.out).cases with ⟨A, c, he, hnil⟩ | ⟨b, off, c, he, -, hbl, hsl'⟩
          · rw [hnil] at hkl; simp at hkl
          injection he with he1 he2 he3
          subst he1 he3
          obtain ⟨-, hcells⟩ := hsl'.cells hkl
          have e0 : wr.cell? ⟨b, off + k, none⟩ = some R[k].hd := by
            have := hcells 0 _ rfl
            simp only [Nat.mul_one, Nat.add_zero] at this
            exact this
          have hmem := List.getElem_mem hkl
          have HP := Lib.hid ((HL.out _ hmem).keep HBW.out)
          have HPS := Lib.hid (HS.out _ hmem)
          have HPL := Lib.hid (show R[k].row.length ≤ 1000000 by rw [HEV.out.len _ (List.mem_map.2 ⟨_, hmem, rfl⟩)]; exact HEV.out.small)
          have HC1 := Lib.hid (show conds.length ≤ 1073741824 by have := HSM.out.1; omega)
          have hk0 : (0 : Int) ≤ (k : Int) := by omega
          have hk1 : (k : Int) < (R.length : Int) := by omega
          clear hcells hsl' hmem
          generalize R[k] = p at *
          obtain ⟨pa, pc, pr⟩ := p
          simp only [Rr.hd] at e0 HP
          simp only at HPL HPS
          have u0 := up_at e0 hbl
          clear e0
          have HM1 := Lib.hid (fun (y : Up wr) => match_any _ _ pr conds y.w (HP.out.keep y.h) (HCV.out.keep (HBW.out.trans (y.h.mono HBW.out.size))) HPS.out HCS.out HC1.out (by have := HPL.out; omega))
          have HM2 := Lib.hid (fun (y : Up wr) => matchR_any _ _ pr conds y.w (HP.out.keep y.h) (HCV.out.keep (HBW.out.trans (y.h.mono HBW.out.size))) HPS.out HCS.out HC1.out (by have := HPL.out; omega))
          generalize matchB pr conds = mb at *
          cases mb
          all_goals
            go_wp2_with fail
            refine wp_region_up (by kernel_rfl) (by kernel_rfl) ?_
            repeat (go_big_quiet_step (first
              | (go_at_call 35; exact up_call (HM1.out _))
              | (go_at_call 36; exact up_call (HM2.out _))))
            refine wpQuiet_nil ?_
            rintro w' ⟨⟨w2, hb2⟩, rfl⟩
            have HBK2 := Lib.hid (HBK.out.trans (hb2.mono HBK.out.size))
            clear hb2 u0 uq
            go_wp2_with fail
            go_roundw
            case rel => exact ⟨k + 1, by omega, by go_num, HBK2.out⟩
            case measure => simp [intOf]; omega
        · clear uq
          go_wp2_with fail
          have HMK := Lib.hid (show ∀ wn, Below wr.heap.size wr wn → (Below wr.heap.size wr wn ∧ wn.cell? ⟨w.heap.size, 0, none⟩ = some (.int .i64 t) ∧ wn.cell? ⟨w.heap.size, 1, none⟩ = some (.slice Ac conds.length cc) ∧ wn.cell? ⟨w.heap.size, 2, none⟩ = some (.slice Al cs.length cl) ∧ wn.cell? ⟨w.heap.size, 3, none⟩ = some (.int .i64 ord) ∧ wn.cell? ⟨w.heap.size, 4, none⟩ = some (.bool down) ∧ wn.cell? ⟨w.heap.size, 5, none⟩ = some (.int .i64 lim)) from fun wn h => ⟨h, blk_cell (blk_keep HQ4.out h) 0, blk_cell (blk_keep HQ4.out h) 1, blk_cell (blk_keep HQ4.out h) 2, blk_cell (blk_keep HQ4.out h) 3, blk_cell (blk_keep HQ4.out h) 4, blk_cell (blk_keep HQ4.out h) 5⟩)
          have HP1 := Lib.hid (fun (wn : World) (h : Below wr.heap.size wr wn) => pick_any t _ _ _ conds cs ord down lim R m wn (HCV.out.keep (HBW.out.trans (h.mono HBW.out.size))) (HLV.out.keep (HBW.out.trans (h.mono HBW.out.size))) (HRV.out.keep (HBW.out.trans (h.mono HBW.out.size))) (HL.out.keep (HBW.out.trans (h.mono HBW.out.size))) HEV.out HCS.out (by have := HSM.out.1; omega) (by have := HSM.out.2; omega) (by have := H60.out; omega))
          have HP2 := Lib.hid (fun (wn : World) (h : Below wr.heap.size wr wn) => pickR_any t _ _ _ conds cs ord down lim R m wn (HCV.out.keep (HBW.out.trans (h.mono HBW.out.size))) (HLV.out.keep (HBW.out.trans (h.mono HBW.out.size))) (HRV.out.keep (HBW.out.trans (h.mono HBW.out.size))) (HL.out.keep (HBW.out.trans (h.mono HBW.out.size))) HEV.out HCS.out (by have := HSM.out.1; omega) (by have := HSM.out.2; omega) (by have := H60.out; omega))
          have HPL := Lib.hid (pickB_len ord down lim conds cs (R.map Rr.row))
          have HPR := Lib.hid (pickB_small (ord := ord) (down := down) (lim := lim) (conds := conds) (cs := cs) HEV.out (by have := HSM.out.2; omega))
          go_region_held3 (fun wn => Below wr.heap.size wr wn ∧ wn.cell? ⟨w.heap.size, 0, none⟩ = some (.int .i64 t) ∧ wn.cell? ⟨w.heap.size, 1, none⟩ = some (.slice Ac conds.length cc) ∧ wn.cell? ⟨w.heap.size, 2, none⟩ = some (.slice Al cs.length cl) ∧ wn.cell? ⟨w.heap.size, 3, none⟩ = some (.int .i64 ord) ∧ wn.cell? ⟨w.heap.size, 4, none⟩ = some (.bool down) ∧ wn.cell? ⟨w.heap.size, 5, none⟩ = some (.int .i64 lim))
            ((refine HMK.out _ ?_; go_split_ands; go_grown))
            (first
              | (go_at_call 38; refine (HP1.out _ (by go_grown)).mono ?_; rintro e w' ⟨v1, Q1, rfl, hs1, hl1, hq1, hb1⟩; have hbw := below2 (w := wr) (by go_grown) hb1; have hsw := hbw.size)
              | (go_at_call 39; refine (HP2.out _ (by go_grown)).mono ?_; rintro e w'' ⟨v2, Q2, rfl, hs2, hl2, hq2, hb2⟩; have hbw2 := below2 (w := wr) (by go_grown) hb2; have hsw2 := hbw2.size)
              | (go_at_call 37; refine (rows20_any _ _ Q1 Q2 _ (hs1.keep hb2) hs2 (hl1.keep hb2) hl2 (hq1.trans hq2.symm) (by have := HPL.out; rw [← hq1] at this; simp at this; have := H60.out; omega) (fun p hp => HPR.out _ (by rw [← hq1]; exact List.mem_map.2 ⟨p, hp, rfl⟩))).mono ?_; rintro e w' ⟨rfl, hb3⟩; have hbw3 := below2 (w := wr) (by go_grown) hb3; have hsw3 := hbw3.size))
          have HF := Lib.hid (HBW.out.trans (hbw3.mono HBW.out.size))
          clear hs1 hl1 hq1 hb1 hbw hsw hs2 hl2 hq2 hb2 hbw2 hsw2 hb3 hbw3 hsw3
          go_wp2_with fail
          go_ret
          exact ⟨rfl, HF.out⟩
end Go.Proofs.Ytlhmencjhhpacaa
