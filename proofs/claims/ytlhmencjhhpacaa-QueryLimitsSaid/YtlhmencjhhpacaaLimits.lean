/- cahierlaw20.QueryLimits answers true. -/
import Derived.Test.YtlhmencjhhpacaaPickC
import Derived.Test.YtlhmencjhhpacaaPicks
namespace Go.Proofs.Ytlhmencjhhpacaa
open Go.RowKit

theorem bef_le {c : Nat → Nat → Int} (T : Tw c) {x y : Nat} (h : Bef (ltc c) x y) : c x y ≤ 0 := by
  rcases h with h | ⟨h, -⟩
  · have := of_decide_eq_true h; omega
  · have := of_decide_eq_false h
    rw [T.anti x y] at this
    omega
theorem ordK_le {ord : Int} {down : Bool} {a b : List V} (h : ordC ord down a b ≤ 0) : ordK ord down a b ≤ 0 := by
  unfold ordC at h
  split at h
  · rename_i h0; omega
  · exact h
theorem isort_ordK {ord : Int} {down : Bool} {rows : List (List V)} {m : Nat} (hE : Even rows m) {i : Nat} (h : i + 1 < (isort (ltR ord down) rows).length) : ordK ord down ((isort (ltR ord down) rows)[i]'(by omega)) (isort (ltR ord down) rows)[i + 1] ≤ 0 := by
  have hne : rows ≠ [] := fun e => by subst e; simp [isort] at h
  have h0 : 0 < rows.length := List.length_pos_iff.2 hne
  have hmem : ∀ x, rows.getD (min x (rows.length - 1)) [] ∈ rows := fun x => by
    have h1 : min x (rows.length - 1) < rows.length := by omega
    rw [List.getD_eq_getElem?_getD, List.getElem?_eq_getElem h1]
    exact List.getElem_mem h1
  have T := tw_row ord down (fun x => rows.getD (min x (rows.length - 1)) []) m (fun x => hE.len _ (hmem x)) (fun x => hE.good _ (hmem x))
  have hrow : rows = (List.range rows.length).map fun x => rows.getD (min x (rows.length - 1)) [] := by
    refine List.ext_getElem (by simp) fun j h1 h2 => ?_
    simp only [List.getElem_map, List.getElem_range]
    have h3 : min j (rows.length - 1) = j := by omega
    rw [h3, List.getD_eq_getElem?_getD, List.getElem?_eq_getElem h1]; rfl
  have hs : isort (ltR ord down) rows = (isort (ltc fun x y => ordC ord down (rows.getD (min x (rows.length - 1)) []) (rows.getD (min y (rows.length - 1)) [])) (List.range rows.length)).map fun x => rows.getD (min x (rows.length - 1)) [] := by
    have := isort_map (fun x => rows.getD (min x (rows.length - 1)) []) (ltR ord down) (List.range rows.length)
    rw [← hrow] at this
    exact this
  have hp := List.pairwise_iff_getElem.1 (isort_range T.swo rows.length).1 i (i + 1) (by rw [isort_len] at *; simp; omega) (by rw [isort_len] at *; simp; omega) (by omega)
  have e : ∀ (j : Nat) (hj : j < (isort (ltR ord down) rows).length), (isort (ltR ord down) rows)[j] = rows.getD (min ((isort (ltc fun x y => ordC ord down (rows.getD (min x (rows.length - 1)) []) (rows.getD (min y (rows.length - 1)) [])) (List.range rows.length))[j]'(by rw [isort_len] at *; simpa using hj)) (rows.length - 1)) [] := fun j hj => by
    rw [List.getElem_of_eq hs hj]; simp only [List.getElem_map]
  rw [e i (by omega), e (i + 1) h]
  exact ordK_le (bef_le T hp)
theorem pickB_all {ord : Int} {down : Bool} {conds : List Cnd} {rows : List (List V)} : pickB ord down (-1) conds [] rows = isort (ltR ord down) (rows.filter fun r => matchB r conds) := by
  unfold pickB cutB
  rw [if_neg (by omega)]
  have : showB [] = id := by funext r; rfl
  rw [this, List.map_id]
theorem pickB_some {ord : Int} {down : Bool} {conds : List Cnd} {rows : List (List V)} (n : Nat) : pickB ord down (n : Int) conds [] rows = (pickB ord down (-1) conds [] rows).take n := by
  rw [pickB_all]
  unfold pickB cutB
  rw [if_pos (by omega)]
  have : showB [] = id := by funext r; rfl
  rw [this, List.map_id]; rfl
theorem Even.filter {rows : List (List V)} {m : Nat} (h : Even rows m) (p : List V → Bool) : Even (rows.filter p) m :=
  ⟨fun r hr => h.len r (List.mem_filter.1 hr).1, fun r hr => h.good r (List.mem_filter.1 hr).1, fun r hr => h.size r (List.mem_filter.1 hr).1, h.small⟩

theorem rem70 (l0 : Int) : ∃ ln : Nat, wrap64 ((IntKind.u64.wrap l0).tmod 70) = (ln : Int) ∧ ln < 70 := by
  have e : IntKind.u64.wrap l0 = l0 % 18446744073709551616 := by simp [IntKind.wrap, IntKind.bits, IntKind.signed]
  have h0 : 0 ≤ IntKind.u64.wrap l0 := by rw [e]; omega
  have h1 : (IntKind.u64.wrap l0).tmod 70 = IntKind.u64.wrap l0 % 70 := Int.tmod_eq_emod_of_nonneg h0
  refine ⟨(IntKind.u64.wrap l0 % 70).toNat, ?_, by omega⟩
  rw [h1]
  unfold wrap64
  omega

set_option maxRecDepth 100000 in
set_option maxHeartbeats 2000000 in
theorem limits_any (t : Int) (cv lv rv : Value) (conds : List Cnd) (cs : List Int) (ord : Int) (down : Bool) (lim l0 : Int) (R : List Rr) (w : World) (hcv : Sl Cnd.cells 5 w cv conds) (hlv : Sl iCells 1 w lv cs) (hrv : Sl Rr.cells 1 w rv R) (hL : Lies w R) (hcs : ∀ x ∈ conds, x.v.s.size ≤ maxLen) (hs : ∀ p ∈ R, ∀ x ∈ p.row, x.s.size ≤ maxLen) :
    Calls Try.prog 8 #[.agg #[.int .i64 t, cv, lv, .int .i64 ord, .bool down, .int .i64 lim], rv, .int .i64 l0] w fun e w' => e = .returned (.bool true) ∧ Below w.heap.size w w' := by
  obtain ⟨Ac, cc, rfl⟩ := Sl.len' hcv
  obtain ⟨Al, cl, rfl⟩ := Sl.len' hlv
  obtain ⟨Ar, cr, rfl⟩ := Sl.len' hrv
  have HCV := Lib.hid hcv
  have HLV := Lib.hid hlv
  have HRV := Lib.hid hrv
  have HL := Lib.hid hL
  have HCS := Lib.hid hcs
  have HS := Lib.hid hs
  clear hcv hlv hrv hL hcs hs
  obtain ⟨ln, hln, hln70⟩ := rem70 l0
  go_enter Try.func8, Try.ntmps8
  go_wp2_with fail
  refine (awake20_any _).mono ?_
  rintro e w1 ⟨rfl, hb⟩
  have HQ := Lib.hid (blk_keep (blk_new (w0 := w) (g := w.heap.size) rfl) hb)
  have HB := Lib.hid (((Below.refl w.heap.size w).alloc (Nat.le_refl _) _).trans (hb.mono (by simp)))
  clear hb
  have hq := blk_cell HQ.out
  have hql := blk_lt HQ.out
  go_wp2_with fail
  refine (great_any t _ _ conds cs ord down lim _ (HCV.out.keep HB.out) (HLV.out.keep HB.out)).mono ?_
  rintro e w2 ⟨⟨b, rfl, hsm⟩, hb⟩
  have HQ2 := Lib.hid (blk_keep HQ.out hb)
  have HB2 := Lib.hid (HB.out.trans (hb.mono HB.out.size))
  clear hb hq hql HQ HB
  cases b with
  | true =>
    clear hsm
    go_wp2_with fail
    go_ret
    exact ⟨rfl, HB2.out⟩
  | false =>
    have HSM := Lib.hid (hsm rfl)
    clear hsm
    go_wp2_with fail
    refine (even_any _ R _ (HRV.out.keep HB2.out) (HL.out.keep HB2.out) HS.out).mono ?_
    rintro e w3 ⟨⟨b, rfl, hev⟩, hb⟩
    have HQ3 := Lib.hid (blk_keep HQ2.out hb)
    have HB3 := Lib.hid (HB2.out.trans (hb.mono HB2.out.size))
    clear hb HQ2 HB2
    cases b with
    | false =>
      clear hev
      go_wp2_with fail
      go_ret
      exact ⟨rfl, HB3.out⟩
    | true =>
      obtain ⟨h60, m, hm16, hev⟩ := hev rfl
      have HEV := Lib.hid (even_of hm16 hev HS.out)
      have H60 := Lib.hid h60
      clear hev hm16
      have hq := blk_cell HQ3.out
      have hql := blk_lt HQ3.out
      have hqf := blk_frozen HQ3.out
      go_upto_region 7 with fail
      have HQ4 := Lib.hid (show ((w3.setCell ⟨w.heap.size, 2, none⟩ (.slice none 0 0)).setCell ⟨w.heap.size, 5, none⟩ (.int .i64 (-1))).heap[w.heap.size]? = some (.cells #[.int .i64 t, .slice Ac conds.length cc, .slice none 0 0, .int .i64 ord, .bool down, .int .i64 (-1)] 50 (0, 0)) from blk_set (blk_set HQ3.out 2 _) 5 _)
      have HB4 := Lib.hid ((HB3.out.setCell (p := ⟨w.heap.size, 2, none⟩) (Nat.le_refl _) (.slice none 0 0)).setCell (p := ⟨w.heap.size, 5, none⟩) (Nat.le_refl _) (.int .i64 (-1)))
      clear hq hql hqf HQ3 HB3
      generalize (w3.setCell ⟨w.heap.size, 2, none⟩ (.slice none 0 0)).setCell ⟨w.heap.size, 5, none⟩ (.int .i64 (-1)) = w4 at *
      have hq := blk_cell HQ4.out
      have hql := blk_lt HQ4.out
      go_wp2_with fail
      refine (pickC_any t _ _ _ conds [] ord down (-1) R m _ (HCV.out.keep HB4.out) Sl.nil (HRV.out.keep HB4.out) (HL.out.keep HB4.out) HEV.out HCS.out (by have := HSM.out.1; omega) (by simp) (by have := H60.out; omega)).mono ?_
      rintro e w5 ⟨v1, Q1, rfl, hs1, hl1, hq1, hb, ⟨A1, n1, c1, rfl, hn1⟩, hnw, hnq⟩
      obtain ⟨A1', c1', hv1⟩ := Sl.len' hs1
      injection hv1 with e1 e2 e3
      subst e1 e2 e3
      have HQ5 := Lib.hid (blk_keep HQ4.out hb)
      have HB5 := Lib.hid (HB4.out.trans (hb.mono HB4.out.size))
      have HS1 := Lib.hid hs1
      have HL1 := Lib.hid hl1
      have HR1 := Lib.hid hq1
      have HN1 := Lib.hid hn1
      have HNW := Lib.hid (show New w4 _ from hnw)
      have HNQ := Lib.hid hnq
      have HGQ := Lib.hid hql
      clear hb hs1 hl1 hq1 hn1 hnw hnq hq hql HQ4
      have hq := blk_cell HQ5.out
      have hql := blk_lt HQ5.out
      have hqf := blk_frozen HQ5.out
      go_upto_region 10 with fail
      try rw [hln]
      have HQ6 := Lib.hid (show (w5.setCell ⟨w.heap.size, 5, none⟩ (.int .i64 ln)).heap[w.heap.size]? = some (.cells #[.int .i64 t, .slice Ac conds.length cc, .slice none 0 0, .int .i64 ord, .bool down, .int .i64 ln] 50 (0, 0)) from blk_set HQ5.out 5 _)
      have HB6 := Lib.hid (HB5.out.setCell (p := ⟨w.heap.size, 5, none⟩) (Nat.le_refl _) (.int .i64 ln))
      have hgs : w5.grownBy (w5.setCell ⟨w.heap.size, 5, none⟩ (.int .i64 ln)) (Value.slice (some ⟨w.heap.size, 0, none⟩) 0 0).ownBlock := gr_set (gr_refl _ _) 5 _
      have HS1' := Lib.hid (HS1.out.dis hgs (fun g hg => by have := HNW.out g hg; have := HGQ.out; simp [Value.ownBlock]; omega))
      have HL1' := Lib.hid (show Lies _ Q1 from fun p hp => (HL1.out p hp).dis hgs (fun g hg => by have := HNQ.out p hp g hg; have := HGQ.out; simp [Value.ownBlock]; omega))
      clear hq hql hqf HQ5 HB5 hgs HS1 HL1
      generalize w5.setCell ⟨w.heap.size, 5, none⟩ (.int .i64 ln) = w6 at *
      have hq := blk_cell HQ6.out
      have hql := blk_lt HQ6.out
      go_wp2_with fail
      refine (pick_any t _ _ _ conds [] ord down ln R m _ (HCV.out.keep HB6.out) Sl.nil (HRV.out.keep HB6.out) (HL.out.keep HB6.out) HEV.out HCS.out (by have := HSM.out.1; omega) (by simp) (by have := H60.out; omega)).mono ?_
      rintro e w7 ⟨v2, Q2, rfl, hs2, hl2, hq2, hb⟩
      have HQ7 := Lib.hid (blk_keep HQ6.out hb)
      have HB7 := Lib.hid (HB6.out.trans (hb.mono HB6.out.size))
      have HS1 := Lib.hid (HS1'.out.keep hb)
      have HL1 := Lib.hid (HL1'.out.keep hb)
      obtain ⟨A2, c2, rfl⟩ := Sl.len' hs2
      have HS2 := Lib.hid hs2
      have HL2 := Lib.hid hl2
      have HR2 := Lib.hid hq2
      clear hs2 hl2 hq2 hb hq hql HQ6 HB6 HS1' HL1' HNW HNQ HGQ
      have HR1' := Lib.hid (HR1.out.trans pickB_all)
      have HR2' := Lib.hid (show Q2.map Rr.row = (Q1.map Rr.row).take ln by rw [HR2.out, HR1.out, pickB_some])
      have HLN := Lib.hid (show Q2.length = min ln Q1.length by have := congrArg List.length HR2'.out; simpa using this)
      have HL60 := Lib.hid (show Q1.length ≤ 60 by
        have h1 := pickB_len ord down (-1) conds [] (R.map Rr.row)
        rw [← HR1.out] at h1
        simp at h1
        have := H60.out
        omega)
      have hmin : min (ln : Int) (Q1.length : Int) = (Q2.length : Int) := by have := HLN.out; omega
      have hle : (Q2.length : Int) ≤ (c1 : Int) := by have := HLN.out; have := HN1.out; omega
      have HCUT := Lib.hid (HS1.out.cut (Q2.length : Int))
      have HCL := Lib.hid (show (cutB (Q2.length : Int) Q1).length = Q2.length by rw [cutB_len, if_pos (by omega)]; have := HLN.out; omega)
      rw [HCL.out] at HCUT
      have HCR := Lib.hid (show Q2.map Rr.row = (cutB (Q2.length : Int) Q1).map Rr.row by
        rw [HR2'.out]
        unfold cutB
        rw [if_pos (by omega), List.map_take, HLN.out]
        show _ = (Q1.map Rr.row).take (min ln Q1.length)
        rw [List.take_eq_take_iff]; simp)
      have HCROWS := Lib.hid (rows20_any _ _ Q2 _ w7 HS2.out HCUT.out HL2.out (fun p hp => HL1.out p (cutB_mem hp)) HCR.out (by have := HLN.out; have := HL60.out; omega) (fun p hp => by
        have h1 : p.row ∈ pickB ord down (ln : Int) conds [] (R.map Rr.row) := by rw [← HR2.out]; exact List.mem_map.2 ⟨p, hp, rfl⟩
        exact pickB_small HEV.out (by simp) _ h1))
      have HQE := Lib.hid (show Even (Q1.map Rr.row) m from by
        have hm : ∀ r ∈ Q1.map Rr.row, r ∈ R.map Rr.row := fun r hr => by
          rw [HR1'.out] at hr
          exact (List.mem_filter.1 (isort_mem _ r hr)).1
        exact ⟨fun r hr => HEV.out.len r (hm r hr), fun r hr => HEV.out.good r (hm r hr), fun r hr => HEV.out.size r (hm r hr), HEV.out.small⟩)
      have HORD := Lib.hid (show ∀ (i : Nat) (h : i + 1 < Q1.length), ordK ord down (Q1[i]'(by omega)).row Q1[i + 1].row ≤ 0 from fun i h => by
        have hl : i + 1 < (isort (ltR ord down) ((R.map Rr.row).filter fun r => matchB r conds)).length := by rw [← HR1'.out]; simpa using h
        have := isort_ordK (HEV.out.filter fun r => matchB r conds) hl
        rw [List.getElem_of_eq HR1'.out.symm, List.getElem_of_eq HR1'.out.symm] at this
        simpa using this)
      have HCNT := Lib.hid (show (R.filter (mine conds)).length = Q1.length by
        have h1 := congrArg List.length HR1'.out
        rw [isort_len, ← mineR_map] at h1
        simp at h1
        exact h1.symm)
      clear HCUT
      go_wp2_with fail
      refine HCROWS.out.mono ?_
      rintro e w8 ⟨rfl, hb⟩
      have HQ8 := Lib.hid (blk_keep HQ7.out hb)
      have HB8 := Lib.hid (HB7.out.trans (hb.mono HB7.out.size))
      have HS8 := Lib.hid (HS1.out.keep hb)
      have HL8 := Lib.hid (HL1.out.keep hb)
      clear hb HCROWS HQ7 HB7 HS1 HL1 HS2 HL2 HR2 HR2' HCR HCL hmin hle hln
      go_wp2_with fail
      have hr60 := H60.out
      go_loopw [9, 10] (fun nv i wr => ∃ k : Nat, k ≤ R.length ∧ i = .int .i64 k ∧ nv = .int .i64 ((R.take k).filter (mine conds)).length ∧ Below w8.heap.size w8 wr) (fun _ i _ => R.length - (intOf i).toNat)
      case atStart => exact ⟨0, Nat.zero_le _, rfl, rfl, Below.refl _ _⟩
      case round =>
        obtain ⟨k, hk, rfl, rfl, hb⟩ := hrel
        have HBK := Lib.hid hb
        have HBW := Lib.hid (HB8.out.trans (hb.mono HB8.out.size))
        have HQ9 := Lib.hid (blk_keep HQ8.out hb)
        have HS9 := Lib.hid (HS8.out.keep hb)
        have HL9 := Lib.hid (HL8.out.keep hb)
        have hql := blk_lt HQ9.out
        clear hb
        have uq : ∀ (y : Up wr) (o : Nat), y.w.cell? ⟨w.heap.size, o, none⟩ = (#[.int .i64 t, .slice Ac conds.length cc, .slice none 0 0, .int .i64 ord, .bool down, .int .i64 ln] : Array Value)[o]? := fun y o => (y.cell _ _ hql).trans (blk_cell HQ9.out o)
        by_cases hkl : k < R.length
        · rcases (HRV.out.keep HBW.out).cases with ⟨A, c, he, hnil⟩ | ⟨b, off, c, he, -, hbl, hsl'⟩
          · rw [hnil] at hkl; simp at hkl
          injection he with he1 he2 he3
          subst he1 he3
          obtain ⟨-, hcells⟩ := hsl'.cells hkl
          have e0 : wr.cell? ⟨b, off + k, none⟩ = some R[k].hd := by
            have := hcells 0 _ rfl
            simp only [Nat.mul_one, Nat.add_zero] at this
            exact this
          have hmem := List.getElem_mem hkl
          have HP := Lib.hid ((HL.out _ hmem).keep HBW.out)
          have HPS := Lib.hid (HS.out _ hmem)
          have HPL := Lib.hid (show R[k].row.length ≤ 1000000 by rw [HEV.out.len _ (List.mem_map.2 ⟨_, hmem, rfl⟩)]; exact HEV.out.small)
          have HC1 := Lib.hid (show conds.length ≤ 1073741824 by have := HSM.out.1; omega)
          have HY := Lib.hid (mineR_yes (conds := conds) hkl)
          have HN := Lib.hid (mineR_no (conds := conds) hkl)
          have HLM := mineR_len R conds k
          have hk0 : (0 : Int) ≤ (k : Int) := by omega
          have hk1 : (k : Int) < (R.length : Int) := by omega
          clear hcells hsl' hmem
          generalize R[k] = p at *
          obtain ⟨pa, pc, pr⟩ := p
          simp only [Rr.hd] at e0 HP
          simp only at HPL HPS HY HN
          have u0 := up_at e0 hbl
          clear e0
          have HM1 := Lib.hid (fun (y : Up wr) => match_any _ _ pr conds y.w (HP.out.keep y.h) (HCV.out.keep (HBW.out.trans (y.h.mono HBW.out.size))) HPS.out HCS.out HC1.out (by have := HPL.out; omega))
          generalize hmb : matchB pr conds = mb at *
          have HMB := Lib.hid hmb
          clear hmb
          cases mb
          · have HX := Lib.hid (HN.out rfl)
            go_wp2_with fail
            refine wp_region_up (by kernel_rfl) (by kernel_rfl) ?_
            repeat (go_big_quiet_step (first
              | (go_at_call 35; exact up_call (HM1.out _))))
            refine wpQuiet_nil ?_
            rintro w' ⟨⟨w2, hb2⟩, rfl⟩
            have HBK2 := Lib.hid (HBK.out.trans (hb2.mono HBK.out.size))
            clear hb2 u0 uq
            go_wp2_with fail
            go_roundw
            case rel => exact ⟨k + 1, by omega, by go_num, by rw [HX.out], HBK2.out⟩
            case measure => simp [intOf]; omega
          · have HX := Lib.hid (HY.out rfl)
            go_wp2_with fail
            refine wp_region_up (by kernel_rfl) (by kernel_rfl) ?_
            repeat (go_big_quiet_step (first
              | (go_at_call 35; exact up_call (HM1.out _))))
            refine wpQuiet_nil ?_
            rintro w' ⟨⟨w2, hb2⟩, rfl⟩
            have HBK2 := Lib.hid (HBK.out.trans (hb2.mono HBK.out.size))
            clear hb2 u0 uq
            go_wp2_with fail
            go_roundw
            case rel => exact ⟨k + 1, by omega, by go_num, by rw [HX.out, List.length_append]; go_num, HBK2.out⟩
            case measure => simp [intOf]; omega
        · have hke : k = R.length := by omega
          subst hke
          have HCN := Lib.hid (show ((R.take R.length).filter (mine conds)).length = Q1.length by rw [List.take_length]; exact HCNT.out)
          clear uq hql HS8 HL8 HQ8
          rw [HCN.out]
          obtain ⟨wo, hwo⟩ : ∃ wo : World, wo = wr := ⟨_, rfl⟩
          subst hwo
          go_wp2_with fail
          have hq60 := HL60.out
          go_loopw [11] (fun i wr2 => ∃ j : Nat, 1 ≤ j ∧ (j ≤ Q1.length ∨ j = 1) ∧ i = .int .i64 j ∧ Below wo.heap.size wo wr2) (fun i _ => Q1.length - (intOf i).toNat)
          case atStart => exact ⟨1, Nat.le_refl _, .inr rfl, rfl, Below.refl _ _⟩
          case round =>
            obtain ⟨j, hj1, hj2, rfl, hb⟩ := hrel
            have HB2 := Lib.hid hb
            have HBW2 := Lib.hid (HBW.out.trans (hb.mono HBW.out.size))
            have HQ10 := Lib.hid (blk_keep HQ9.out hb)
            have HS10 := Lib.hid (HS9.out.keep hb)
            have HL10 := Lib.hid (HL9.out.keep hb)
            have HJ := Lib.hid hj2
            clear hb hj2
            by_cases hjl : j < Q1.length
            rotate_left
            · have HJE := HJ
              go_wp2_with fail
              go_ret
              exact ⟨rfl, HBW2.out⟩
            obtain ⟨i, rfl⟩ : ∃ i : Nat, j = i + 1 := ⟨j - 1, by omega⟩
            have hil : i < Q1.length := by omega
            have hql := blk_lt HQ10.out
            have uq : ∀ (y : Up wr) (o : Nat), y.w.cell? ⟨w.heap.size, o, none⟩ = (#[.int .i64 t, .slice Ac conds.length cc, .slice none 0 0, .int .i64 ord, .bool down, .int .i64 ln] : Array Value)[o]? := fun y o => (y.cell _ _ hql).trans (blk_cell HQ10.out o)
            rcases HS10.out.cases with ⟨A, c, he, hnil⟩ | ⟨b1, o1, c, he, -, hb1, hs1⟩
            · rw [hnil] at hjl; simp at hjl
            injection he with he1 he2 he3
            subst he1 he3
            obtain ⟨-, ea⟩ := hs1.cells hil
            obtain ⟨-, eb⟩ := hs1.cells hjl
            have e0 : wr.cell? ⟨b1, o1 + i, none⟩ = some Q1[i].hd := by
              have := ea 0 _ rfl
              simp only [Nat.mul_one, Nat.add_zero] at this
              exact this
            have e1 : wr.cell? ⟨b1, o1 + (i + 1), none⟩ = some Q1[i + 1].hd := by
              have := eb 0 _ rfl
              simp only [Nat.mul_one, Nat.add_zero] at this
              exact this
            have HPA := Lib.hid (HL10.out _ (List.getElem_mem hil))
            have HPB := Lib.hid (HL10.out _ (List.getElem_mem hjl))
            have HMA := Lib.hid (HQE.out.len _ (List.mem_map.2 ⟨_, List.getElem_mem hil, rfl⟩))
            have HMB := Lib.hid (HQE.out.len _ (List.mem_map.2 ⟨_, List.getElem_mem hjl, rfl⟩))
            have HSA := Lib.hid (HQE.out.size _ (List.mem_map.2 ⟨_, List.getElem_mem hil, rfl⟩))
            have HSB := Lib.hid (HQE.out.size _ (List.mem_map.2 ⟨_, List.getElem_mem hjl, rfl⟩))
            have HOK := Lib.hid (HORD.out i hjl)
            clear ea eb hs1
            generalize Q1[i] = pa at *
            generalize Q1[i + 1] = pb at *
            obtain ⟨aa, ac, ar⟩ := pa
            obtain ⟨ba, bc, br⟩ := pb
            simp only [Rr.hd] at e0 e1 HPA HPB
            simp only at HMA HMB HSA HSB HOK
            have HAB := Lib.hid (show br.length = ar.length by rw [HMA.out, HMB.out])
            have u0 := up_at e0 hb1
            have u1 := up_at e1 hb1
            have HE0 := Lib.hid e0
            have HE1 := Lib.hid e1
            clear e0 e1
            have hi0 : (0 : Int) ≤ (i : Int) := by omega
            have hi1 : (i : Int) < (Q1.length : Int) := by omega
            have hi2 : (0 : Int) ≤ (i : Int) + 1 := by omega
            have hi3 : (i : Int) + 1 < (Q1.length : Int) := by omega
            have hi4 : ((i : Int) + 1).toNat = i + 1 := by omega
            have hw4 : IntKind.i64.wrap ((i : Int)) = (i : Int) := by rw [IntKind.wrap_i64]; omega
            by_cases hn1 : 1 ≤ ord
            rotate_left
            · have hdn : decide (ord ≥ 1) = false := decide_eq_false (by omega)
              go_wp2_with fail
              refine wp_region_up (by kernel_rfl) (by kernel_rfl) ?_
              repeat (go_big_quiet_step (fail))
              refine wpQuiet_nil ?_
              rintro w'' ⟨⟨w2, hb2⟩, rfl⟩
              have HB3 := Lib.hid (HB2.out.trans (hb2.mono HB2.out.size))
              clear hb2 u0 u1 uq
              go_wp2_with fail
              go_roundw
              case rel => exact ⟨i + 1 + 1, by omega, .inl (by omega), by go_num, HB3.out⟩
              case measure => simp [intOf]; omega
            have hdn : decide (ord ≥ 1) = true := decide_eq_true (by omega)
            by_cases hn2 : ord ≤ br.length
            rotate_left
            · have hdn2 : decide (ord ≤ (br.length : Int)) = false := decide_eq_false (by omega)
              go_wp2_with fail
              refine wp_region_up (by kernel_rfl) (by kernel_rfl) ?_
              repeat (go_big_quiet_step (fail))
              refine wpQuiet_nil ?_
              rintro w'' ⟨⟨w2, hb2⟩, rfl⟩
              have HB3 := Lib.hid (HB2.out.trans (hb2.mono HB2.out.size))
              clear hb2 u0 u1 uq
              go_wp2_with fail
              go_roundw
              case rel => exact ⟨i + 1 + 1, by omega, .inl (by omega), by go_num, HB3.out⟩
              case measure => simp [intOf]; omega
            have hdn2 : decide (ord ≤ (br.length : Int)) = true := decide_eq_true (by omega)
            go_wp2_with fail
            refine wp_region_up (by kernel_rfl) (by kernel_rfl) ?_
            repeat (go_big_quiet_step (fail))
            refine wpQuiet_nil ?_
            rintro w'' ⟨⟨w2, hb2⟩, rfl⟩
            have HB3 := Lib.hid (HB2.out.trans (hb2.mono HB2.out.size))
            have HQ11 := Lib.hid (blk_keep HQ10.out hb2)
            have HPA2 := Lib.hid (HPA.out.keep hb2)
            have HPB2 := Lib.hid (HPB.out.keep hb2)
            have HF0 := Lib.hid ((hb2.cell (p := ⟨b1, o1 + i, none⟩) hb1).trans HE0.out)
            have HF1 := Lib.hid ((hb2.cell (p := ⟨b1, o1 + (i + 1), none⟩) hb1).trans HE1.out)
            have hb1' := Nat.lt_of_lt_of_le hb1 hb2.size
            clear hb2 u0 u1 uq hdn hdn2 HB2 HPA HPB hql
            obtain ⟨jo, rfl⟩ : ∃ jo : Nat, ord = (jo : Int) + 1 := ⟨(ord - 1).toNat, by omega⟩
            have hjb : jo < br.length := by omega
            have hja : jo < ar.length := by have := HAB.out; omega
            have HK := Lib.hid (show ordK ((jo : Int) + 1) down ar br = if down = true then -cmpVV (ar.getD jo vZero) (br.getD jo vZero) else cmpVV (ar.getD jo vZero) (br.getD jo vZero) by
              unfold ordK; rw [if_pos (show inC ((jo : Int) + 1) ar = true from decide_eq_true (by omega))]; rw [show ((jo : Int) + 1 - 1).toNat = jo by omega])
            rcases HPA2.out.cases with ⟨A', c', he, hnil⟩ | ⟨bx, ox, c', he, -, hbx, hsx⟩
            · rw [hnil] at hja; simp at hja
            injection he with he1 he2 he3
            subst he1 he3
            rcases HPB2.out.cases with ⟨A', c', he, hnil⟩ | ⟨bz, oz, c', he, -, hbz, hsz⟩
            · rw [hnil] at hjb; simp at hjb
            injection he with he1 he2 he3
            subst he1 he3
            obtain ⟨-, ex⟩ := hsx.cells hja
            obtain ⟨-, ez⟩ := hsz.cells hjb
            obtain ⟨ex0, ex1, ex2⟩ := V.row ex
            obtain ⟨ez0, ez1, ez2⟩ := V.row ez
            have hxs := HSA.out _ (List.getElem_mem hja)
            have hzs := HSB.out _ (List.getElem_mem hjb)
            have ga : ar.getD jo vZero = ar[jo] := by simp [hja]
            have gb : br.getD jo vZero = br[jo] := by simp [hjb]
            rw [ga, gb] at HK
            clear ex ez ga gb hsx hsz
            generalize ar[jo] = x at *
            generalize br[jo] = z at *
            obtain ⟨xk, xn, xs⟩ := x
            obtain ⟨zk, zn, zs⟩ := z
            simp only at ex0 ex1 ex2 ez0 ez1 ez2 hxs hzs
            have ux0 := up_at ex0 hbx
            have ux1 := up_at ex1 hbx
            have ux2 := up_at ex2 hbx
            have uz0 := up_at ez0 hbz
            have uz1 := up_at ez1 hbz
            have uz2 := up_at ez2 hbz
            have u0 := up_at HF0.out hb1'
            have u1 := up_at HF1.out hb1'
            have hql := blk_lt HQ11.out
            have uq : ∀ (y : Up w'') (o : Nat), y.w.cell? ⟨w.heap.size, o, none⟩ = (#[.int .i64 t, .slice Ac conds.length cc, .slice none 0 0, .int .i64 ((jo : Int) + 1), .bool down, .int .i64 ln] : Array Value)[o]? := fun y o => (y.cell _ _ hql).trans (blk_cell HQ11.out o)
            have hco : cmpV xk xn xs zk zn zs = cmpVV ⟨xk, xn, xs⟩ ⟨zk, zn, zs⟩ := rfl
            have HCO := Lib.hid hco
            have HOK2 := Lib.hid (HK.out ▸ HOK.out)
            generalize cmpVV ⟨xk, xn, xs⟩ ⟨zk, zn, zs⟩ = cc0 at *
            clear hco ex0 ex1 ex2 ez0 ez1 ez2
            have hj0 : (0 : Int) ≤ (jo : Int) := by omega
            have hjx : (jo : Int) < (ar.length : Int) := by omega
            have hjz : (jo : Int) < (br.length : Int) := by omega
            have hwj : IntKind.i64.wrap (jo : Int) = (jo : Int) := by rw [IntKind.wrap_i64]; have := HMB.out; have := HQE.out.small; omega
            go_wp2_with fail
            refine wp_region_up (by kernel_rfl) (by kernel_rfl) ?_
            repeat (go_big_quiet_step (first
              | (go_at_call 40; exact up_call (compare_any _ _ _ _ _ _ _ hxs hzs))))
            refine wpQuiet_nil ?_
            rintro wz ⟨⟨w2, hb2⟩, rfl⟩
            rw [HCO.out]
            have HB5 := Lib.hid (HB3.out.trans (hb2.mono HB3.out.size))
            have q4 : wz.cell? ⟨w.heap.size, 4, none⟩ = some (.bool down) := blk_cell (blk_keep HQ11.out hb2) 4
            have hql2 := blk_lt (blk_keep HQ11.out hb2)
            clear hb2 ux0 ux1 ux2 uz0 uz1 uz2 u0 u1 uq hql
            cases down with
            | false =>
              have hc : cc0 ≤ 0 := HOK2.out
              have hd1 : decide (cc0 > 0) = false := decide_eq_false (by omega)
              clear hw4 hwj hi2 hi4
              go_wp2_with fail
              go_roundw
              case rel => exact ⟨i + 1 + 1, by omega, .inl (by omega), by go_num, HB5.out⟩
              case measure => simp [intOf]; omega
            | true =>
              have hc : 0 ≤ cc0 := by have h : -cc0 ≤ 0 := HOK2.out; omega
              have hd1 : decide (cc0 < 0) = false := decide_eq_false (by omega)
              clear hw4 hwj hi2 hi4
              go_wp2_with fail
              go_roundw
              case rel => exact ⟨i + 1 + 1, by omega, .inl (by omega), by go_num, HB5.out⟩
              case measure => simp [intOf]; omega
end Go.Proofs.Ytlhmencjhhpacaa
