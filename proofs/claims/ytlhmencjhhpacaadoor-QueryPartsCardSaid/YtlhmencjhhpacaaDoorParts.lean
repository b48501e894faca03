/- cahierlaw20.QueryParts (UNDER WAY: does not build yet). -/
import Derived.Test.YtlhmencjhhpacaaDoorAwake20
import Derived.Test.YtlhmencjhhpacaaDoorEven
import Derived.Test.YtlhmencjhhpacaaDoorKey
import Derived.Test.YtlhmencjhhpacaaDoorPartsLaw
import Derived.Deep.RegionHeld3
import Derived.Deep.RegionWith
namespace Go.Proofs.YtlhmencjhhpacaaDoor
open Go.RowKit

theorem elC : ElemT Tryd.prog 23 27 Cnd.cells 5 48 :=
  ElemT.mk' (z := .agg #[.int .i64 0, .int .i64 0, .int .i64 0, .int .i64 0, .string ⟨#[]⟩]) Tryd.underlying23 (by kernel_rfl) (by rfl) (by omega) Cnd.len (by intro x u hu; simp [Cnd.cells] at hu; rcases hu with rfl | rfl | rfl | rfl | rfl <;> rfl)

theorem below_drewN {B : Nat} {a w : World} (n : Nat) (h : Below B a w) : Below B a (w.drewN n) := ⟨h.os, h.tape, h.output, h.size, h.block⟩

set_option maxRecDepth 100000 in
set_option maxHeartbeats 2000000 in
theorem parts_any (rv cv : Value) (R : List Rr) (conds : List Cnd) (c : Cnd) (w : World) (hrv : Sl Rr.cells 1 w rv R) (hL : Lies w R) (hs : ∀ p ∈ R, ∀ x ∈ p.row, x.s.size ≤ maxLen)
    (hcv : Sl Cnd.cells 5 w cv conds) (hcs : ∀ x ∈ conds, x.v.s.size ≤ maxLen) (hc0 : c.v.s.size ≤ maxLen) (hm : ∃ m, w.cell? ⟨0, 0, none⟩ = some (.int .i64 m)) :
    Calls Tryd.prog 3 #[rv, cv, .agg #[.int .i64 c.col, .int .i64 c.op, .int .i64 c.v.k, .int .i64 c.v.n, .string c.v.s]] w fun e w' => e = .returned (.bool true) ∧ Below w.heap.size w w' := by
  obtain ⟨Ar, cr, rfl⟩ := Sl.len' hrv
  obtain ⟨Ac, cc, rfl⟩ := Sl.len' hcv
  obtain ⟨mm, hm⟩ := hm
  have HR := Lib.hid hrv
  have HL := Lib.hid hL
  have HS := Lib.hid hs
  have HC := Lib.hid hcv
  have HCS := Lib.hid hcs
  have HM := Lib.hid hm
  have HC0 := Lib.hid hc0
  clear hrv hL hs hcv hcs hm hc0
  obtain ⟨col, op, ⟨vk, vn, vs⟩⟩ := c
  go_enter Tryd.func3, Tryd.ntmps3
  go_wp2_with fail
  refine (awake20_any _).mono ?_
  rintro e w1 ⟨rfl, hb1⟩
  have hbx := blk_keep (blk_new (w0 := w) rfl) hb1
  have HB1 := Lib.hid (((Below.refl _ w).alloc (Nat.le_refl _) _).trans (hb1.mono (by simp)))
  have HBX := Lib.hid hbx
  clear hb1
  by_cases h20 : (20 : Int) < conds.length
  · go_wp2_with fail
    go_ret
    exact ⟨rfl, HB1.out⟩
  have hd20 : decide ((20 : Int) < conds.length) = false := decide_eq_false h20
  go_wp2_with fail
  refine (even_any _ R w1 (HR.out.keep HB1.out) (fun p hp => (HL.out p hp).keep HB1.out) HS.out).mono ?_
  rintro e w2 ⟨⟨b, rfl, hev⟩, hb2⟩
  have HB2 := Lib.hid (HB1.out.trans (hb2.mono HB1.out.size))
  have HBX2 := Lib.hid (blk_keep HBX.out hb2)
  clear hb2 hbx
  cases b
  · go_wp2_with fail
    go_ret
    exact ⟨rfl, HB2.out⟩
  have HEV := Lib.hid (hev rfl)
  have hl := blk_lt HBX2.out
  have x2 := blk_cell HBX2.out 2
  have x3 := blk_cell HBX2.out 3
  have x4 := blk_cell HBX2.out 4
  have HM2 := Lib.hid ((HB2.out.cell (p := ⟨0, 0, none⟩) (World.block_lt_of_cell? w _ HM.out)).trans HM.out)
  clear hev HB1
  go_wp2_with fail
  refine (key_any vk vn vs w2 HC0.out ⟨mm, HM2.out⟩).mono ?_
  rintro e w3 ⟨⟨r, rfl, hr⟩, hb3⟩
  have HB3 := Lib.hid (HB2.out.trans (hb3.mono HB2.out.size))
  have HBX3 := Lib.hid (blk_keep HBX2.out hb3)
  clear hb3 x2 x3 x4 hl hr
  have hl := blk_lt HBX3.out
  have x2 := blk_cell HBX3.out 2
  by_cases hre : r = ⟨#[]⟩
  · subst hre
    go_wp2_with fail
    go_ret
    exact ⟨rfl, HB3.out⟩
  have hr1 : ¬ r.toList = [] := fun h => hre (by
    rw [ByteArray.toList_eq] at h
    rcases r with ⟨⟨l⟩⟩
    simp only at h
    rw [h])
  have hr2 : (r.toList == []) = false := by simpa using hr1
  rcases Bool.eq_false_or_eq_true (vk == 0) with hk | hk
  · go_wp2_with fail
    go_ret
    exact ⟨rfl, HB3.out⟩
  go_wp2_with fail
  have HOP := Lib.hid (blk_new (w0 := w3) (g := w3.heap.size) (o := .cells #[.int .i64 4, .int .i64 5, .int .i64 7] 3) rfl)
  have HB4 := Lib.hid (HB3.out.trans (((Below.refl _ w3).alloc (Nat.le_refl _) (.cells #[.int .i64 4, .int .i64 5, .int .i64 7] 3)).mono HB3.out.size))
  have HBX4 := Lib.hid (blk_alloc HBX3.out (.cells #[.int .i64 4, .int .i64 5, .int .i64 7] 3))
  have HK := Lib.hid (show vk ≠ 0 by simpa using hk)
  have H20 := Lib.hid (show conds.length ≤ 20 by omega)
  have H60 := Lib.hid HEV.out.1
  clear hl x2 HB3 HBX3 HB2 HBX2 hr1 hr2 hk hre hd20 h20
  generalize w3.alloc (.cells #[.int .i64 4, .int .i64 5, .int .i64 7] 3) = w4 at *
  generalize w3.heap.size = g3 at *
  have h60 := H60.out
  go_loopw [8] (fun i wr => ∃ k : Nat, k ≤ R.length ∧ i = .int .i64 k ∧ Below w4.heap.size w4 wr) (fun i _ => R.length - (intOf i).toNat)
  case atStart => exact ⟨0, Nat.zero_le _, rfl, Below.refl _ _⟩
  case round =>
    obtain ⟨k, hk, rfl, hw⟩ := hrel
    obtain ⟨wo, hwo⟩ : ∃ wo : World, wo = wr := ⟨_, rfl⟩
    subst hwo
    have HW := Lib.hid (HB4.out.trans (hw.mono HB4.out.size))
    have HW4 := Lib.hid hw
    clear hw
    by_cases hkl : k < R.length
    rotate_left
    · go_wp2_with fail
      go_ret
      exact ⟨rfl, HW.out⟩
    rcases (HR.out.keep HW.out).cases with ⟨A, c, he, hnil⟩ | ⟨b, off, c, he, -, hbl, hsl'⟩
    · rw [hnil] at hkl; simp at hkl
    injection he with he1 he2 he3
    subst he1 he3
    obtain ⟨-, hcells⟩ := hsl'.cells hkl
    have e0 : wo.cell? ⟨b, off + k, none⟩ = some R[k].hd := by
      have := hcells 0 _ rfl
      simp only [Nat.mul_one, Nat.add_zero] at this
      exact this
    have hmem := List.getElem_mem hkl
    have HP := Lib.hid ((HL.out _ hmem).keep HW.out)
    have HPS := Lib.hid (HS.out _ hmem)
    have HPL := Lib.hid (show R[k].row.length ≤ 16 by obtain ⟨m, hm, hh⟩ := HEV.out.2; have := (hh _ hmem).1; omega)
    have hk0 : (0 : Int) ≤ (k : Int) := by omega
    have hk1 : (k : Int) < (R.length : Int) := by omega
    clear hcells hsl' hmem
    generalize R[k] = p at *
    obtain ⟨pa, pc, pr⟩ := p
    simp only [Rr.hd] at e0 HP
    simp only at HPL HPS
    have HE0 := Lib.hid e0
    have HBL := Lib.hid hbl
    clear e0
    go_wp2_with fail
    go_loopw [9, 10] (fun nv i wr => ∃ j : Nat, j ≤ 3 ∧ nv = .int .i64 (partsN pr conds col ⟨vk, vn, vs⟩ j) ∧ i = .int .i64 j ∧ Below wo.heap.size wo wr) (fun _ i _ => 3 - (intOf i).toNat)
    case atStart => exact ⟨0, Nat.zero_le _, by rw [partsN_zero], rfl, Below.refl _ _⟩
    case round =>
      obtain ⟨j, hj, rfl, rfl, hw⟩ := hrel
      have HWI := Lib.hid hw
      have HW2 := Lib.hid (HW.out.trans (hw.mono HW.out.size))
      have HW5 := Lib.hid (HW4.out.trans (hw.mono HW4.out.size))
      have hbl := Nat.lt_of_lt_of_le HBL.out hw.size
      have e0 := (hw.cell (p := ⟨b, off + k, none⟩) HBL.out).trans HE0.out
      clear hw
      have HOP2 := Lib.hid (blk_keep HOP.out HW5.out)
      have HBX5 := Lib.hid (blk_keep HBX4.out HW5.out)
      have hl1 := blk_lt HOP2.out
      have hl2 := blk_lt HBX5.out
      have x0 := blk_cell HBX5.out 0
      by_cases hj3 : j < 3
      rotate_left
      · obtain rfl : j = 3 := by omega
        have HLW := Lib.hid (parts_law pr conds col ⟨vk, vn, vs⟩ HK.out)
        generalize partsN pr conds col ⟨vk, vn, vs⟩ 3 = n3 at *
        have HMQ := Lib.hid (show ∀ wn, Below wr.heap.size wr wn → Calls Tryd.prog 7 #[.slice pa pr.length pc, .slice Ac conds.length cc] wn fun e w' => e = .returned (.bool (matchB pr conds)) ∧ Below wn.heap.size wn w' from
          fun wn h => match_any _ _ pr _ wn (HP.out.keep (HWI.out.trans (h.mono HWI.out.size))) (HC.out.keep (HW2.out.trans (h.mono HW2.out.size))) HPS.out HCS.out (by have := H20.out; omega) (by have := HPL.out; omega))
        generalize matchB pr conds = mm2 at *
        by_cases hc1 : (1 : Int) ≤ col
        rotate_left
        · have hd1 : decide ((1 : Int) ≤ col) = false := decide_eq_false hc1
          obtain rfl : n3 = 0 := by rw [HLW.out, hd1]; simp
          clear hc1
          go_wp2_with fail
          go_quiet (fail)
          go_wp2_with fail
          go_roundw
          case rel => exact ⟨k + 1, by omega, by go_num, below_drewN _ HW5.out⟩
          case measure => simp [intOf]; omega
        have hd1 : decide ((1 : Int) ≤ col) = true := decide_eq_true hc1
        by_cases hc2 : col ≤ (pr.length : Int)
        rotate_left
        · have hd2 : decide (col ≤ (pr.length : Int)) = false := decide_eq_false hc2
          obtain rfl : n3 = 0 := by rw [HLW.out, hd2]; simp
          clear hc2
          go_wp2_with fail
          go_quiet (fail)
          go_wp2_with fail
          go_roundw
          case rel => exact ⟨k + 1, by omega, by go_num, below_drewN _ HW5.out⟩
          case measure => simp [intOf]; omega
        have hd2 : decide (col ≤ (pr.length : Int)) = true := decide_eq_true hc2
        cases mm2
        · obtain rfl : n3 = 0 := by rw [HLW.out]; simp
          clear hc1 hc2
          go_wp2_with fail
          go_quiet (fail)
          go_wp2_with fail
          refine (HMQ.out _ (below_drewN _ (Below.refl _ _))).mono ?_
          rintro e w6 ⟨rfl, hb⟩
          have HB6 := Lib.hid (HW5.out.trans ((below_drewN _ (Below.refl _ _)).trans (hb.mono HW5.out.size)))
          clear hb
          go_wp2_with fail
          go_roundw
          case rel => exact ⟨k + 1, by omega, by go_num, HB6.out⟩
          case measure => simp [intOf]; omega
        · obtain rfl : n3 = 1 := by rw [HLW.out, hd1, hd2]; simp
          clear hc1 hc2
          go_wp2_with fail
          go_quiet (fail)
          go_wp2_with fail
          refine (HMQ.out _ (below_drewN _ (Below.refl _ _))).mono ?_
          rintro e w6 ⟨rfl, hb⟩
          have HB6 := Lib.hid (HW5.out.trans ((below_drewN _ (Below.refl _ _)).trans (hb.mono HW5.out.size)))
          clear hb
          go_wp2_with fail
          go_roundw
          case rel => exact ⟨k + 1, by omega, by go_num, HB6.out⟩
          case measure => simp [intOf]; omega
      have HN := Lib.hid (partsN_succ pr conds col ⟨vk, vn, vs⟩ (k := j) hj3)
      obtain ⟨hn0, hn3⟩ := partsN_le pr conds col ⟨vk, vn, vs⟩ j
      have x2 := blk_cell HBX5.out 2
      have x3 := blk_cell HBX5.out 3
      have x4 := blk_cell HBX5.out 4
      have o0 : wr.cell? ⟨g3, 0 + j, none⟩ = some (.int .i64 (opsL[j]?.getD 0)) := by
        rw [Nat.zero_add, blk_cell HOP2.out j]
        rcases (show j = 0 ∨ j = 1 ∨ j = 2 by omega) with rfl | rfl | rfl <;> rfl
      rw [Nat.zero_add] at o0
      have HJ := Lib.hid (show opsL[j]?.getD 0 = opsL[j]'(by exact hj3) by rw [List.getElem?_eq_getElem (show j < opsL.length from hj3)]; rfl)
      generalize opsL[j]?.getD 0 = oj at *
      have hj0 : (0 : Int) ≤ (j : Int) := by omega
      have hj1 : (j : Int) < 3 := by omega
      go_wp2_with fail
      go_region
      have HX := Lib.hid (show ((wr.alloc (.cells #[.int .i64 col, .int .i64 oj, .int .i64 vk, .int .i64 vn, .string vs] 27)).drew).heap[wr.heap.size]? = some _ from blk_new (w0 := wr) (g := wr.heap.size) rfl)
      have HBW := Lib.hid (show Below wr.heap.size wr ((wr.alloc (.cells #[.int .i64 col, .int .i64 oj, .int .i64 vk, .int .i64 vn, .string vs] 27)).drew) by go_grown)
      clear x0 x2 x3 x4 o0 hl1 hl2 hj0 hj1
      generalize (wr.alloc (.cells #[.int .i64 col, .int .i64 oj, .int .i64 vk, .int .i64 vn, .string vs] 27)).drew = wx at *
      have hlx := blk_lt HX.out
      go_wp2_with (at_builtin; refine Hid.out ?_)
      refine Lib.hid ?_
      have hown0 : Own Cnd.cells 5 27 wx.heap.size (wx.alloc (.cells #[] 27)) (.slice (some ⟨wx.heap.size, 0, none⟩) 0 0) ([] : List Cnd) := World.ownsRow_lit wx #[] 0 (Nat.le_refl _) (by simp [maxLen]) (by simp)
      refine wpList_append_sl (xs := ([] : List Cnd)) rfl rfl elC rfl rfl hown0 ((HC.out.keep (HW2.out.trans (HBW.out.mono HW2.out.size))).alloc _) (by have := H20.out; simp [maxLen]; omega) (by have := H20.out; simp only [List.length_nil]; omega) (by simp) ?_
      intro v2' w6 ho2 hg2 hat2
      have HO := Lib.hid ho2
      have HB6 := Lib.hid (show Below wx.heap.size wx w6 from below_app ((Below.refl wx.heap.size wx).alloc (Nat.le_refl _) _) hg2 (by simp) (fun k hk => (hown0.lt k hk).1))
      clear ho2 hg2 hat2 hown0
      rw [List.nil_append] at HO
      have HX6 := Lib.hid (blk_keep HX.out HB6.out)
      have hlx6 := blk_lt HX6.out
      have x0 := blk_cell HX6.out 0
      have x1 := blk_cell HX6.out 1
      have x2 := blk_cell HX6.out 2
      have x3 := blk_cell HX6.out 3
      have x4 := blk_cell HX6.out 4
      clear hlx
      go_wp2_with (at_builtin; refine Hid.out ?_)
      refine Lib.hid ?_
      refine wpList_append_sl rfl rfl elC rfl rfl (HO.out.alloc _) (Sl.one (⟨col, oj, ⟨vk, vn, vs⟩⟩ : Cnd) (by simp) Cnd.len rfl) (by have := H20.out; simp [maxLen]; omega) (by have := H20.out; simp; omega) (by have := HB6.out.size; simp; omega) ?_
      intro v3 w7 ho2 hg2 hat2
      have HO7 := Lib.hid (ho2.sl Cnd.len)
      have HB7 := Lib.hid (below_app (HB6.out.alloc HB6.out.size _) hg2 (by have := HB6.out.size; simp; omega) (fun k hk => (HO.out.lt k hk).1))
      clear ho2 hg2 hat2 x0 x1 x2 x3 x4 hlx6
      have HB8 := Lib.hid (HBW.out.trans (HB7.out.mono HBW.out.size))
      have HX7 := Lib.hid (blk_keep HX.out HB7.out)
      have e1 := (HB8.out.cell (p := ⟨b, off + k, none⟩) hbl).trans e0
      have hbl7 := Nat.lt_of_lt_of_le hbl HB8.out.size
      have HE1 := Lib.hid e1
      clear e0
      have HMA := Lib.hid (matchB_snoc pr conds ⟨col, oj, ⟨vk, vn, vs⟩⟩)
      have HPA := Lib.hid (show ∀ wn, Below w7.heap.size w7 wn → Calls Tryd.prog 7 #[.slice pa pr.length pc, v3] wn fun e w' => e = .returned (.bool (matchB pr (conds ++ [⟨col, oj, ⟨vk, vn, vs⟩⟩]))) ∧ Below wn.heap.size wn w' from
        fun wn h => match_any _ _ pr _ wn (HP.out.keep (HWI.out.trans ((HB8.out.trans (h.mono HB8.out.size)).mono HWI.out.size))) (HO7.out.keep h) HPS.out (fun x hx => (List.mem_append.1 hx).elim (HCS.out x) (fun hx => by rw [List.mem_singleton.1 hx]; exact HC0.out)) (by have := H20.out; simp; omega) (by have := HPL.out; omega))
      have HPB := Lib.hid (show ∀ wn, Below w7.heap.size w7 wn → Calls Tryd.prog 7 #[.slice pa pr.length pc, .slice Ac conds.length cc] wn fun e w' => e = .returned (.bool (matchB pr conds)) ∧ Below wn.heap.size wn w' from
        fun wn h => match_any _ _ pr _ wn (HP.out.keep (HWI.out.trans ((HB8.out.trans (h.mono HB8.out.size)).mono HWI.out.size))) (HC.out.keep (HW2.out.trans ((HB8.out.trans (h.mono HB8.out.size)).mono HW2.out.size))) HPS.out HCS.out (by have := H20.out; omega) (by have := HPL.out; omega))
      have HPC := Lib.hid (show ∀ (cv : Value) (wn : World), Below w7.heap.size w7 wn → Sl Cnd.cells 5 wn cv [⟨col, oj, ⟨vk, vn, vs⟩⟩] → Calls Tryd.prog 7 #[.slice pa pr.length pc, cv] wn fun e w' => e = .returned (.bool (matchB pr [⟨col, oj, ⟨vk, vn, vs⟩⟩])) ∧ Below wn.heap.size wn w' from
        fun cv wn h hcv => match_any _ _ pr _ wn (HP.out.keep (HWI.out.trans ((HB8.out.trans (h.mono HB8.out.size)).mono HWI.out.size))) hcv HPS.out (fun x hx => by rw [List.mem_singleton.1 hx]; exact HC0.out) (by simp) (by have := HPL.out; omega))
      have HNN := Lib.hid (show partsN pr conds col ⟨vk, vn, vs⟩ (j + 1) = partsN pr conds col ⟨vk, vn, vs⟩ j + if matchB pr (conds ++ [⟨col, oj, ⟨vk, vn, vs⟩⟩]) = true then 1 else 0 by rw [HN.out, HJ.out])
      obtain ⟨A', cA, hv3⟩ := Sl.len' HO7.out
      rw [List.length_append, List.length_singleton] at hv3
      subst hv3
      generalize matchB pr (conds ++ [⟨col, oj, ⟨vk, vn, vs⟩⟩]) = mab at *
      generalize matchB pr conds = ma at *
      generalize matchB pr [⟨col, oj, ⟨vk, vn, vs⟩⟩] = mb at *
      obtain rfl : mab = (ma && mb) := HMA.out
      generalize partsN pr conds col ⟨vk, vn, vs⟩ j = nj at *
      have HKJ := Lib.hid (show Below wo.heap.size wo w7 from HWI.out.trans (HB8.out.mono HWI.out.size))
      clear HMA
      go_wp2_with fail
      refine (HPA.out _ (Below.refl _ _)).mono ?_
      rintro e w8 ⟨rfl, hb⟩
      have HB9 := Lib.hid hb
      have HX8 := Lib.hid (blk_keep HX7.out HB9.out)
      have e1 := (HB9.out.cell (p := ⟨b, off + k, none⟩) hbl7).trans HE1.out
      have hbl8 := Nat.lt_of_lt_of_le hbl7 HB9.out.size
      have hlx8 := blk_lt HX8.out
      have x0 := blk_cell HX8.out 0
      have x1 := blk_cell HX8.out 1
      have x2 := blk_cell HX8.out 2
      have x3 := blk_cell HX8.out 3
      have x4 := blk_cell HX8.out 4
      clear hb
      have HQA := Lib.hid (fun (wn : World) (h : Below w8.heap.size w8 wn) => HPA.out wn (HB9.out.trans (h.mono HB9.out.size)))
      have HQB := Lib.hid (fun (wn : World) (h : Below w8.heap.size w8 wn) => HPB.out wn (HB9.out.trans (h.mono HB9.out.size)))
      have HQC := Lib.hid (fun (cv : Value) (wn : World) (h : Below w8.heap.size w8 wn) => HPC.out cv wn (HB9.out.trans (h.mono HB9.out.size)))
      have HKJ8 := Lib.hid (HKJ.out.trans (HB9.out.mono HKJ.out.size))
      clear HPA HPB HPC HKJ HN
      cases ma
      · clear x0 x1 x2 x3 x4 HQC
        have u0 := up_at e1 hbl8
        clear e1
        have HM1 := Lib.hid (fun (y : Up w8) => HQA.out y.w y.h)
        have HM2 := Lib.hid (fun (y : Up w8) => HQB.out y.w y.h)
        have HR0 := Lib.hid (show partsN pr conds col ⟨vk, vn, vs⟩ (j + 1) = nj by rw [HNN.out]; simp)
        cases mb
        all_goals
          go_wp2_with fail
          refine wp_region_up (by kernel_rfl) (by kernel_rfl) ?_
          repeat (go_big_quiet_step (first
            | (go_at_call 7; (with_reducible exact up_call (HM1.out _)))
            | (go_at_call 7; (with_reducible exact up_call (HM2.out _)))))
          refine wpQuiet_nil ?_
          rintro w' ⟨⟨w2, hb2⟩, rfl⟩
          have HBK2 := Lib.hid (HKJ8.out.trans (hb2.mono HKJ8.out.size))
          clear hb2 u0
          go_wp2_with fail
          go_roundw
          case rel => exact ⟨j + 1, by omega, by rw [HR0.out], by go_num, HBK2.out⟩
          case measure => simp [intOf]; omega
      · have HMK := Lib.hid (show ∀ wn, Below w8.heap.size w8 wn → (Below w8.heap.size w8 wn ∧ wn.cell? ⟨b, off + k, none⟩ = some (.slice pa pr.length pc) ∧ wn.cell? ⟨wr.heap.size, 0, none⟩ = some (.int .i64 col) ∧ wn.cell? ⟨wr.heap.size, 1, none⟩ = some (.int .i64 oj) ∧ wn.cell? ⟨wr.heap.size, 2, none⟩ = some (.int .i64 vk) ∧ wn.cell? ⟨wr.heap.size, 3, none⟩ = some (.int .i64 vn) ∧ wn.cell? ⟨wr.heap.size, 4, none⟩ = some (.string vs)) from
          fun wn h => ⟨h, (h.cell (p := ⟨b, off + k, none⟩) hbl8).trans e1, blk_cell (blk_keep HX8.out h) 0, blk_cell (blk_keep HX8.out h) 1, blk_cell (blk_keep HX8.out h) 2, blk_cell (blk_keep HX8.out h) 3, blk_cell (blk_keep HX8.out h) 4⟩)
        clear x0 x1 x2 x3 x4 e1
        cases mb
        all_goals
          go_wp2_with fail
          go_region_held3 (fun wn => Below w8.heap.size w8 wn ∧ wn.cell? ⟨b, off + k, none⟩ = some (.slice pa pr.length pc) ∧ wn.cell? ⟨wr.heap.size, 0, none⟩ = some (.int .i64 col) ∧ wn.cell? ⟨wr.heap.size, 1, none⟩ = some (.int .i64 oj) ∧ wn.cell? ⟨wr.heap.size, 2, none⟩ = some (.int .i64 vk) ∧ wn.cell? ⟨wr.heap.size, 3, none⟩ = some (.int .i64 vn) ∧ wn.cell? ⟨wr.heap.size, 4, none⟩ = some (.string vs))
            ((refine HMK.out _ ?_; go_grown))
            (first
              | (go_at_call 7; (with_reducible refine (HQA.out _ ?ba).mono ?_); (case ba => go_grown); rintro e w' ⟨rfl, hb1⟩; have hbw := below2 (w := w8) (by go_grown) hb1; have hsw := hbw.size)
              | (go_at_call 7; (with_reducible refine (HQB.out _ ?bb).mono ?_); (case bb => go_grown); rintro e w'' ⟨rfl, hb2⟩; have hbw2 := below2 (w := w8) (by go_grown) hb2; have hsw2 := hbw2.size)
              | (go_at_call 7; (with_reducible refine (HQC.out _ _ ?bc ?bd).mono ?_); (case bc => go_grown); (case bd => first | exact Sl.one (⟨col, oj, ⟨vk, vn, vs⟩⟩ : Cnd) rfl Cnd.len rfl | exact (Sl.one (⟨col, oj, ⟨vk, vn, vs⟩⟩ : Cnd) rfl Cnd.len rfl).keep (by go_grown)); rintro e w'' ⟨rfl, hb3⟩; have hbw3 := below2 (w := w8) (by go_grown) hb3; have hsw3 := hbw3.size))
          have HBK2 := Lib.hid (HKJ8.out.trans (hbw3.mono HKJ8.out.size))
          clear hb1 hbw hsw hb2 hbw2 hsw2 hb3 hbw3 hsw3
          go_wp2_with fail
          go_roundw
          case rel => exact ⟨j + 1, by omega, by rw [HNN.out] <;> simp, by go_num, HBK2.out⟩
          case measure => simp [intOf]; omega
end Go.Proofs.YtlhmencjhhpacaaDoor
