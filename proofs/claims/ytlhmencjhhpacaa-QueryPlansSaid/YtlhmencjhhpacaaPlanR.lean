/- cahierref20.Plan: how a query's rows are found.  -/
import Derived.Test.YtlhmencjhhpacaaSame
import Derived.Deep.RegionHeld3
import Derived.Deep.CutRange
import Derived.StillTailTactics
namespace Go.Proofs.Ytlhmencjhhpacaa
open Go.RowKit
attribute [local go_sem ↓] Go.wp_at_zero Go.wp_at_succ




set_option maxRecDepth 100000 in
set_option maxHeartbeats 4000000 in
theorem planR_any (t : Int) (cv lv iv : Value) (conds : List Cnd) (ord : Int) (down : Bool) (lim : Int) (list : List Ix) (w : World) (hcv : Sl Cnd.cells 5 w cv conds) (hiv : Sl Ix.cells 3 w iv list) (hz : ∀ x ∈ conds, Zok x.v) (hl : conds.length ≤ 1000000) (hl2 : list.length ≤ 1000) :
    Calls Try.prog 33 #[.agg #[.int .i64 t, cv, lv, .int .i64 ord, .bool down, .int .i64 lim], iv] w fun e w' => e = .returned (planB t conds list).agg ∧ Below w.heap.size w w' := by
  obtain ⟨Ac, cc, rfl⟩ := Sl.len' hcv
  obtain ⟨Ai, ci, rfl⟩ := Sl.len' hiv
  have HCV := Lib.hid hcv
  have HIV := Lib.hid hiv
  have HZ := Lib.hid hz
  have HL := Lib.hid hl
  clear hcv hiv hz hl
  go_enter Try.func33, Try.ntmps33
  go_wp2_with fail
  refine (equalR_any t _ _ conds ord down lim 1 _ ((HCV.out.alloc _).alloc _) HL.out).mono ?_
  rintro e w1 ⟨rfl, hb1⟩
  have HP := Lib.hid (blk_keep (blk_new (w0 := w.alloc (.cells #[.int .i64 t, .slice Ac conds.length cc, lv, .int .i64 ord, .bool down, .int .i64 lim] 50)) (g := w.heap.size + 1) (by simp)) hb1)
  have HQ := Lib.hid (blk_keep (blk_alloc (blk_new (w0 := w) (g := w.heap.size) rfl) _) hb1)
  have HB := Lib.hid ((((Below.refl _ w).alloc (Nat.le_refl _) _).alloc (by simp) _).trans (hb1.mono (by simp; omega)))
  clear hb1
  have hzv := zok_eqV HZ.out 1
  generalize hv : eqV conds 1 = v at hzv ⊢
  have HV := Lib.hid hv
  clear hv
  obtain ⟨vk, vn, vs⟩ := v
  simp only [V.agg]
  by_cases hvk : vk = 0
  rotate_left
  · have HR := Lib.hid (plan_id (t := t) (list := list) HV.out hvk)
    clear HZ HL HCV HIV hzv
    go_upto_region 3 with fail
    clear HQ
    have HPX := Lib.hid (blk_alloc HP.out (.cells #[.int .i64 vk, .int .i64 vn, .string vs] 44))
    have HBX := Lib.hid (HB.out.alloc HB.out.size (.cells #[.int .i64 vk, .int .i64 vn, .string vs] 44))
    have hv2 := blk_cell (blk_new (w0 := w1) (g := w1.heap.size) (o := .cells #[.int .i64 vk, .int .i64 vn, .string vs] 44) rfl)
    clear HP HB
    generalize w1.alloc (.cells #[.int .i64 vk, .int .i64 vn, .string vs] 44) = w2 at *
    have hf := blk_frozen HPX.out
    have hpl := blk_lt HPX.out
    have p0 : w2.cell? ⟨w.heap.size + 1, 0, none⟩ = some (.int .i64 0) := blk_cell HPX.out 0
    have p1 : w2.cell? ⟨w.heap.size + 1, 1, none⟩ = some (.string ⟨#[]⟩) := blk_cell HPX.out 1
    have p2 : w2.cell? ⟨w.heap.size + 1, 2, none⟩ = some (.int .i64 0) := blk_cell HPX.out 2
    have p3 : w2.cell? ⟨w.heap.size + 1, 3, none⟩ = some (.int .i64 0) := blk_cell HPX.out 3
    have p4 : w2.cell? ⟨w.heap.size + 1, 4, none⟩ = some (.string ⟨#[]⟩) := blk_cell HPX.out 4
    have p5 : w2.cell? ⟨w.heap.size + 1, 5, none⟩ = some (.int .i64 0) := blk_cell HPX.out 5
    have p6 : w2.cell? ⟨w.heap.size + 1, 6, none⟩ = some (.int .i64 0) := blk_cell HPX.out 6
    have p7 : w2.cell? ⟨w.heap.size + 1, 7, none⟩ = some (.string ⟨#[]⟩) := blk_cell HPX.out 7
    go_wp2_with fail
    have hbb := HBX.out
    exact bodyPost_ret (v := .agg #[.int .i64 2, .string ⟨#[]⟩, .int .i64 vk, .int .i64 vn, .string vs, .int .i64 vk, .int .i64 vn, .string vs]) (by simp [results, Try.results33, go_sem, p0, p1, p2, p3, p4, p5, p6, p7]) rfl ⟨ret_pl (HR.out), by go_grown⟩
  have hz0 := hzv hvk
  have HG := Lib.hid (plan_go (t := t) (list := list) HV.out hvk)
  injection hz0 with z1 z2 z3
  subst z1 z2 z3
  clear hzv hvk HV
  have hq := blk_cell HQ.out
  have hql := blk_lt HQ.out
  go_wp2_with fail
  have HBa := Lib.hid (HB.out.alloc HB.out.size (.cells #[.int .i64 0, .int .i64 0, .string ⟨#[]⟩] 44))
  refine (overR_any t _ list _ (HIV.out.keep HBa.out) hl2).mono ?_
  rintro e w2 ⟨v, rfl, hsl, hb2⟩
  have HP2 := Lib.hid (blk_keep (blk_alloc HP.out _) hb2)
  have HQ2 := Lib.hid (blk_keep (blk_alloc HQ.out _) hb2)
  have HB2 := Lib.hid (HBa.out.trans (hb2.mono HBa.out.size))
  clear hb2 HP HQ HB HBa hq hql
  have hll : (overI t list).length ≤ 2000 := by
    have h1 := uniqI_len t (cols t) (cols t).length
    have h2 := List.length_filter_le (mineB t) list
    have h3 := cols_len t
    unfold overI
    rw [List.length_append]
    omega
  generalize overI t list = l at *
  obtain ⟨Al, cl, rfl⟩ := Sl.len' hsl
  have HS := Lib.hid hsl
  clear hsl
  go_wp2_with fail
  go_loopw [7] (fun i wr => ∃ k : Nat, k ≤ l.length ∧ i = .int .i64 k ∧ Below w2.heap.size w2 wr ∧ planE conds l (l.drop k) = planB t conds list) (fun i _ => l.length - (intOf i).toNat)
  case atStart => exact ⟨0, by omega, rfl, Below.refl _ _, HG.out⟩
  case round =>
    obtain ⟨k, hk, rfl, hb, he⟩ := hrel
    have HW := Lib.hid hb
    have HE := Lib.hid he
    have HP := Lib.hid (blk_keep HP2.out hb)
    have HQ := Lib.hid (blk_keep HQ2.out hb)
    have HB := Lib.hid (HB2.out.trans (hb.mono HB2.out.size))
    have HSr := Lib.hid (HS.out.keep hb)
    have hql := blk_lt HQ.out
    clear hb he HG
    by_cases hkl : k < l.length
    · rcases HSr.out.cases with ⟨A, c, he, hnil⟩ | ⟨b, off, c, he, -, hbl, hsl'⟩
      · rw [hnil] at hkl; simp at hkl
      injection he with he1 he2 he3
      subst he1 he3
      obtain ⟨-, hcells⟩ := hsl'.cells hkl
      obtain ⟨e0, e1, e2⟩ := Ix.row hcells
      have HE2 := Lib.hid ((congrArg (planE conds l ·) (drop_at hkl)).symm.trans HE.out)
      clear hcells hsl'
      generalize hx : l[k] = x at *
      clear hx
      obtain ⟨xn, xt, xc⟩ := x
      simp only at e0 e1 e2
      have HC0 := Lib.hid e0
      have HC2 := Lib.hid e2
      clear e0 e1 e2
      have HCALL := Lib.hid (fun (wn : World) (h : Below wr.heap.size wr wn) => equalR_any t _ lv conds ord down lim xc wn (HCV.out.keep (HB.out.trans (h.mono HB.out.size))) HL.out)
      have hzv := zok_eqV HZ.out xc
      generalize hv : eqV conds xc = v at hzv HCALL
      have HV := Lib.hid hv
      clear hv
      obtain ⟨vk, vn, vs⟩ := v
      simp only [V.agg] at HCALL
      go_wp2_with fail
      go_cut [8] from 26 to 49 (fun v wc => ∃ g, v = .pointer (some ⟨g, 0, none⟩) ∧ wr.heap.size ≤ g ∧ wc.heap[g]? = some (.cells #[.int .i64 vk, .int .i64 vn, .string vs] 44 (0, 0)) ∧ Below wr.heap.size wr wc)
      case first =>
        have HMK := Lib.hid (show ∀ wn, Below wr.heap.size wr wn → (Below wr.heap.size wr wn ∧ wr.heap.size ≤ wn.heap.size ∧ wn.cell? ⟨w.heap.size, 0, none⟩ = some (.int .i64 t) ∧ wn.cell? ⟨w.heap.size, 1, none⟩ = some (.slice Ac conds.length cc) ∧ wn.cell? ⟨w.heap.size, 2, none⟩ = some lv ∧ wn.cell? ⟨w.heap.size, 3, none⟩ = some (.int .i64 ord) ∧ wn.cell? ⟨w.heap.size, 4, none⟩ = some (.bool down) ∧ wn.cell? ⟨w.heap.size, 5, none⟩ = some (.int .i64 lim) ∧ wn.cell? ⟨b, off + k * 3 + 2, none⟩ = some (.int .i64 xc)) from
          fun wn h => ⟨h, h.size, (blk_cell (blk_keep HQ.out h) 0), (blk_cell (blk_keep HQ.out h) 1), (blk_cell (blk_keep HQ.out h) 2), (blk_cell (blk_keep HQ.out h) 3), (blk_cell (blk_keep HQ.out h) 4), (blk_cell (blk_keep HQ.out h) 5), (h.cell (p := ⟨b, off + k * 3 + 2, none⟩) hbl).trans HC2.out⟩)
        have hi0 : (0 : Int) ≤ (k : Int) := by omega
        have hi1 : (k : Int) < (l.length : Int) := by omega
        go_region_held3 (fun wn => Below wr.heap.size wr wn ∧ wr.heap.size ≤ wn.heap.size ∧ wn.cell? ⟨w.heap.size, 0, none⟩ = some (.int .i64 t) ∧ wn.cell? ⟨w.heap.size, 1, none⟩ = some (.slice Ac conds.length cc) ∧ wn.cell? ⟨w.heap.size, 2, none⟩ = some lv ∧ wn.cell? ⟨w.heap.size, 3, none⟩ = some (.int .i64 ord) ∧ wn.cell? ⟨w.heap.size, 4, none⟩ = some (.bool down) ∧ wn.cell? ⟨w.heap.size, 5, none⟩ = some (.int .i64 lim) ∧ wn.cell? ⟨b, off + k * 3 + 2, none⟩ = some (.int .i64 xc))
          ((refine HMK.out _ ?_; go_split_ands; go_grown))
          ((go_at_call 59; refine (HCALL.out _ (by go_grown)).mono ?_; rintro e w' ⟨rfl, hbc⟩; have hbw := below2 (w := wr) (by go_grown) hbc; have hsw := hbw.size; try (have hn : w'.heap[wr.heap.size]? = some (.cells #[.int .i64 0, .int .i64 0, .string ⟨#[]⟩] 44 (0, 0)) := (hbc.block wr.heap.size (by (simp; done))).trans (blk_new (w0 := wr) rfl); have hn0 := blk_cell hn 0; have hn1 := blk_cell hn 1; have hn2 := blk_cell hn 2; have hnf := blk_frozen hn; have hnl := blk_lt hn)))
        · go_wp2_with fail
          go_meet
          case rel => exact ⟨_, rfl, hsw, blk_new rfl, hbw.alloc hsw _⟩
        · go_wp2_with fail
          go_meet
          case rel => exact ⟨_, rfl, Nat.le_refl _, blk_set (blk_set (blk_set hn 0 _) 1 _) 2 _, by go_grown⟩
      case rest =>
        obtain ⟨g, rfl, hgw, hblk, hbc⟩ := hcut
        have HP3 := Lib.hid (blk_keep HP.out hbc)
        have HB3 := Lib.hid (HB.out.trans (hbc.mono HB.out.size))
        have HW3 := Lib.hid (HW.out.trans (hbc.mono HW.out.size))
        have HE0 := Lib.hid ((hbc.cell (p := ⟨b, off + k * 3, none⟩) hbl).trans HC0.out)
        have hb0 := Nat.lt_of_lt_of_le hbl hbc.size
        have hg0 : wc.cell? ⟨g, 0, none⟩ = some (.int .i64 vk) := blk_cell hblk 0
        have hg1 : wc.cell? ⟨g, 1, none⟩ = some (.int .i64 vn) := blk_cell hblk 1
        have hg2 : wc.cell? ⟨g, 2, none⟩ = some (.string vs) := blk_cell hblk 2
        have hgl := blk_lt hblk
        clear hbc hgw hblk hbl HP HQ HB HW HSr HC0 HC2 HCALL
        by_cases hvk : vk = 0
        rotate_left
        · have HR := Lib.hid (planE_yes (x := ⟨xn, xt, xc⟩) HV.out hvk HE2.out)
          clear hzv HV
          go_upto_region 10 with fail
          have hi0 : (0 : Int) ≤ (k : Int) := by omega
          have hi1 : (k : Int) < (l.length : Int) := by omega
          have he0 := HE0.out
          have HPX := HP3
          have HBX := HB3
          clear HP3 HB3 HW3 HE0
          go_still_tail 8, (by kernel_rfl)
          have HBD := HBX.out.drew
          have HPD : wc.drew.heap[w.heap.size + 1]? = _ := HPX.out
          clear HBX HPX
          have HBX := Lib.hid HBD
          have HPX := Lib.hid HPD
          clear HBD HPD he0 hg0 hg1 hg2 hgl hb0
          change wpList _ _ _ _ _ wc.drew
          generalize wc.drew = wd at *
          have hf := blk_frozen HPX.out
          have hpl := blk_lt HPX.out
          have p0 : wd.cell? ⟨w.heap.size + 1, 0, none⟩ = some (.int .i64 0) := blk_cell HPX.out 0
          have p1 : wd.cell? ⟨w.heap.size + 1, 1, none⟩ = some (.string ⟨#[]⟩) := blk_cell HPX.out 1
          have p2 : wd.cell? ⟨w.heap.size + 1, 2, none⟩ = some (.int .i64 0) := blk_cell HPX.out 2
          have p3 : wd.cell? ⟨w.heap.size + 1, 3, none⟩ = some (.int .i64 0) := blk_cell HPX.out 3
          have p4 : wd.cell? ⟨w.heap.size + 1, 4, none⟩ = some (.string ⟨#[]⟩) := blk_cell HPX.out 4
          have p5 : wd.cell? ⟨w.heap.size + 1, 5, none⟩ = some (.int .i64 0) := blk_cell HPX.out 5
          have p6 : wd.cell? ⟨w.heap.size + 1, 6, none⟩ = some (.int .i64 0) := blk_cell HPX.out 6
          have p7 : wd.cell? ⟨w.heap.size + 1, 7, none⟩ = some (.string ⟨#[]⟩) := blk_cell HPX.out 7
          go_wp2_with fail
          have hbb := HBX.out
          exact bodyPost_ret (v := .agg #[.int .i64 4, .string xn, .int .i64 vk, .int .i64 vn, .string vs, .int .i64 vk, .int .i64 vn, .string vs]) (by simp [results, Try.results33, go_sem, p0, p1, p2, p3, p4, p5, p6, p7]) rfl ⟨ret_pl (HR.out), by go_grown⟩
        have HR := Lib.hid (planE_no (x := ⟨xn, xt, xc⟩) HV.out hvk HE2.out)
        clear hzv HV
        go_wp2_with fail
        go_roundw
        case rel => exact ⟨k + 1, by omega, by go_num, HW3.out, HR.out⟩
        case measure => simp [intOf]; omega
    · have HE2 := Lib.hid (show planT conds l = planB t conds list from (congrArg (planE conds l ·) (drop_end hkl)).symm.trans HE.out)
      clear HE
      have hq := blk_cell HQ.out
      go_wp2_with fail
      refine (spanR_any t _ _ conds ord down lim 1 _ (HCV.out.keep HB.out) HZ.out HL.out).mono ?_
      rintro e w3 ⟨rfl, hb3⟩
      have HP3 := Lib.hid (blk_keep HP.out hb3)
      have HQ3 := Lib.hid (blk_keep HQ.out hb3)
      have HB3 := Lib.hid (HB.out.trans (hb3.mono HB.out.size))
      have HW3 := Lib.hid (HW.out.trans (hb3.mono HW.out.size))
      clear hb3 hq hql
      have hzs := zok_spanV HZ.out 1 (vZero, vZero) zok_zero zok_zero
      generalize hs : spanV conds 1 (vZero, vZero) = q at hzs ⊢
      have HV := Lib.hid (show spanZ conds 1 = q from hs)
      clear hs
      obtain ⟨⟨vk, vn, vs⟩, ⟨uk, un, us⟩⟩ := q
      simp only [V.agg]
      have hzv : Zok ⟨vk, vn, vs⟩ := hzs.1
      have hzu : Zok ⟨uk, un, us⟩ := hzs.2
      clear hzs
      by_cases hvk : vk = 0 ∧ uk = 0
      rotate_left
      · clear hzv hzu
        have HR := Lib.hid (planT_yes HV.out hvk HE2.out)
        have hvk' : vk = 0 → uk ≠ 0 := fun h h2 => hvk ⟨h, h2⟩
        clear hvk
        by_cases hvz : vk = 0
        · have huz := hvk' hvz
          clear hvk'
          subst hvz
          go_upto_region 13 with fail
          have HPX := Lib.hid (blk_alloc (blk_alloc HP3.out (.cells #[.int .i64 0, .int .i64 vn, .string vs] 44)) (.cells #[.int .i64 uk, .int .i64 un, .string us] 44))
          have HBX := Lib.hid ((HB3.out.alloc HB3.out.size (.cells #[.int .i64 0, .int .i64 vn, .string vs] 44)).alloc (by have := HB3.out.size; simp; omega) (.cells #[.int .i64 uk, .int .i64 un, .string us] 44))
          have hv1 := blk_cell (blk_alloc (blk_new (w0 := w3) (g := w3.heap.size) (o := (.cells #[.int .i64 0, .int .i64 vn, .string vs] 44)) rfl) (.cells #[.int .i64 uk, .int .i64 un, .string us] 44))
          have hv2 := blk_cell (blk_new (w0 := w3.alloc (.cells #[.int .i64 0, .int .i64 vn, .string vs] 44)) (g := w3.heap.size + 1) (o := (.cells #[.int .i64 uk, .int .i64 un, .string us] 44)) (by simp))
          clear HP3 HB3 HB HW HW3
          generalize (w3.alloc (.cells #[.int .i64 0, .int .i64 vn, .string vs] 44)).alloc (.cells #[.int .i64 uk, .int .i64 un, .string us] 44) = w4 at *
          have hf := blk_frozen HPX.out
          have hpl := blk_lt HPX.out
          have p0 : w4.cell? ⟨w.heap.size + 1, 0, none⟩ = some (.int .i64 0) := blk_cell HPX.out 0
          have p1 : w4.cell? ⟨w.heap.size + 1, 1, none⟩ = some (.string ⟨#[]⟩) := blk_cell HPX.out 1
          have p2 : w4.cell? ⟨w.heap.size + 1, 2, none⟩ = some (.int .i64 0) := blk_cell HPX.out 2
          have p3 : w4.cell? ⟨w.heap.size + 1, 3, none⟩ = some (.int .i64 0) := blk_cell HPX.out 3
          have p4 : w4.cell? ⟨w.heap.size + 1, 4, none⟩ = some (.string ⟨#[]⟩) := blk_cell HPX.out 4
          have p5 : w4.cell? ⟨w.heap.size + 1, 5, none⟩ = some (.int .i64 0) := blk_cell HPX.out 5
          have p6 : w4.cell? ⟨w.heap.size + 1, 6, none⟩ = some (.int .i64 0) := blk_cell HPX.out 6
          have p7 : w4.cell? ⟨w.heap.size + 1, 7, none⟩ = some (.string ⟨#[]⟩) := blk_cell HPX.out 7
          go_wp2_with fail
          have hbb := HBX.out
          exact bodyPost_ret (v := .agg #[.int .i64 3, .string ⟨#[]⟩, .int .i64 0, .int .i64 vn, .string vs, .int .i64 uk, .int .i64 un, .string us]) (by simp [results, Try.results33, go_sem, p0, p1, p2, p3, p4, p5, p6, p7]) rfl ⟨ret_pl (HR.out), by go_grown⟩
        · clear hvk'
          go_upto_region 13 with fail
          have HPX := Lib.hid (blk_alloc (blk_alloc HP3.out (.cells #[.int .i64 vk, .int .i64 vn, .string vs] 44)) (.cells #[.int .i64 uk, .int .i64 un, .string us] 44))
          have HBX := Lib.hid ((HB3.out.alloc HB3.out.size (.cells #[.int .i64 vk, .int .i64 vn, .string vs] 44)).alloc (by have := HB3.out.size; simp; omega) (.cells #[.int .i64 uk, .int .i64 un, .string us] 44))
          have hv1 := blk_cell (blk_alloc (blk_new (w0 := w3) (g := w3.heap.size) (o := (.cells #[.int .i64 vk, .int .i64 vn, .string vs] 44)) rfl) (.cells #[.int .i64 uk, .int .i64 un, .string us] 44))
          have hv2 := blk_cell (blk_new (w0 := w3.alloc (.cells #[.int .i64 vk, .int .i64 vn, .string vs] 44)) (g := w3.heap.size + 1) (o := (.cells #[.int .i64 uk, .int .i64 un, .string us] 44)) (by simp))
          clear HP3 HB3 HB HW HW3
          generalize (w3.alloc (.cells #[.int .i64 vk, .int .i64 vn, .string vs] 44)).alloc (.cells #[.int .i64 uk, .int .i64 un, .string us] 44) = w4 at *
          have hf := blk_frozen HPX.out
          have hpl := blk_lt HPX.out
          have p0 : w4.cell? ⟨w.heap.size + 1, 0, none⟩ = some (.int .i64 0) := blk_cell HPX.out 0
          have p1 : w4.cell? ⟨w.heap.size + 1, 1, none⟩ = some (.string ⟨#[]⟩) := blk_cell HPX.out 1
          have p2 : w4.cell? ⟨w.heap.size + 1, 2, none⟩ = some (.int .i64 0) := blk_cell HPX.out 2
          have p3 : w4.cell? ⟨w.heap.size + 1, 3, none⟩ = some (.int .i64 0) := blk_cell HPX.out 3
          have p4 : w4.cell? ⟨w.heap.size + 1, 4, none⟩ = some (.string ⟨#[]⟩) := blk_cell HPX.out 4
          have p5 : w4.cell? ⟨w.heap.size + 1, 5, none⟩ = some (.int .i64 0) := blk_cell HPX.out 5
          have p6 : w4.cell? ⟨w.heap.size + 1, 6, none⟩ = some (.int .i64 0) := blk_cell HPX.out 6
          have p7 : w4.cell? ⟨w.heap.size + 1, 7, none⟩ = some (.string ⟨#[]⟩) := blk_cell HPX.out 7
          go_wp2_with fail
          have hbb := HBX.out
          exact bodyPost_ret (v := .agg #[.int .i64 3, .string ⟨#[]⟩, .int .i64 vk, .int .i64 vn, .string vs, .int .i64 uk, .int .i64 un, .string us]) (by simp [results, Try.results33, go_sem, p0, p1, p2, p3, p4, p5, p6, p7]) rfl ⟨ret_pl (HR.out), by go_grown⟩
      obtain ⟨hvk0, huk0⟩ := hvk
      have hz0 := hzv hvk0
      injection hz0 with z1 z2 z3
      subst z1 z2 z3
      have hz1 := hzu huk0
      injection hz1 with z1 z2 z3
      subst z1 z2 z3
      clear hzv hzu hvk0 huk0
      have HR := Lib.hid (planT_no HV.out ⟨rfl, rfl⟩ HE2.out)
      clear HV HE2
      go_wp2_with fail
      go_loopw [11] (fun i wr => ∃ k : Nat, k ≤ l.length ∧ i = .int .i64 k ∧ Below w2.heap.size w2 wr ∧ planS conds (l.drop k) = planB t conds list) (fun i _ => l.length - (intOf i).toNat)
      case atStart => exact ⟨0, by omega, rfl, (HW3.out.alloc HW3.out.size _).alloc (by have := HW3.out.size; simp; omega) _, HR.out⟩
      case round =>
        obtain ⟨k, hk, rfl, hb, he⟩ := hrel
        clear HP3 HQ3 HB3 HW3 HB HW HSr HP HQ 
        have HW := Lib.hid hb
        have HE := Lib.hid he
        have HP := Lib.hid (blk_keep HP2.out hb)
        have HQ := Lib.hid (blk_keep HQ2.out hb)
        have HB := Lib.hid (HB2.out.trans (hb.mono HB2.out.size))
        have HSr := Lib.hid (HS.out.keep hb)
        have hql := blk_lt HQ.out
        clear hb he HR
        by_cases hkl : k < l.length
        · rcases HSr.out.cases with ⟨A, c, he, hnil⟩ | ⟨b, off, c, he, -, hbl, hsl'⟩
          · rw [hnil] at hkl; simp at hkl
          injection he with he1 he2 he3
          subst he1 he3
          obtain ⟨-, hcells⟩ := hsl'.cells hkl
          obtain ⟨e0, e1, e2⟩ := Ix.row hcells
          have HE2 := Lib.hid ((congrArg (planS conds ·) (drop_at hkl)).symm.trans HE.out)
          clear hcells hsl'
          generalize hx : l[k] = x at *
          clear hx
          obtain ⟨xn, xt, xc⟩ := x
          simp only at e0 e1 e2
          have HC0 := Lib.hid e0
          have HC2 := Lib.hid e2
          clear e0 e1 e2
          have HCALL := Lib.hid (fun (wn : World) (h : Below wr.heap.size wr wn) => spanR_any t _ lv conds ord down lim xc wn (HCV.out.keep (HB.out.trans (h.mono HB.out.size))) HZ.out HL.out)
          have hzs := zok_spanV HZ.out xc (vZero, vZero) zok_zero zok_zero
          generalize hs : spanV conds xc (vZero, vZero) = q at hzs HCALL
          have HV := Lib.hid (show spanZ conds xc = q from hs)
          clear hs
          obtain ⟨⟨vk, vn, vs⟩, ⟨uk, un, us⟩⟩ := q
          simp only [V.agg] at HCALL
          have hzv : Zok ⟨vk, vn, vs⟩ := hzs.1
          have hzu : Zok ⟨uk, un, us⟩ := hzs.2
          clear hzs
          go_wp2_with fail
          go_cut [12, 13] from 66 to 97 (fun v u wc => ∃ g h, v = .pointer (some ⟨g, 0, none⟩) ∧ u = .pointer (some ⟨h, 0, none⟩) ∧ wr.heap.size ≤ g ∧ wr.heap.size ≤ h ∧ wc.heap[g]? = some (.cells #[.int .i64 vk, .int .i64 vn, .string vs] 44 (0, 0)) ∧ wc.heap[h]? = some (.cells #[.int .i64 uk, .int .i64 un, .string us] 44 (0, 0)) ∧ Below wr.heap.size wr wc)
          case first =>
            have HMK := Lib.hid (show ∀ wn, Below wr.heap.size wr wn → (Below wr.heap.size wr wn ∧ wr.heap.size ≤ wn.heap.size ∧ wn.cell? ⟨w.heap.size, 0, none⟩ = some (.int .i64 t) ∧ wn.cell? ⟨w.heap.size, 1, none⟩ = some (.slice Ac conds.length cc) ∧ wn.cell? ⟨w.heap.size, 2, none⟩ = some lv ∧ wn.cell? ⟨w.heap.size, 3, none⟩ = some (.int .i64 ord) ∧ wn.cell? ⟨w.heap.size, 4, none⟩ = some (.bool down) ∧ wn.cell? ⟨w.heap.size, 5, none⟩ = some (.int .i64 lim) ∧ wn.cell? ⟨b, off + k * 3 + 2, none⟩ = some (.int .i64 xc)) from
              fun wn h => ⟨h, h.size, (blk_cell (blk_keep HQ.out h) 0), (blk_cell (blk_keep HQ.out h) 1), (blk_cell (blk_keep HQ.out h) 2), (blk_cell (blk_keep HQ.out h) 3), (blk_cell (blk_keep HQ.out h) 4), (blk_cell (blk_keep HQ.out h) 5), (h.cell (p := ⟨b, off + k * 3 + 2, none⟩) hbl).trans HC2.out⟩)
            have hi0 : (0 : Int) ≤ (k : Int) := by omega
            have hi1 : (k : Int) < (l.length : Int) := by omega
            go_region_held3 (fun wn => Below wr.heap.size wr wn ∧ wr.heap.size ≤ wn.heap.size ∧ wn.cell? ⟨w.heap.size, 0, none⟩ = some (.int .i64 t) ∧ wn.cell? ⟨w.heap.size, 1, none⟩ = some (.slice Ac conds.length cc) ∧ wn.cell? ⟨w.heap.size, 2, none⟩ = some lv ∧ wn.cell? ⟨w.heap.size, 3, none⟩ = some (.int .i64 ord) ∧ wn.cell? ⟨w.heap.size, 4, none⟩ = some (.bool down) ∧ wn.cell? ⟨w.heap.size, 5, none⟩ = some (.int .i64 lim) ∧ wn.cell? ⟨b, off + k * 3 + 2, none⟩ = some (.int .i64 xc))
              ((refine HMK.out _ ?_; go_split_ands; go_grown))
              ((go_at_call 61; refine (HCALL.out _ (by go_grown)).mono ?_; rintro e w' ⟨rfl, hbc⟩; have hbw := below2 (w := wr) (by go_grown) hbc; have hsw := hbw.size; (try (have hn : w'.heap[wr.heap.size]? = some (.cells #[.int .i64 0, .int .i64 0, .string ⟨#[]⟩] 44 (0, 0)) := (hbc.block wr.heap.size (by first | (simp; done) | (simp; omega))).trans (by first | exact blk_alloc (blk_new (w0 := wr) rfl) _ | exact blk_new (w0 := wr) rfl); have hn0 := blk_cell hn 0; have hn1 := blk_cell hn 1; have hn2 := blk_cell hn 2; have hnf := blk_frozen hn; have hnl := blk_lt hn)); (try (have hm : w'.heap[wr.heap.size + 1]? = some (.cells #[.int .i64 0, .int .i64 0, .string ⟨#[]⟩] 44 (0, 0)) := (hbc.block (wr.heap.size + 1) (by first | (simp; done) | (simp; omega))).trans (blk_new (w0 := wr.alloc _) (by (simp; done))); have hm0 := blk_cell hm 0; have hm1 := blk_cell hm 1; have hm2 := blk_cell hm 2; have hmf := blk_frozen hm; have hml := blk_lt hm))))
            · go_wp2_with fail
              go_meet
              case rel => exact ⟨_, _, rfl, rfl, hsw, by omega, blk_alloc (blk_new rfl) _, blk_new (by simp), (hbw.alloc hsw _).alloc (by simp; omega) _⟩
            · go_wp2_with fail
              go_meet
              case rel => exact ⟨_, _, rfl, rfl, by omega, hsw, blk_new (by simp), blk_alloc (blk_new rfl) _, (hbw.alloc hsw _).alloc (by simp; omega) _⟩
            · go_wp2_with fail
              go_meet
              case rel => exact ⟨_, _, rfl, rfl, Nat.le_refl _, by omega, blk_alloc (blk_set (blk_set (blk_set hn 0 _) 1 _) 2 _) _, blk_new (by simp), by go_grown⟩
            · go_wp2_with fail
              go_meet
              case rel => exact ⟨_, _, rfl, rfl, Nat.le_refl _, by omega, blk_far (blk_far (blk_far (blk_set (blk_set (blk_set hn 0 _) 1 _) 2 _) (by omega) _ _) (by omega) _ _) (by omega) _ _, blk_set (blk_set (blk_set (blk_far (blk_far (blk_far hm (by omega) _ _) (by omega) _ _) (by omega) _ _) 0 _) 1 _) 2 _, by go_grown⟩
            · go_wp2_with fail
              go_meet
              case rel => exact ⟨_, _, rfl, rfl, by omega, Nat.le_refl _, blk_new (by simp), blk_alloc (blk_set (blk_set (blk_set hn 0 _) 1 _) 2 _) _, by go_grown⟩
            · go_wp2_with fail
              go_meet
              case rel => exact ⟨_, _, rfl, rfl, by omega, Nat.le_refl _, blk_far (blk_far (blk_far (blk_set (blk_set (blk_set hm 0 _) 1 _) 2 _) (by omega) _ _) (by omega) _ _) (by omega) _ _, blk_set (blk_set (blk_set (blk_far (blk_far (blk_far hn (by omega) _ _) (by omega) _ _) (by omega) _ _) 0 _) 1 _) 2 _, by go_grown⟩
          case rest =>
            obtain ⟨g, h, rfl, rfl, hgw, hhw, hblk, hblk2, hbc⟩ := hcut
            have HP3 := Lib.hid (blk_keep HP.out hbc)
            have HB3 := Lib.hid (HB.out.trans (hbc.mono HB.out.size))
            have HW3 := Lib.hid (HW.out.trans (hbc.mono HW.out.size))
            have HE0 := Lib.hid ((hbc.cell (p := ⟨b, off + k * 3, none⟩) hbl).trans HC0.out)
            have hb0 := Nat.lt_of_lt_of_le hbl hbc.size
            have hg0 : wc.cell? ⟨g, 0, none⟩ = some (.int .i64 vk) := blk_cell hblk 0
            have hg1 : wc.cell? ⟨g, 1, none⟩ = some (.int .i64 vn) := blk_cell hblk 1
            have hg2 : wc.cell? ⟨g, 2, none⟩ = some (.string vs) := blk_cell hblk 2
            have hgl := blk_lt hblk
            have hh0 : wc.cell? ⟨h, 0, none⟩ = some (.int .i64 uk) := blk_cell hblk2 0
            have hh1 : wc.cell? ⟨h, 1, none⟩ = some (.int .i64 un) := blk_cell hblk2 1
            have hh2 : wc.cell? ⟨h, 2, none⟩ = some (.string us) := blk_cell hblk2 2
            have hhl := blk_lt hblk2
            clear hbc hgw hhw hblk hblk2 hbl HP HQ HB HW HSr HC0 HC2 HCALL
            by_cases hvk : vk = 0 ∧ uk = 0
            rotate_left
            · have HR := Lib.hid (planS_yes (x := ⟨xn, xt, xc⟩) HV.out hvk HE2.out)
              have hvk' : vk = 0 → uk ≠ 0 := fun h h2 => hvk ⟨h, h2⟩
              clear hvk hzv hzu HV
              have hi0 : (0 : Int) ≤ (k : Int) := by omega
              have hi1 : (k : Int) < (l.length : Int) := by omega
              have he0 := HE0.out
              have HPX := HP3
              have HBX := HB3
              clear HP3 HB3 HW3 HE0
              by_cases hvz : vk = 0
              · have huz := hvk' hvz
                clear hvk'
                subst hvz
                go_upto_region 19 with fail
                go_still_tail 8, (by kernel_rfl)
                have HBD := HBX.out.drew
                have HPD : wc.drew.heap[w.heap.size + 1]? = _ := HPX.out
                clear HBX HPX
                have HBX := Lib.hid HBD
                have HPX := Lib.hid HPD
                clear HBD HPD he0 hg0 hg1 hg2 hgl hb0 hh0 hh1 hh2 hhl
                change wpList _ _ _ _ _ wc.drew
                generalize wc.drew = wd at *
                have hf := blk_frozen HPX.out
                have hpl := blk_lt HPX.out
                have p0 : wd.cell? ⟨w.heap.size + 1, 0, none⟩ = some (.int .i64 0) := blk_cell HPX.out 0
                have p1 : wd.cell? ⟨w.heap.size + 1, 1, none⟩ = some (.string ⟨#[]⟩) := blk_cell HPX.out 1
                have p2 : wd.cell? ⟨w.heap.size + 1, 2, none⟩ = some (.int .i64 0) := blk_cell HPX.out 2
                have p3 : wd.cell? ⟨w.heap.size + 1, 3, none⟩ = some (.int .i64 0) := blk_cell HPX.out 3
                have p4 : wd.cell? ⟨w.heap.size + 1, 4, none⟩ = some (.string ⟨#[]⟩) := blk_cell HPX.out 4
                have p5 : wd.cell? ⟨w.heap.size + 1, 5, none⟩ = some (.int .i64 0) := blk_cell HPX.out 5
                have p6 : wd.cell? ⟨w.heap.size + 1, 6, none⟩ = some (.int .i64 0) := blk_cell HPX.out 6
                have p7 : wd.cell? ⟨w.heap.size + 1, 7, none⟩ = some (.string ⟨#[]⟩) := blk_cell HPX.out 7
                go_wp2_with fail
                have hbb := HBX.out
                exact bodyPost_ret (v := .agg #[.int .i64 4, .string xn, .int .i64 0, .int .i64 vn, .string vs, .int .i64 uk, .int .i64 un, .string us]) (by simp [results, Try.results33, go_sem, p0, p1, p2, p3, p4, p5, p6, p7]) rfl ⟨ret_pl (HR.out), by go_grown⟩
              · clear hvk'
                go_upto_region 19 with fail
                go_still_tail 8, (by kernel_rfl)
                have HBD := HBX.out.drew
                have HPD : wc.drew.heap[w.heap.size + 1]? = _ := HPX.out
                clear HBX HPX
                have HBX := Lib.hid HBD
                have HPX := Lib.hid HPD
                clear HBD HPD he0 hg0 hg1 hg2 hgl hb0 hh0 hh1 hh2 hhl
                change wpList _ _ _ _ _ wc.drew
                generalize wc.drew = wd at *
                have hf := blk_frozen HPX.out
                have hpl := blk_lt HPX.out
                have p0 : wd.cell? ⟨w.heap.size + 1, 0, none⟩ = some (.int .i64 0) := blk_cell HPX.out 0
                have p1 : wd.cell? ⟨w.heap.size + 1, 1, none⟩ = some (.string ⟨#[]⟩) := blk_cell HPX.out 1
                have p2 : wd.cell? ⟨w.heap.size + 1, 2, none⟩ = some (.int .i64 0) := blk_cell HPX.out 2
                have p3 : wd.cell? ⟨w.heap.size + 1, 3, none⟩ = some (.int .i64 0) := blk_cell HPX.out 3
                have p4 : wd.cell? ⟨w.heap.size + 1, 4, none⟩ = some (.string ⟨#[]⟩) := blk_cell HPX.out 4
                have p5 : wd.cell? ⟨w.heap.size + 1, 5, none⟩ = some (.int .i64 0) := blk_cell HPX.out 5
                have p6 : wd.cell? ⟨w.heap.size + 1, 6, none⟩ = some (.int .i64 0) := blk_cell HPX.out 6
                have p7 : wd.cell? ⟨w.heap.size + 1, 7, none⟩ = some (.string ⟨#[]⟩) := blk_cell HPX.out 7
                go_wp2_with fail
                have hbb := HBX.out
                exact bodyPost_ret (v := .agg #[.int .i64 4, .string xn, .int .i64 vk, .int .i64 vn, .string vs, .int .i64 uk, .int .i64 un, .string us]) (by simp [results, Try.results33, go_sem, p0, p1, p2, p3, p4, p5, p6, p7]) rfl ⟨ret_pl (HR.out), by go_grown⟩
            obtain ⟨hvk0, huk0⟩ := hvk
            have hz0 := hzv hvk0
            injection hz0 with z1 z2 z3
            subst z1 z2 z3
            have hz1 := hzu huk0
            injection hz1 with z1 z2 z3
            subst z1 z2 z3
            clear hzv hzu hvk0 huk0
            have HR := Lib.hid (planS_no (x := ⟨xn, xt, xc⟩) HV.out ⟨rfl, rfl⟩ HE2.out)
            clear HV HE2
            go_wp2_with fail
            go_roundw
            case rel => exact ⟨k + 1, by omega, by go_num, HW3.out, HR.out⟩
            case measure => simp [intOf]; omega
        · have HT := Lib.hid ((congrArg (planS conds ·) (drop_end hkl)).symm.trans HE.out)
          have HPX := HP
          have HBX := HB
          clear HQ hql HSr
          have hf := blk_frozen HPX.out
          have hpl := blk_lt HPX.out
          have p0 : wr.cell? ⟨w.heap.size + 1, 0, none⟩ = some (.int .i64 0) := blk_cell HPX.out 0
          have p1 : wr.cell? ⟨w.heap.size + 1, 1, none⟩ = some (.string ⟨#[]⟩) := blk_cell HPX.out 1
          have p2 : wr.cell? ⟨w.heap.size + 1, 2, none⟩ = some (.int .i64 0) := blk_cell HPX.out 2
          have p3 : wr.cell? ⟨w.heap.size + 1, 3, none⟩ = some (.int .i64 0) := blk_cell HPX.out 3
          have p4 : wr.cell? ⟨w.heap.size + 1, 4, none⟩ = some (.string ⟨#[]⟩) := blk_cell HPX.out 4
          have p5 : wr.cell? ⟨w.heap.size + 1, 5, none⟩ = some (.int .i64 0) := blk_cell HPX.out 5
          have p6 : wr.cell? ⟨w.heap.size + 1, 6, none⟩ = some (.int .i64 0) := blk_cell HPX.out 6
          have p7 : wr.cell? ⟨w.heap.size + 1, 7, none⟩ = some (.string ⟨#[]⟩) := blk_cell HPX.out 7
          go_wp2_with fail
          have hbb := HBX.out
          exact bodyPost_ret (v := .agg #[.int .i64 1, .string ⟨#[]⟩, .int .i64 0, .int .i64 0, .string ⟨#[]⟩, .int .i64 0, .int .i64 0, .string ⟨#[]⟩]) (by simp [results, Try.results33, go_sem, p0, p1, p2, p3, p4, p5, p6, p7]) rfl ⟨ret_pl (HT.out), by go_grown⟩
end Go.Proofs.Ytlhmencjhhpacaa
