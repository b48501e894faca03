/- query.Plan: how a query's rows are found. -/
import Derived.Test.YtlhmencjhhpacaaDoorPlanIdx
import Derived.Deep.Cut
namespace Go.Proofs.YtlhmencjhhpacaaDoor
open Go.RowKit

structure Pl where
  way : Int
  name : ByteArray
  lo : V
  hi : V
def Pl.agg (p : Pl) : Value := .agg #[.int .i64 p.way, .string p.name, .int .i64 p.lo.k, .int .i64 p.lo.n, .string p.lo.s, .int .i64 p.hi.k, .int .i64 p.hi.n, .string p.hi.s]
theorem ret_pl {w k n k2 n2 : Int} {nm s s2 : ByteArray} {p : Pl} (h : (⟨w, nm, ⟨k, n, s⟩, ⟨k2, n2, s2⟩⟩ : Pl) = p) : Ending.returned (.agg #[.int .i64 w, .string nm, .int .i64 k, .int .i64 n, .string s, .int .i64 k2, .int .i64 n2, .string s2]) = .returned p.agg := by subst h; rfl
def spanZ (conds : List Cnd) (col : Int) : V × V := spanV conds col (vZero, vZero)
def someB (p : V × V) : Bool := p.1.k != 0 || p.2.k != 0
def planS (conds : List Cnd) : List Ix → Pl
  | [] => ⟨1, ⟨#[]⟩, vZero, vZero⟩
  | x :: l => if someB (spanZ conds x.col) = true then ⟨4, x.name, (spanZ conds x.col).1, (spanZ conds x.col).2⟩ else planS conds l
def planT (conds : List Cnd) (all : List Ix) : Pl := if someB (spanZ conds 1) = true then ⟨3, ⟨#[]⟩, (spanZ conds 1).1, (spanZ conds 1).2⟩ else planS conds all
def planE (conds : List Cnd) (all : List Ix) : List Ix → Pl
  | [] => planT conds all
  | x :: l => if (eqV conds x.col).k ≠ 0 then ⟨4, x.name, eqV conds x.col, eqV conds x.col⟩ else planE conds all l
def planB (t : Int) (conds : List Cnd) (list : List Ix) : Pl := if (eqV conds 1).k ≠ 0 then ⟨2, ⟨#[]⟩, eqV conds 1, eqV conds 1⟩ else planE conds (overI t list) (overI t list)

theorem zok_eqV {conds : List Cnd} (h : ∀ x ∈ conds, Zok x.v) (col : Int) : Zok (eqV conds col) := by
  induction conds with
  | nil => exact zok_zero
  | cons c cs ih =>
    unfold eqV
    split
    · exact h c (List.mem_cons_self ..)
    · exact ih fun x hx => h x (List.mem_cons_of_mem _ hx)
theorem zok_spanV {conds : List Cnd} (h : ∀ x ∈ conds, Zok x.v) (col : Int) : ∀ p : V × V, Zok p.1 → Zok p.2 → Zok (spanV conds col p).1 ∧ Zok (spanV conds col p).2 := by
  induction conds with
  | nil => exact fun p h1 h2 => ⟨h1, h2⟩
  | cons c cs ih =>
    intro p h1 h2
    have hc := h c (List.mem_cons_self ..)
    refine ih (fun x hx => h x (List.mem_cons_of_mem _ hx)) (spanS col c p) ?_ ?_ <;> unfold spanS <;> split <;> (try split) <;> (try split) <;> first | assumption | exact zok_orK h1 hc | exact zok_orK h2 hc
theorem plan_id {t : Int} {conds : List Cnd} {list : List Ix} {v : V} (hv : eqV conds 1 = v) (h : ¬ v.k = 0) : (⟨2, ⟨#[]⟩, v, v⟩ : Pl) = planB t conds list := by subst hv; unfold planB; rw [if_pos h]
theorem plan_go {t : Int} {conds : List Cnd} {list : List Ix} {v : V} (hv : eqV conds 1 = v) (h : v.k = 0) : planE conds (overI t list) (overI t list) = planB t conds list := by subst hv; unfold planB; rw [if_neg (by simpa using h)]
theorem planE_yes {conds : List Cnd} {all l : List Ix} {x : Ix} {v : V} {p : Pl} (hv : eqV conds x.col = v) (h : ¬ v.k = 0) (hp : planE conds all (x :: l) = p) : (⟨4, x.name, v, v⟩ : Pl) = p := by subst hv; rw [← hp]; show _ = if _ then _ else _; rw [if_pos h]
theorem planE_no {conds : List Cnd} {all l : List Ix} {x : Ix} {v : V} {p : Pl} (hv : eqV conds x.col = v) (h : v.k = 0) (hp : planE conds all (x :: l) = p) : planE conds all l = p := by subst hv; rw [← hp]; show _ = if _ then _ else _; rw [if_neg (by simpa using h)]
theorem planT_yes {conds : List Cnd} {all : List Ix} {v u : V} {p : Pl} (hv : spanZ conds 1 = (v, u)) (h : ¬ (v.k = 0 ∧ u.k = 0)) (hp : planT conds all = p) : (⟨3, ⟨#[]⟩, v, u⟩ : Pl) = p := by
  rw [← hp]; unfold planT; rw [hv, if_pos (by simp [someB]; omega)]
theorem planT_no {conds : List Cnd} {all : List Ix} {v u : V} {p : Pl} (hv : spanZ conds 1 = (v, u)) (h : v.k = 0 ∧ u.k = 0) (hp : planT conds all = p) : planS conds all = p := by
  rw [← hp]; unfold planT; rw [hv, if_neg (by simp [someB]; omega)]
theorem planS_yes {conds : List Cnd} {l : List Ix} {x : Ix} {v u : V} {p : Pl} (hv : spanZ conds x.col = (v, u)) (h : ¬ (v.k = 0 ∧ u.k = 0)) (hp : planS conds (x :: l) = p) : (⟨4, x.name, v, u⟩ : Pl) = p := by
  rw [← hp]; show _ = if _ then _ else _; rw [hv, if_pos (by simp [someB]; omega)]
theorem planS_no {conds : List Cnd} {l : List Ix} {x : Ix} {v u : V} {p : Pl} (hv : spanZ conds x.col = (v, u)) (h : v.k = 0 ∧ u.k = 0) (hp : planS conds (x :: l) = p) : planS conds l = p := by
  rw [← hp]; show _ = if _ then _ else _; rw [hv, if_neg (by simp [someB]; omega)]


set_option maxRecDepth 100000 in
set_option maxHeartbeats 4000000 in
theorem plan_any (t : Int) (cv lv iv : Value) (conds : List Cnd) (ord : Int) (down : Bool) (lim : Int) (list : List Ix) (w : World) (hcv : Sl Cnd.cells 5 w cv conds) (hiv : Sl Ix.cells 3 w iv list) (hz : ∀ x ∈ conds, Zok x.v) (hl : conds.length ≤ 1000000) (hl2 : list.length ≤ 1000) :
    Calls Tryd.prog 11 #[.agg #[.int .i64 t, cv, lv, .int .i64 ord, .bool down, .int .i64 lim], iv] w fun e w' => e = .returned (planB t conds list).agg ∧ Below w.heap.size w w' := by
  obtain ⟨Ac, cc, rfl⟩ := Sl.len' hcv
  obtain ⟨Ai, ci, rfl⟩ := Sl.len' hiv
  have HCV := Lib.hid hcv
  have HIV := Lib.hid hiv
  have HZ := Lib.hid hz
  have HL := Lib.hid hl
  clear hcv hiv hz hl
  go_enter Tryd.func11, Tryd.ntmps11
  go_wp2_with fail
  refine (equal_any t _ _ conds ord down lim 1 _ (((HCV.out.alloc _).alloc _).alloc _) HL.out).mono ?_
  rintro e w1 ⟨rfl, hb1⟩
  have HP := Lib.hid (blk_keep (blk_alloc (blk_new (w0 := w.alloc (.cells #[.int .i64 t, .slice Ac conds.length cc, lv, .int .i64 ord, .bool down, .int .i64 lim] 40)) (g := w.heap.size + 1) (by simp)) _) hb1)
  have HN := Lib.hid (blk_keep (blk_new (g := w.heap.size + 1 + 1) (by simp)) hb1)
  have HQ := Lib.hid (blk_keep (blk_alloc (blk_alloc (blk_new (w0 := w) (g := w.heap.size) rfl) _) _) hb1)
  have HB := Lib.hid (((((Below.refl _ w).alloc (Nat.le_refl _) _).alloc (by simp) _).alloc (by simp; omega) _).trans (hb1.mono (by simp; omega)))
  clear hb1
  have hzv := zok_eqV HZ.out 1
  generalize hv : eqV conds 1 = v at hzv ⊢
  have HV := Lib.hid hv
  clear hv
  obtain ⟨vk, vn, vs⟩ := v
  simp only [V.agg]
  by_cases hvk : vk = 0
  rotate_left
  · have HR := Lib.hid (plan_id (t := t) (list := list) HV.out hvk)
    have hbb := HB.out
    have hnl := blk_lt HN.out
    have hn := blk_cell HN.out
    clear HZ HL HCV HIV hzv
    go_upto_region 4 with fail
    clear hn hnl HN HQ hbb
    have HPX := Lib.hid (blk_alloc HP.out (.cells #[.int .i64 vk, .int .i64 vn, .string vs] 25))
    have HBX := Lib.hid (HB.out.alloc HB.out.size (.cells #[.int .i64 vk, .int .i64 vn, .string vs] 25))
    have hv2 := blk_cell (blk_new (w0 := w1) (g := w1.heap.size) (o := .cells #[.int .i64 vk, .int .i64 vn, .string vs] 25) rfl)
    clear HP HB
    generalize w1.alloc (.cells #[.int .i64 vk, .int .i64 vn, .string vs] 25) = w2 at *
    have hf := blk_frozen HPX.out
    have hpl := blk_lt HPX.out
    have p0 : w2.cell? ⟨w.heap.size + 1, 0, none⟩ = some (.int .i64 0) := blk_cell HPX.out 0
    have p1 : w2.cell? ⟨w.heap.size + 1, 1, none⟩ = some (.string ⟨#[]⟩) := blk_cell HPX.out 1
    have p2 : w2.cell? ⟨w.heap.size + 1, 2, none⟩ = some (.int .i64 0) := blk_cell HPX.out 2
    have p3 : w2.cell? ⟨w.heap.size + 1, 3, none⟩ = some (.int .i64 0) := blk_cell HPX.out 3
    have p4 : w2.cell? ⟨w.heap.size + 1, 4, none⟩ = some (.string ⟨#[]⟩) := blk_cell HPX.out 4
    have p5 : w2.cell? ⟨w.heap.size + 1, 5, none⟩ = some (.int .i64 0) := blk_cell HPX.out 5
    have p6 : w2.cell? ⟨w.heap.size + 1, 6, none⟩ = some (.int .i64 0) := blk_cell HPX.out 6
    have p7 : w2.cell? ⟨w.heap.size + 1, 7, none⟩ = some (.string ⟨#[]⟩) := blk_cell HPX.out 7
    go_wp2_with fail
    have hbb := HBX.out
    exact bodyPost_ret (v := .agg #[.int .i64 2, .string ⟨#[]⟩, .int .i64 vk, .int .i64 vn, .string vs, .int .i64 vk, .int .i64 vn, .string vs]) (by simp [results, Tryd.results11, go_sem, p0, p1, p2, p3, p4, p5, p6, p7]) rfl ⟨ret_pl (HR.out), by go_grown⟩
  have hz0 := hzv hvk
  have HG := Lib.hid (plan_go (t := t) (list := list) HV.out hvk)
  injection hz0 with z1 z2 z3
  subst z1 z2 z3
  clear hzv hvk HV
  have hq := blk_cell HQ.out
  have hql := blk_lt HQ.out
  have hn := blk_cell HN.out
  have hnl := blk_lt HN.out
  go_wp2_with fail
  have HBa := Lib.hid (HB.out.alloc HB.out.size (.cells #[.int .i64 0, .int .i64 0, .string ⟨#[]⟩] 25))
  refine (over_any t _ list _ (HIV.out.keep HBa.out) hl2).mono ?_
  rintro e w2 ⟨v, rfl, hsl, hb2⟩
  have HP2 := Lib.hid (blk_keep (blk_alloc HP.out _) hb2)
  have HN2 := Lib.hid (blk_keep (blk_alloc HN.out _) hb2)
  have HQ2 := Lib.hid (blk_keep (blk_alloc HQ.out _) hb2)
  have HB2 := Lib.hid (HBa.out.trans (hb2.mono HBa.out.size))
  clear hb2 HP HN HQ HB HBa hq hql hn hnl
  have hll : (overI t list).length ≤ 2000 := by
    have h1 := uniqI_len t (cols t) (cols t).length
    have h2 := List.length_filter_le (mineB t) list
    have h3 := cols_len t
    unfold overI
    rw [List.length_append]
    omega
  generalize overI t list = l at *
  obtain ⟨Al, cl, rfl⟩ := Sl.len' hsl
  have HS := Lib.hid hsl
  clear hsl
  go_wp2_with fail
  go_loopw [32] (fun i wr => ∃ k : Nat, k ≤ l.length ∧ i = .int .i64 k ∧ Below w2.heap.size w2 wr ∧ planE conds l (l.drop k) = planB t conds list) (fun i _ => l.length - (intOf i).toNat)
  case atStart => exact ⟨0, by omega, rfl, Below.refl _ _, HG.out⟩
  case round =>
    obtain ⟨k, hk, rfl, hb, he⟩ := hrel
    have HW := Lib.hid hb
    have HE := Lib.hid he
    have HP := Lib.hid (blk_keep HP2.out hb)
    have HN := Lib.hid (blk_keep HN2.out hb)
    have HQ := Lib.hid (blk_keep HQ2.out hb)
    have HB := Lib.hid (HB2.out.trans (hb.mono HB2.out.size))
    have HSr := Lib.hid (HS.out.keep hb)
    have hq := blk_cell HQ.out
    have hql := blk_lt HQ.out
    clear hb he HG
    by_cases hkl : k < l.length
    · rcases HSr.out.cases with ⟨A, c, he, hnil⟩ | ⟨b, off, c, he, -, hbl, hsl'⟩
      · rw [hnil] at hkl; simp at hkl
      injection he with he1 he2 he3
      subst he1 he3
      obtain ⟨-, hcells⟩ := hsl'.cells hkl
      obtain ⟨e0, e1, e2⟩ := Ix.row hcells
      have HE2 := Lib.hid ((congrArg (planE conds l ·) (drop_at hkl)).symm.trans HE.out)
      clear hcells hsl'
      generalize hx : l[k] = x at *
      clear hx
      obtain ⟨xn, xt, xc⟩ := x
      simp only at e0 e1 e2
      go_wp2_with fail
      have HBa := Lib.hid (HB.out.alloc HB.out.size (.cells #[.string xn, .int .i64 xt, .int .i64 xc] 45))
      refine (equal_any t _ _ conds ord down lim xc _ (HCV.out.keep HBa.out) HL.out).mono ?_
      rintro e w3 ⟨rfl, hb3⟩
      have HP3 := Lib.hid (blk_keep (blk_alloc HP.out _) hb3)
      have HN3 := Lib.hid (blk_keep (blk_alloc HN.out _) hb3)
      have HI3 := Lib.hid (blk_keep (blk_new (w0 := wr) (g := wr.heap.size) rfl) hb3)
      have HB3 := Lib.hid (HBa.out.trans (hb3.mono HBa.out.size))
      have HW3 := Lib.hid ((HW.out.alloc HW.out.size (.cells #[.string xn, .int .i64 xt, .int .i64 xc] 45)).trans (hb3.mono (by have := HW.out.size; simp; omega)))
      clear hb3 HP HN HQ HBa hq hql e0 e1 e2 HSr hbl
      have hzv := zok_eqV HZ.out xc
      generalize hv : eqV conds xc = v at hzv ⊢
      have HV := Lib.hid hv
      clear hv
      obtain ⟨vk, vn, vs⟩ := v
      simp only [V.agg]
      have hn := blk_cell HN3.out
      have hnl := blk_lt HN3.out
      by_cases hvk : vk = 0
      rotate_left
      · have HR := Lib.hid (planE_yes (x := ⟨xn, xt, xc⟩) HV.out hvk HE2.out)
        clear hzv
        go_upto_region 11 with fail
        clear hn hnl HN3
        have HPX := Lib.hid (blk_alloc HP3.out (.cells #[.int .i64 vk, .int .i64 vn, .string vs] 25))
        have HBX := Lib.hid (HB3.out.alloc HB3.out.size (.cells #[.int .i64 vk, .int .i64 vn, .string vs] 25))
        have HIX := Lib.hid (blk_alloc HI3.out (.cells #[.int .i64 vk, .int .i64 vn, .string vs] 25))
        have hv2 := blk_cell (blk_new (w0 := w3) (g := w3.heap.size) (o := .cells #[.int .i64 vk, .int .i64 vn, .string vs] 25) rfl)
        clear HP3 HB3 HB HI3 HW HW3
        generalize w3.alloc (.cells #[.int .i64 vk, .int .i64 vn, .string vs] 25) = w4 at *
        have hix := blk_cell HIX.out
        have hixl := blk_lt HIX.out
        have hf := blk_frozen HPX.out
        have hpl := blk_lt HPX.out
        have p0 : w4.cell? ⟨w.heap.size + 1, 0, none⟩ = some (.int .i64 0) := blk_cell HPX.out 0
        have p1 : w4.cell? ⟨w.heap.size + 1, 1, none⟩ = some (.string ⟨#[]⟩) := blk_cell HPX.out 1
        have p2 : w4.cell? ⟨w.heap.size + 1, 2, none⟩ = some (.int .i64 0) := blk_cell HPX.out 2
        have p3 : w4.cell? ⟨w.heap.size + 1, 3, none⟩ = some (.int .i64 0) := blk_cell HPX.out 3
        have p4 : w4.cell? ⟨w.heap.size + 1, 4, none⟩ = some (.string ⟨#[]⟩) := blk_cell HPX.out 4
        have p5 : w4.cell? ⟨w.heap.size + 1, 5, none⟩ = some (.int .i64 0) := blk_cell HPX.out 5
        have p6 : w4.cell? ⟨w.heap.size + 1, 6, none⟩ = some (.int .i64 0) := blk_cell HPX.out 6
        have p7 : w4.cell? ⟨w.heap.size + 1, 7, none⟩ = some (.string ⟨#[]⟩) := blk_cell HPX.out 7
        go_wp2_with fail
        have hbb := HBX.out
        exact bodyPost_ret (v := .agg #[.int .i64 4, .string xn, .int .i64 vk, .int .i64 vn, .string vs, .int .i64 vk, .int .i64 vn, .string vs]) (by simp [results, Tryd.results11, go_sem, p0, p1, p2, p3, p4, p5, p6, p7]) rfl ⟨ret_pl (HR.out), by go_grown⟩
      have hz0 := hzv hvk
      have HR := Lib.hid (planE_no (x := ⟨xn, xt, xc⟩) HV.out hvk HE2.out)
      injection hz0 with z1 z2 z3
      subst z1 z2 z3
      clear hzv hvk HV
      go_wp2_with fail
      go_roundw
      case rel => exact ⟨k + 1, by omega, by go_num, HW3.out.alloc HW3.out.size _, HR.out⟩
      case measure => simp [intOf]; omega
    · have HE2 := Lib.hid (show planT conds l = planB t conds list from (congrArg (planE conds l ·) (drop_end hkl)).symm.trans HE.out)
      clear HE
      go_wp2_with fail
      refine (span_any t _ _ conds ord down lim 1 _ (HCV.out.keep HB.out) HZ.out HL.out).mono ?_
      rintro e w3 ⟨rfl, hb3⟩
      have HP3 := Lib.hid (blk_keep HP.out hb3)
      have HN3 := Lib.hid (blk_keep HN.out hb3)
      have HQ3 := Lib.hid (blk_keep HQ.out hb3)
      have HB3 := Lib.hid (HB.out.trans (hb3.mono HB.out.size))
      have HW3 := Lib.hid (HW.out.trans (hb3.mono HW.out.size))
      clear hb3 hq hql
      have hzs := zok_spanV HZ.out 1 (vZero, vZero) zok_zero zok_zero
      generalize hs : spanV conds 1 (vZero, vZero) = q at hzs ⊢
      have HV := Lib.hid (show spanZ conds 1 = q from hs)
      clear hs
      obtain ⟨⟨vk, vn, vs⟩, ⟨uk, un, us⟩⟩ := q
      simp only [V.agg]
      have hzv : Zok ⟨vk, vn, vs⟩ := hzs.1
      have hzu : Zok ⟨uk, un, us⟩ := hzs.2
      clear hzs
      have hn := blk_cell HN3.out
      have hnl := blk_lt HN3.out
      have hnl' : w.heap.size + 1 + 1 < w3.heap.size + 1 := Nat.lt_succ_of_lt hnl
      by_cases hvk : vk = 0
      rotate_left
      · clear hzv hzu
        have HR := Lib.hid (planT_yes HV.out (fun h => hvk h.1) HE2.out)
        go_upto_region 15 with fail
        clear hn hnl hnl' HN3
        have HPX := Lib.hid (blk_alloc (blk_alloc HP3.out (.cells #[.int .i64 vk, .int .i64 vn, .string vs] 25)) (.cells #[.int .i64 uk, .int .i64 un, .string us] 25))
        have HBX := Lib.hid ((HB3.out.alloc HB3.out.size (.cells #[.int .i64 vk, .int .i64 vn, .string vs] 25)).alloc (by have := HB3.out.size; simp; omega) (.cells #[.int .i64 uk, .int .i64 un, .string us] 25))
        have hv1 := blk_cell (blk_alloc (blk_new (w0 := w3) (g := w3.heap.size) (o := (.cells #[.int .i64 vk, .int .i64 vn, .string vs] 25)) rfl) (.cells #[.int .i64 uk, .int .i64 un, .string us] 25))
        have hv2 := blk_cell (blk_new (w0 := w3.alloc (.cells #[.int .i64 vk, .int .i64 vn, .string vs] 25)) (g := w3.heap.size + 1) (o := (.cells #[.int .i64 uk, .int .i64 un, .string us] 25)) (by simp))
        clear HP3 HB3 HB HW HW3
        generalize (w3.alloc (.cells #[.int .i64 vk, .int .i64 vn, .string vs] 25)).alloc (.cells #[.int .i64 uk, .int .i64 un, .string us] 25) = w4 at *
        have hf := blk_frozen HPX.out
        have hpl := blk_lt HPX.out
        have p0 : w4.cell? ⟨w.heap.size + 1, 0, none⟩ = some (.int .i64 0) := blk_cell HPX.out 0
        have p1 : w4.cell? ⟨w.heap.size + 1, 1, none⟩ = some (.string ⟨#[]⟩) := blk_cell HPX.out 1
        have p2 : w4.cell? ⟨w.heap.size + 1, 2, none⟩ = some (.int .i64 0) := blk_cell HPX.out 2
        have p3 : w4.cell? ⟨w.heap.size + 1, 3, none⟩ = some (.int .i64 0) := blk_cell HPX.out 3
        have p4 : w4.cell? ⟨w.heap.size + 1, 4, none⟩ = some (.string ⟨#[]⟩) := blk_cell HPX.out 4
        have p5 : w4.cell? ⟨w.heap.size + 1, 5, none⟩ = some (.int .i64 0) := blk_cell HPX.out 5
        have p6 : w4.cell? ⟨w.heap.size + 1, 6, none⟩ = some (.int .i64 0) := blk_cell HPX.out 6
        have p7 : w4.cell? ⟨w.heap.size + 1, 7, none⟩ = some (.string ⟨#[]⟩) := blk_cell HPX.out 7
        go_wp2_with fail
        have hbb := HBX.out
        exact bodyPost_ret (v := .agg #[.int .i64 3, .string ⟨#[]⟩, .int .i64 vk, .int .i64 vn, .string vs, .int .i64 uk, .int .i64 un, .string us]) (by simp [results, Tryd.results11, go_sem, p0, p1, p2, p3, p4, p5, p6, p7]) rfl ⟨ret_pl (HR.out), by go_grown⟩
      have hz0 := hzv hvk
      injection hz0 with z1 z2 z3
      subst z1 z2 z3
      clear hzv hvk
      by_cases huk : uk = 0
      rotate_left
      · clear hzu
        have HR := Lib.hid (planT_yes HV.out (fun h => huk h.2) HE2.out)
        go_upto_region 15 with fail
        clear hn hnl hnl' HN3
        have HPX := Lib.hid (blk_alloc (blk_alloc HP3.out (.cells #[.int .i64 0, .int .i64 0, .string ⟨#[]⟩] 25)) (.cells #[.int .i64 uk, .int .i64 un, .string us] 25))
        have HBX := Lib.hid ((HB3.out.alloc HB3.out.size (.cells #[.int .i64 0, .int .i64 0, .string ⟨#[]⟩] 25)).alloc (by have := HB3.out.size; simp; omega) (.cells #[.int .i64 uk, .int .i64 un, .string us] 25))
        have hv1 := blk_cell (blk_alloc (blk_new (w0 := w3) (g := w3.heap.size) (o := (.cells #[.int .i64 0, .int .i64 0, .string ⟨#[]⟩] 25)) rfl) (.cells #[.int .i64 uk, .int .i64 un, .string us] 25))
        have hv2 := blk_cell (blk_new (w0 := w3.alloc (.cells #[.int .i64 0, .int .i64 0, .string ⟨#[]⟩] 25)) (g := w3.heap.size + 1) (o := (.cells #[.int .i64 uk, .int .i64 un, .string us] 25)) (by simp))
        clear HP3 HB3 HB HW HW3
        generalize (w3.alloc (.cells #[.int .i64 0, .int .i64 0, .string ⟨#[]⟩] 25)).alloc (.cells #[.int .i64 uk, .int .i64 un, .string us] 25) = w4 at *
        have hf := blk_frozen HPX.out
        have hpl := blk_lt HPX.out
        have p0 : w4.cell? ⟨w.heap.size + 1, 0, none⟩ = some (.int .i64 0) := blk_cell HPX.out 0
        have p1 : w4.cell? ⟨w.heap.size + 1, 1, none⟩ = some (.string ⟨#[]⟩) := blk_cell HPX.out 1
        have p2 : w4.cell? ⟨w.heap.size + 1, 2, none⟩ = some (.int .i64 0) := blk_cell HPX.out 2
        have p3 : w4.cell? ⟨w.heap.size + 1, 3, none⟩ = some (.int .i64 0) := blk_cell HPX.out 3
        have p4 : w4.cell? ⟨w.heap.size + 1, 4, none⟩ = some (.string ⟨#[]⟩) := blk_cell HPX.out 4
        have p5 : w4.cell? ⟨w.heap.size + 1, 5, none⟩ = some (.int .i64 0) := blk_cell HPX.out 5
        have p6 : w4.cell? ⟨w.heap.size + 1, 6, none⟩ = some (.int .i64 0) := blk_cell HPX.out 6
        have p7 : w4.cell? ⟨w.heap.size + 1, 7, none⟩ = some (.string ⟨#[]⟩) := blk_cell HPX.out 7
        go_wp2_with fail
        have hbb := HBX.out
        exact bodyPost_ret (v := .agg #[.int .i64 3, .string ⟨#[]⟩, .int .i64 0, .int .i64 0, .string ⟨#[]⟩, .int .i64 uk, .int .i64 un, .string us]) (by simp [results, Tryd.results11, go_sem, p0, p1, p2, p3, p4, p5, p6, p7]) rfl ⟨ret_pl (HR.out), by go_grown⟩
      have hz1 := hzu huk
      injection hz1 with z1 z2 z3
      subst z1 z2 z3
      clear hzu huk
      have HR := Lib.hid (planT_no HV.out ⟨rfl, rfl⟩ HE2.out)
      clear HV HE2
      go_wp2_with fail
      clear hn hnl hnl'
      go_loopw [67] (fun i wr => ∃ k : Nat, k ≤ l.length ∧ i = .int .i64 k ∧ Below w2.heap.size w2 wr ∧ planS conds (l.drop k) = planB t conds list) (fun i _ => l.length - (intOf i).toNat)
      case atStart => exact ⟨0, by omega, rfl, (HW3.out.alloc HW3.out.size _).alloc (by have := HW3.out.size; simp; omega) _, HR.out⟩
      case round =>
        obtain ⟨k, hk, rfl, hb, he⟩ := hrel
        clear HP3 HN3 HQ3 HB3 HW3 HB HW HSr HP HN HQ 
        have HW := Lib.hid hb
        have HE := Lib.hid he
        have HP := Lib.hid (blk_keep HP2.out hb)
        have HN := Lib.hid (blk_keep HN2.out hb)
        have HQ := Lib.hid (blk_keep HQ2.out hb)
        have HB := Lib.hid (HB2.out.trans (hb.mono HB2.out.size))
        have HSr := Lib.hid (HS.out.keep hb)
        have hq := blk_cell HQ.out
        have hql := blk_lt HQ.out
        clear hb he HR
        by_cases hkl : k < l.length
        · rcases HSr.out.cases with ⟨A, c, he, hnil⟩ | ⟨b, off, c, he, -, hbl, hsl'⟩
          · rw [hnil] at hkl; simp at hkl
          injection he with he1 he2 he3
          subst he1 he3
          obtain ⟨-, hcells⟩ := hsl'.cells hkl
          obtain ⟨e0, e1, e2⟩ := Ix.row hcells
          have HE2 := Lib.hid ((congrArg (planS conds ·) (drop_at hkl)).symm.trans HE.out)
          clear hcells hsl'
          generalize hx : l[k] = x at *
          clear hx
          obtain ⟨xn, xt, xc⟩ := x
          simp only at e0 e1 e2
          go_wp2_with fail
          have HBa := Lib.hid (HB.out.alloc HB.out.size (.cells #[.string xn, .int .i64 xt, .int .i64 xc] 45))
          refine (span_any t _ _ conds ord down lim xc _ (HCV.out.keep HBa.out) HZ.out HL.out).mono ?_
          rintro e w3 ⟨rfl, hb3⟩
          have HP3 := Lib.hid (blk_keep (blk_alloc HP.out _) hb3)
          have HN3 := Lib.hid (blk_keep (blk_alloc HN.out _) hb3)
          have HI3 := Lib.hid (blk_keep (blk_new (w0 := wr) (g := wr.heap.size) rfl) hb3)
          have HB3 := Lib.hid (HBa.out.trans (hb3.mono HBa.out.size))
          have HW3 := Lib.hid ((HW.out.alloc HW.out.size (.cells #[.string xn, .int .i64 xt, .int .i64 xc] 45)).trans (hb3.mono (by have := HW.out.size; simp; omega)))
          clear hb3 HP HN HQ HBa hq hql e0 e1 e2 HSr hbl
          have hzs := zok_spanV HZ.out xc (vZero, vZero) zok_zero zok_zero
          generalize hs : spanV conds xc (vZero, vZero) = q at hzs ⊢
          have HV := Lib.hid (show spanZ conds xc = q from hs)
          clear hs
          obtain ⟨⟨vk, vn, vs⟩, ⟨uk, un, us⟩⟩ := q
          simp only [V.agg]
          have hzv : Zok ⟨vk, vn, vs⟩ := hzs.1
          have hzu : Zok ⟨uk, un, us⟩ := hzs.2
          clear hzs
          have hn := blk_cell HN3.out
          have hnl := blk_lt HN3.out
          have hnl' : w.heap.size + 1 + 1 < w3.heap.size + 1 := Nat.lt_succ_of_lt hnl
          by_cases hvk : vk = 0
          rotate_left
          · clear hzv hzu
            have HR := Lib.hid (planS_yes (x := ⟨xn, xt, xc⟩) HV.out (fun h => hvk h.1) HE2.out)
            go_upto_region 21 with fail
            clear hn hnl hnl' HN3
            have HPX := Lib.hid (blk_alloc (blk_alloc HP3.out (.cells #[.int .i64 vk, .int .i64 vn, .string vs] 25)) (.cells #[.int .i64 uk, .int .i64 un, .string us] 25))
            have HBX := Lib.hid ((HB3.out.alloc HB3.out.size (.cells #[.int .i64 vk, .int .i64 vn, .string vs] 25)).alloc (by have := HB3.out.size; simp; omega) (.cells #[.int .i64 uk, .int .i64 un, .string us] 25))
            have HIX := Lib.hid (blk_alloc (blk_alloc HI3.out (.cells #[.int .i64 vk, .int .i64 vn, .string vs] 25)) (.cells #[.int .i64 uk, .int .i64 un, .string us] 25))
            have hv1 := blk_cell (blk_alloc (blk_new (w0 := w3) (g := w3.heap.size) (o := (.cells #[.int .i64 vk, .int .i64 vn, .string vs] 25)) rfl) (.cells #[.int .i64 uk, .int .i64 un, .string us] 25))
            have hv2 := blk_cell (blk_new (w0 := w3.alloc (.cells #[.int .i64 vk, .int .i64 vn, .string vs] 25)) (g := w3.heap.size + 1) (o := (.cells #[.int .i64 uk, .int .i64 un, .string us] 25)) (by simp))
            clear HP3 HB3 HB HW HW3 HI3
            generalize (w3.alloc (.cells #[.int .i64 vk, .int .i64 vn, .string vs] 25)).alloc (.cells #[.int .i64 uk, .int .i64 un, .string us] 25) = w4 at *
            have hix := blk_cell HIX.out
            have hixl := blk_lt HIX.out
            have hf := blk_frozen HPX.out
            have hpl := blk_lt HPX.out
            have p0 : w4.cell? ⟨w.heap.size + 1, 0, none⟩ = some (.int .i64 0) := blk_cell HPX.out 0
            have p1 : w4.cell? ⟨w.heap.size + 1, 1, none⟩ = some (.string ⟨#[]⟩) := blk_cell HPX.out 1
            have p2 : w4.cell? ⟨w.heap.size + 1, 2, none⟩ = some (.int .i64 0) := blk_cell HPX.out 2
            have p3 : w4.cell? ⟨w.heap.size + 1, 3, none⟩ = some (.int .i64 0) := blk_cell HPX.out 3
            have p4 : w4.cell? ⟨w.heap.size + 1, 4, none⟩ = some (.string ⟨#[]⟩) := blk_cell HPX.out 4
            have p5 : w4.cell? ⟨w.heap.size + 1, 5, none⟩ = some (.int .i64 0) := blk_cell HPX.out 5
            have p6 : w4.cell? ⟨w.heap.size + 1, 6, none⟩ = some (.int .i64 0) := blk_cell HPX.out 6
            have p7 : w4.cell? ⟨w.heap.size + 1, 7, none⟩ = some (.string ⟨#[]⟩) := blk_cell HPX.out 7
            go_wp2_with fail
            have hbb := HBX.out
            exact bodyPost_ret (v := .agg #[.int .i64 4, .string xn, .int .i64 vk, .int .i64 vn, .string vs, .int .i64 uk, .int .i64 un, .string us]) (by simp [results, Tryd.results11, go_sem, p0, p1, p2, p3, p4, p5, p6, p7]) rfl ⟨ret_pl (HR.out), by go_grown⟩
          have hz0 := hzv hvk
          injection hz0 with z1 z2 z3
          subst z1 z2 z3
          clear hzv hvk
          by_cases huk : uk = 0
          rotate_left
          · clear hzu
            have HR := Lib.hid (planS_yes (x := ⟨xn, xt, xc⟩) HV.out (fun h => huk h.2) HE2.out)
            go_upto_region 21 with fail
            clear hn hnl hnl' HN3
            have HPX := Lib.hid (blk_alloc (blk_alloc HP3.out (.cells #[.int .i64 0, .int .i64 0, .string ⟨#[]⟩] 25)) (.cells #[.int .i64 uk, .int .i64 un, .string us] 25))
            have HBX := Lib.hid ((HB3.out.alloc HB3.out.size (.cells #[.int .i64 0, .int .i64 0, .string ⟨#[]⟩] 25)).alloc (by have := HB3.out.size; simp; omega) (.cells #[.int .i64 uk, .int .i64 un, .string us] 25))
            have HIX := Lib.hid (blk_alloc (blk_alloc HI3.out (.cells #[.int .i64 0, .int .i64 0, .string ⟨#[]⟩] 25)) (.cells #[.int .i64 uk, .int .i64 un, .string us] 25))
            have hv1 := blk_cell (blk_alloc (blk_new (w0 := w3) (g := w3.heap.size) (o := (.cells #[.int .i64 0, .int .i64 0, .string ⟨#[]⟩] 25)) rfl) (.cells #[.int .i64 uk, .int .i64 un, .string us] 25))
            have hv2 := blk_cell (blk_new (w0 := w3.alloc (.cells #[.int .i64 0, .int .i64 0, .string ⟨#[]⟩] 25)) (g := w3.heap.size + 1) (o := (.cells #[.int .i64 uk, .int .i64 un, .string us] 25)) (by simp))
            clear HP3 HB3 HB HW HW3 HI3
            generalize (w3.alloc (.cells #[.int .i64 0, .int .i64 0, .string ⟨#[]⟩] 25)).alloc (.cells #[.int .i64 uk, .int .i64 un, .string us] 25) = w4 at *
            have hix := blk_cell HIX.out
            have hixl := blk_lt HIX.out
            have hf := blk_frozen HPX.out
            have hpl := blk_lt HPX.out
            have p0 : w4.cell? ⟨w.heap.size + 1, 0, none⟩ = some (.int .i64 0) := blk_cell HPX.out 0
            have p1 : w4.cell? ⟨w.heap.size + 1, 1, none⟩ = some (.string ⟨#[]⟩) := blk_cell HPX.out 1
            have p2 : w4.cell? ⟨w.heap.size + 1, 2, none⟩ = some (.int .i64 0) := blk_cell HPX.out 2
            have p3 : w4.cell? ⟨w.heap.size + 1, 3, none⟩ = some (.int .i64 0) := blk_cell HPX.out 3
            have p4 : w4.cell? ⟨w.heap.size + 1, 4, none⟩ = some (.string ⟨#[]⟩) := blk_cell HPX.out 4
            have p5 : w4.cell? ⟨w.heap.size + 1, 5, none⟩ = some (.int .i64 0) := blk_cell HPX.out 5
            have p6 : w4.cell? ⟨w.heap.size + 1, 6, none⟩ = some (.int .i64 0) := blk_cell HPX.out 6
            have p7 : w4.cell? ⟨w.heap.size + 1, 7, none⟩ = some (.string ⟨#[]⟩) := blk_cell HPX.out 7
            go_wp2_with fail
            have hbb := HBX.out
            exact bodyPost_ret (v := .agg #[.int .i64 4, .string xn, .int .i64 0, .int .i64 0, .string ⟨#[]⟩, .int .i64 uk, .int .i64 un, .string us]) (by simp [results, Tryd.results11, go_sem, p0, p1, p2, p3, p4, p5, p6, p7]) rfl ⟨ret_pl (HR.out), by go_grown⟩
          have hz1 := hzu huk
          injection hz1 with z1 z2 z3
          subst z1 z2 z3
          clear hzu huk
          have HR := Lib.hid (planS_no (x := ⟨xn, xt, xc⟩) HV.out ⟨rfl, rfl⟩ HE2.out)
          clear HV HE2
          go_wp2_with fail
          go_roundw
          case rel => exact ⟨k + 1, by omega, by go_num, (HW3.out.alloc HW3.out.size _).alloc (by have := HW3.out.size; simp; omega) _, HR.out⟩
          case measure => simp [intOf]; omega
        · have HT := Lib.hid ((congrArg (planS conds ·) (drop_end hkl)).symm.trans HE.out)
          have HPX := HP
          have HBX := HB
          clear HN HQ hq hql HSr
          have hf := blk_frozen HPX.out
          have hpl := blk_lt HPX.out
          have p0 : wr.cell? ⟨w.heap.size + 1, 0, none⟩ = some (.int .i64 0) := blk_cell HPX.out 0
          have p1 : wr.cell? ⟨w.heap.size + 1, 1, none⟩ = some (.string ⟨#[]⟩) := blk_cell HPX.out 1
          have p2 : wr.cell? ⟨w.heap.size + 1, 2, none⟩ = some (.int .i64 0) := blk_cell HPX.out 2
          have p3 : wr.cell? ⟨w.heap.size + 1, 3, none⟩ = some (.int .i64 0) := blk_cell HPX.out 3
          have p4 : wr.cell? ⟨w.heap.size + 1, 4, none⟩ = some (.string ⟨#[]⟩) := blk_cell HPX.out 4
          have p5 : wr.cell? ⟨w.heap.size + 1, 5, none⟩ = some (.int .i64 0) := blk_cell HPX.out 5
          have p6 : wr.cell? ⟨w.heap.size + 1, 6, none⟩ = some (.int .i64 0) := blk_cell HPX.out 6
          have p7 : wr.cell? ⟨w.heap.size + 1, 7, none⟩ = some (.string ⟨#[]⟩) := blk_cell HPX.out 7
          go_wp2_with fail
          have hbb := HBX.out
          exact bodyPost_ret (v := .agg #[.int .i64 1, .string ⟨#[]⟩, .int .i64 0, .int .i64 0, .string ⟨#[]⟩, .int .i64 0, .int .i64 0, .string ⟨#[]⟩]) (by simp [results, Tryd.results11, go_sem, p0, p1, p2, p3, p4, p5, p6, p7]) rfl ⟨ret_pl (HT.out), by go_grown⟩
end Go.Proofs.YtlhmencjhhpacaaDoor
