/- cahierlaw20.awake is true. -/
import Derived.Test.YtlhmencjhhpacaaDoorPick3
import Derived.Test.YtlhmencjhhpacaaDoorPlanSame
import Derived.Test.YtlhmencjhhpacaaDoorCheck
import Derived.Deep.RegionHeld3
namespace Go.Proofs.YtlhmencjhhpacaaDoor
open Go.RowKit
attribute [local go_sem ↓] Go.wp_at_zero Go.wp_at_succ

set_option maxRecDepth 100000 in
theorem num_eq (n : Int) (w : World) : Calls Tryd.prog 8 #[.int .i64 n] w fun e w' => e = .returned (.agg #[.int .i64 1, .int .i64 n, .string ⟨#[]⟩]) ∧ w' = w.alloc (.cells #[.int .i64 1, .int .i64 n, .string ⟨#[]⟩] 25) := by
  go_enter Tryd.func8, Tryd.ntmps8
  go_wp2_with fail
  exact bodyPost_ret (v := .agg #[.int .i64 1, .int .i64 n, .string ⟨#[]⟩]) (by simp [results, Tryd.results8, go_sem]) rfl ⟨rfl, rfl⟩
theorem text_eq (s : ByteArray) (w : World) : Calls Tryd.prog 9 #[.string s] w fun e w' => e = .returned (.agg #[.int .i64 2, .int .i64 0, .string s]) ∧ w' = w.alloc (.cells #[.int .i64 2, .int .i64 0, .string s] 25) := by
  go_enter Tryd.func9, Tryd.ntmps9
  go_wp2_with fail
  exact bodyPost_ret (v := .agg #[.int .i64 2, .int .i64 0, .string s]) (by simp [results, Tryd.results9, go_sem]) rfl ⟨rfl, rfl⟩

def awR1 : List V := [⟨1, 1, ⟨#[]⟩⟩, ⟨2, 0, ⟨#[98]⟩⟩]
def awR2 : List V := [⟨1, 2, ⟨#[]⟩⟩, ⟨2, 0, ⟨#[97]⟩⟩]
def awR3 : List V := [⟨1, 3, ⟨#[]⟩⟩, ⟨2, 0, ⟨#[98]⟩⟩]
theorem aw_pick : pickB 2 true (-1) [] [] [awR1, awR2, awR3] = [awR1, awR3, awR2] := by kernel_rfl
def awC : List Cnd := [⟨3, 6, ⟨1, 10, ⟨#[]⟩⟩⟩, ⟨3, 3, ⟨1, 20, ⟨#[]⟩⟩⟩]
def awI : List Ix := [⟨⟨#[98, 121, 115, 105, 122, 101]⟩, 1, 3⟩]
theorem aw_plan : planB 1 awC awI = ⟨4, ⟨#[98, 121, 115, 105, 122, 101]⟩, ⟨1, 10, ⟨#[]⟩⟩, ⟨1, 20, ⟨#[]⟩⟩⟩ := by kernel_rfl
theorem aw_c0 : checkE 0 [] [] 0 = 41 := by kernel_rfl
theorem aw_c1 : checkE 1 [] [] 0 = 0 := by kernel_rfl
theorem aw_match : matchB awR1 [⟨1, 1, ⟨0, 0, ⟨#[]⟩⟩⟩] = false := by kernel_rfl
theorem aw_even : Even [awR1, awR2, awR3] 2 := by
  refine ⟨fun r hr => ?_, fun r hr x hx => ?_, fun r hr x hx => ?_, by omega⟩
  · simp only [List.mem_cons, List.mem_nil_iff, or_false] at hr
    rcases hr with rfl | rfl | rfl <;> rfl
  · simp only [List.mem_cons, List.mem_nil_iff, or_false] at hr
    rcases hr with rfl | rfl | rfl <;> (simp only [awR1, awR2, awR3, List.mem_cons, List.mem_nil_iff, or_false] at hx; rcases hx with rfl | rfl <;> kernel_rfl)
  · simp only [List.mem_cons, List.mem_nil_iff, or_false] at hr
    rcases hr with rfl | rfl | rfl <;> (simp only [awR1, awR2, awR3, List.mem_cons, List.mem_nil_iff, or_false] at hx; rcases hx with rfl | rfl <;> simp [maxLen, ByteArray.size])
theorem aw_cs : ∀ x ∈ [(⟨1, 1, ⟨0, 0, ⟨#[]⟩⟩⟩ : Cnd)], x.v.s.size ≤ maxLen := by
  intro x hx
  simp only [List.mem_cons, List.mem_nil_iff, or_false] at hx
  subst hx
  exact Nat.zero_le _
theorem aw_cn : ∀ x ∈ ([] : List Cnd), x.v.s.size ≤ maxLen := fun x hx => by cases hx
theorem aw_zok : ∀ x ∈ awC, Zok x.v := by
  intro x hx
  simp only [awC, List.mem_cons, List.mem_nil_iff, or_false] at hx
  rcases hx with rfl | rfl <;> (intro h; simp at h)

theorem row_at {w : World} {A : Option Addr} {c : Nat} {x y : V} (h : Sl V.cells 3 w (.slice A [x, y].length c) [x, y]) : ∃ b o, A = some ⟨b, o, none⟩ ∧ b < w.heap.size ∧ w.cell? ⟨b, o + 1, none⟩ = some (.int .i64 x.n) := by
  rcases h.cases with ⟨A', c', he, hnil⟩ | ⟨b, o, c', he, -, hlt, h'⟩
  · cases hnil
  · injection he with e1 e2 e3
    subst e1 e3
    obtain ⟨-, hc⟩ := h'.cells (k := 0) (by simp)
    have := hc 1 _ rfl
    exact ⟨b, o, rfl, hlt, by simpa using this⟩
theorem hds_at {w : World} {v : Value} {p q r : Rr} (h : Sl Rr.cells 1 w v [p, q, r]) : ∃ b o c, v = .slice (some ⟨b, o, none⟩) 3 c ∧ b < w.heap.size ∧ w.cell? ⟨b, o, none⟩ = some p.hd ∧ w.cell? ⟨b, o + 1, none⟩ = some q.hd ∧ w.cell? ⟨b, o + 2, none⟩ = some r.hd := by
  rcases h.cases with ⟨A', c', he, hnil⟩ | ⟨b, o, c', rfl, -, hlt, h'⟩
  · cases hnil
  · obtain ⟨-, hc0⟩ := h'.cells (k := 0) (by simp)
    obtain ⟨-, hc1⟩ := h'.cells (k := 1) (by simp)
    obtain ⟨-, hc2⟩ := h'.cells (k := 2) (by simp)
    have h0 := hc0 0 _ rfl
    have h1 := hc1 0 _ rfl
    have h2 := hc2 0 _ rfl
    exact ⟨b, o, c', rfl, hlt, by simpa using h0, by simpa using h1, by simpa using h2⟩
def awQ (n : Nat) : List Rr := [⟨some ⟨n + 1 + 1, 0, none⟩, 2, awR1⟩, ⟨some ⟨n + 1 + 1 + 1 + 1 + 1, 0, none⟩, 2, awR2⟩, ⟨some ⟨n + 1 + 1 + 1 + 1 + 1 + 1 + 1 + 1, 0, none⟩, 2, awR3⟩]
theorem map3 {Q : List Rr} {a b c : List V} (h : Q.map Rr.row = [a, b, c]) : ∃ (A1 A2 A3 : Option Addr) (c1 c2 c3 : Nat), Q = [⟨A1, c1, a⟩, ⟨A2, c2, b⟩, ⟨A3, c3, c⟩] := by
  match Q, h with
  | [⟨A1, c1, _⟩, ⟨A2, c2, _⟩, ⟨A3, c3, _⟩], h =>
    simp only [List.map_cons, List.map_nil, List.cons.injEq, and_true] at h
    obtain ⟨rfl, rfl, rfl⟩ := h
    exact ⟨A1, A2, A3, c1, c2, c3, rfl⟩

set_option maxRecDepth 100000 in
set_option maxHeartbeats 4000000 in
theorem awake20_any (w : World) : Calls Tryd.prog 4 #[] w fun e w' => e = .returned (.bool true) ∧ Below w.heap.size w w' := by
  go_enter Tryd.func4, Tryd.ntmps4
  go_wp2_with (first
    | (go_at_call 8; refine (num_eq _ _).mono ?_; rintro e w' ⟨rfl, rfl⟩)
    | (go_at_call 9; refine (text_eq _ _).mono ?_; rintro e w' ⟨rfl, rfl⟩))
  have hbw := Below.refl w.heap.size w
  refine (pick_any 1 _ _ _ [] [] 2 true (-1) (awQ w.heap.size) 2 _ Sl.nil Sl.nil (Sl.new (by simp) Rr.len (by rfl) rfl) (fun p hp => ?lies) aw_even (fun x hx => by cases hx) (by simp) (by simp) (by simp [awQ])).mono ?_
  case lies =>
    simp only [awQ, List.mem_cons, List.mem_nil_iff, or_false] at hp
    rcases hp with rfl | rfl | rfl
    · exact Sl.of_row (e := 25) (fz := (0, 0)) (cs := #[.int .i64 1, .int .i64 1, .string ⟨#[]⟩, .int .i64 2, .int .i64 0, .string ⟨#[98]⟩]) (by repeat (first | exact blk_new (by (simp; done)) | refine blk_alloc ?_ _)) V.len rfl rfl
    · exact Sl.of_row (e := 25) (fz := (0, 0)) (cs := #[.int .i64 1, .int .i64 2, .string ⟨#[]⟩, .int .i64 2, .int .i64 0, .string ⟨#[97]⟩]) (by repeat (first | exact blk_new (by (simp; done)) | refine blk_alloc ?_ _)) V.len rfl rfl
    · exact Sl.of_row (e := 25) (fz := (0, 0)) (cs := #[.int .i64 1, .int .i64 3, .string ⟨#[]⟩, .int .i64 2, .int .i64 0, .string ⟨#[98]⟩]) (by repeat (first | exact blk_new (by (simp; done)) | refine blk_alloc ?_ _)) V.len rfl rfl
  rintro e w2 ⟨v, Q, rfl, hs, hl, hq, hb⟩
  have HB := Lib.hid (show Below w.heap.size w w2 from Below.trans (by go_grown) (hb.mono (by simp only [World.size_alloc]; omega)))
  have HRW := Lib.hid (blk_keep (g := w.heap.size + 1 + 1 + 1 + 1 + 1 + 1 + 1 + 1 + 1) (blk_new (by simp)) hb)
  have HR1 := Lib.hid (show w2.heap[w.heap.size + 1 + 1]? = some (.cells #[.int .i64 1, .int .i64 1, .string ⟨#[]⟩, .int .i64 2, .int .i64 0, .string ⟨#[98]⟩] 25 (0, 0)) from blk_keep (by repeat (first | exact blk_new (by (simp; done)) | refine blk_alloc ?_ _)) hb)
  clear hb hbw
  rw [show (awQ w.heap.size).map Rr.row = [awR1, awR2, awR3] from rfl, aw_pick] at hq
  obtain ⟨A1, A2, A3, c1, c2, c3, rfl⟩ := map3 hq
  clear hq
  obtain ⟨bv, ov, cv, rfl, hbv, hv0, hv1, hv2⟩ := hds_at hs
  obtain ⟨b1, o1, rfl, hb1, hn1⟩ := row_at (hl _ (List.mem_cons_self ..))
  obtain ⟨b2, o2, rfl, hb2, hn2⟩ := row_at (hl _ (List.mem_cons_of_mem _ (List.mem_cons_self ..)))
  obtain ⟨b3, o3, rfl, hb3, hn3⟩ := row_at (hl _ (List.mem_cons_of_mem _ (List.mem_cons_of_mem _ (List.mem_cons_self ..))))
  have HV := Lib.hid (And.intro hv0 (And.intro hv1 (And.intro hv2 (And.intro hn1 (And.intro hn2 hn3)))))
  have HLT := Lib.hid (And.intro hbv (And.intro hb1 (And.intro hb2 hb3)))
  clear hs hl hv0 hv1 hv2 hn1 hn2 hn3 hbv hb1 hb2 hb3
  go_wp2_with (first
    | (go_at_call 8; refine (num_eq _ _).mono ?_; rintro e w' ⟨rfl, rfl⟩))
  have hbw := Below.refl w2.heap.size w2
  refine (plan_any 1 _ _ _ awC 0 false 0 awI _ (Sl.alloc (Sl.new (by simp) Cnd.len (by rfl) rfl) _) (Sl.new (by simp) Ix.len (by rfl) rfl) aw_zok (by simp [awC]) (by simp [awI])).mono ?_
  rw [aw_plan]
  rintro e w3 ⟨rfl, hb⟩
  have hb' : Below w2.heap.size w2 w3 := Below.trans (by go_grown) (hb.mono (by simp only [World.size_alloc]; omega))
  have HB3 := Lib.hid (HB.out.trans (hb'.mono HB.out.size))
  have HRW3 := Lib.hid (blk_keep HRW.out hb')
  have HR13 := Lib.hid (blk_keep HR1.out hb')
  have v0 := (hb'.cell (p := ⟨bv, ov, none⟩) HLT.out.1).trans HV.out.1
  have v1 := (hb'.cell (p := ⟨bv, ov + 1, none⟩) HLT.out.1).trans HV.out.2.1
  have v2 := (hb'.cell (p := ⟨bv, ov + 2, none⟩) HLT.out.1).trans HV.out.2.2.1
  have n1 := (hb'.cell (p := ⟨b1, o1 + 1, none⟩) HLT.out.2.1).trans HV.out.2.2.2.1
  have n2 := (hb'.cell (p := ⟨b2, o2 + 1, none⟩) HLT.out.2.2.1).trans HV.out.2.2.2.2.1
  have n3 := (hb'.cell (p := ⟨b3, o3 + 1, none⟩) HLT.out.2.2.2).trans HV.out.2.2.2.2.2
  have l0 := Nat.lt_of_lt_of_le HLT.out.1 hb'.size
  have l1 := Nat.lt_of_lt_of_le HLT.out.2.1 hb'.size
  have l2 := Nat.lt_of_lt_of_le HLT.out.2.2.1 hb'.size
  have l3 := Nat.lt_of_lt_of_le HLT.out.2.2.2 hb'.size
  clear hb hb' hbw HRW HR1 HV HLT HB
  simp only [Pl.agg, Rr.hd] at *
  go_wp2_with fail
  have HB4 := Lib.hid (HB3.out.alloc HB3.out.size (.cells #[.int .i64 4, .string ⟨#[98, 121, 115, 105, 122, 101]⟩, .int .i64 1, .int .i64 10, .string ⟨#[]⟩, .int .i64 1, .int .i64 20, .string ⟨#[]⟩] 42))
  have HR14 := Lib.hid (blk_alloc HR13.out (.cells #[.int .i64 4, .string ⟨#[98, 121, 115, 105, 122, 101]⟩, .int .i64 1, .int .i64 10, .string ⟨#[]⟩, .int .i64 1, .int .i64 20, .string ⟨#[]⟩] 42))
  have HRW4 := Lib.hid (blk_alloc HRW3.out (.cells #[.int .i64 4, .string ⟨#[98, 121, 115, 105, 122, 101]⟩, .int .i64 1, .int .i64 10, .string ⟨#[]⟩, .int .i64 1, .int .i64 20, .string ⟨#[]⟩] 42))
  have HP4 := Lib.hid (blk_new (w0 := w3) (g := w3.heap.size) (o := .cells #[.int .i64 4, .string ⟨#[98, 121, 115, 105, 122, 101]⟩, .int .i64 1, .int .i64 10, .string ⟨#[]⟩, .int .i64 1, .int .i64 20, .string ⟨#[]⟩] 42) rfl)
  have ha : Below w3.heap.size w3 (w3.alloc (.cells #[.int .i64 4, .string ⟨#[98, 121, 115, 105, 122, 101]⟩, .int .i64 1, .int .i64 10, .string ⟨#[]⟩, .int .i64 1, .int .i64 20, .string ⟨#[]⟩] 42)) := (Below.refl _ _).alloc (Nat.le_refl _) _
  have v0 := (ha.cell (p := ⟨bv, ov, none⟩) l0).trans v0
  have v1 := (ha.cell (p := ⟨bv, ov + 1, none⟩) l0).trans v1
  have v2 := (ha.cell (p := ⟨bv, ov + 2, none⟩) l0).trans v2
  have n1 := (ha.cell (p := ⟨b1, o1 + 1, none⟩) l1).trans n1
  have n2 := (ha.cell (p := ⟨b2, o2 + 1, none⟩) l2).trans n2
  have n3 := (ha.cell (p := ⟨b3, o3 + 1, none⟩) l3).trans n3
  have l0 := Nat.lt_of_lt_of_le l0 ha.size
  have l1 := Nat.lt_of_lt_of_le l1 ha.size
  have l2 := Nat.lt_of_lt_of_le l2 ha.size
  have l3 := Nat.lt_of_lt_of_le l3 ha.size
  clear ha HB3 HR13 HRW3
  generalize w3.alloc (.cells #[.int .i64 4, .string ⟨#[98, 121, 115, 105, 122, 101]⟩, .int .i64 1, .int .i64 10, .string ⟨#[]⟩, .int .i64 1, .int .i64 20, .string ⟨#[]⟩] 42) = w4 at *
  have HMK := Lib.hid (show ∀ wn, Below w4.heap.size w4 wn → (Below w4.heap.size w4 wn ∧ w4.heap.size ≤ wn.heap.size ∧ wn.cell? ⟨bv, ov, none⟩ = some (.slice (some ⟨b1, o1, none⟩) 2 c1) ∧ wn.cell? ⟨bv, ov + 1, none⟩ = some (.slice (some ⟨b2, o2, none⟩) 2 c2) ∧ wn.cell? ⟨bv, ov + 2, none⟩ = some (.slice (some ⟨b3, o3, none⟩) 2 c3) ∧ wn.cell? ⟨b1, o1 + 1, none⟩ = some (.int .i64 1) ∧ wn.cell? ⟨b2, o2 + 1, none⟩ = some (.int .i64 3) ∧ wn.cell? ⟨b3, o3 + 1, none⟩ = some (.int .i64 2) ∧ wn.cell? ⟨w3.heap.size, 0, none⟩ = some (.int .i64 4) ∧ wn.cell? ⟨w3.heap.size, 1, none⟩ = some (.string ⟨#[98, 121, 115, 105, 122, 101]⟩) ∧ wn.cell? ⟨w3.heap.size, 2, none⟩ = some (.int .i64 1) ∧ wn.cell? ⟨w3.heap.size, 3, none⟩ = some (.int .i64 10) ∧ wn.cell? ⟨w3.heap.size, 4, none⟩ = some (.string ⟨#[]⟩) ∧ wn.cell? ⟨w3.heap.size, 5, none⟩ = some (.int .i64 1) ∧ wn.cell? ⟨w3.heap.size, 6, none⟩ = some (.int .i64 20) ∧ wn.cell? ⟨w3.heap.size, 7, none⟩ = some (.string ⟨#[]⟩) ∧ wn.cell? ⟨w.heap.size + 1 + 1 + 1 + 1 + 1 + 1 + 1 + 1 + 1, 0, none⟩ = some (.slice (some ⟨w.heap.size + 1 + 1, 0, none⟩) 2 2)) from fun wn h => ⟨h, h.size, (h.cell (p := ⟨bv, ov, none⟩) l0).trans v0, (h.cell (p := ⟨bv, ov + 1, none⟩) l0).trans v1, (h.cell (p := ⟨bv, ov + 2, none⟩) l0).trans v2,
    (h.cell (p := ⟨b1, o1 + 1, none⟩) l1).trans n1, (h.cell (p := ⟨b2, o2 + 1, none⟩) l2).trans n2, (h.cell (p := ⟨b3, o3 + 1, none⟩) l3).trans n3,
    blk_cell (blk_keep HP4.out h) 0, blk_cell (blk_keep HP4.out h) 1, blk_cell (blk_keep HP4.out h) 2, blk_cell (blk_keep HP4.out h) 3, blk_cell (blk_keep HP4.out h) 4, blk_cell (blk_keep HP4.out h) 5, blk_cell (blk_keep HP4.out h) 6, blk_cell (blk_keep HP4.out h) 7,
    blk_cell (blk_keep HRW4.out h) 0⟩)
  clear v0 v1 v2 n1 n2 n3 l0 l1 l2 l3
  go_region_held3 (fun wn => Below w4.heap.size w4 wn ∧ w4.heap.size ≤ wn.heap.size ∧ wn.cell? ⟨bv, ov, none⟩ = some (.slice (some ⟨b1, o1, none⟩) 2 c1) ∧ wn.cell? ⟨bv, ov + 1, none⟩ = some (.slice (some ⟨b2, o2, none⟩) 2 c2) ∧ wn.cell? ⟨bv, ov + 2, none⟩ = some (.slice (some ⟨b3, o3, none⟩) 2 c3) ∧ wn.cell? ⟨b1, o1 + 1, none⟩ = some (.int .i64 1) ∧ wn.cell? ⟨b2, o2 + 1, none⟩ = some (.int .i64 3) ∧ wn.cell? ⟨b3, o3 + 1, none⟩ = some (.int .i64 2) ∧ wn.cell? ⟨w3.heap.size, 0, none⟩ = some (.int .i64 4) ∧ wn.cell? ⟨w3.heap.size, 1, none⟩ = some (.string ⟨#[98, 121, 115, 105, 122, 101]⟩) ∧ wn.cell? ⟨w3.heap.size, 2, none⟩ = some (.int .i64 1) ∧ wn.cell? ⟨w3.heap.size, 3, none⟩ = some (.int .i64 10) ∧ wn.cell? ⟨w3.heap.size, 4, none⟩ = some (.string ⟨#[]⟩) ∧ wn.cell? ⟨w3.heap.size, 5, none⟩ = some (.int .i64 1) ∧ wn.cell? ⟨w3.heap.size, 6, none⟩ = some (.int .i64 20) ∧ wn.cell? ⟨w3.heap.size, 7, none⟩ = some (.string ⟨#[]⟩) ∧ wn.cell? ⟨w.heap.size + 1 + 1 + 1 + 1 + 1 + 1 + 1 + 1 + 1, 0, none⟩ = some (.slice (some ⟨w.heap.size + 1 + 1, 0, none⟩) 2 2))
    ((refine HMK.out _ ?_; go_split_ands; go_grown))
    (first
      | (go_at_call 8; refine (num_any _ _).mono ?_; rintro e w' ⟨rfl, hbc⟩; have hbw := below2 (w := w4) (by go_grown) hbc; have hsw := hbw.size)
      | (go_at_call 7; refine (match_any _ _ awR1 [⟨1, 1, ⟨0, 0, ⟨#[]⟩⟩⟩] _ (Sl.of_row (blk_keep HR14.out (by go_grown)) V.len rfl rfl) (Sl.new (by simp) Cnd.len (by rfl) rfl) (aw_even.size _ (List.mem_cons_self ..)) aw_cs (by simp) (by simp [awR1])).mono ?_; rw [aw_match]; rintro e w' ⟨rfl, hbc⟩; have hbw := below2 (w := w4) (by go_grown) hbc; have hsw := hbw.size)
      | (go_at_call 12; refine (check_any _ _ _ [] [] 0 false 0 _ Sl.nil Sl.nil aw_cn).mono ?_; (first | rw [aw_c0] | rw [aw_c1]); rintro e w' ⟨rfl, hbc⟩; have hbw := below2 (w := w4) (by go_grown) hbc; have hsw := hbw.size))
  all_goals go_wp2_with fail
  all_goals go_ret
  all_goals exact ⟨rfl, HB4.out.trans (Below.mono (w := w4) (by assumption) HB4.out.size)⟩
end Go.Proofs.YtlhmencjhhpacaaDoor
