/- query.shown, query.Pick. -/
import Derived.Test.YtlhmencjhhpacaaDoorPickLaw
import Derived.Test.YtlhmencjhhpacaaDoorFixed
import Derived.Test.YtlhmencjhhpacaaDoorChk
namespace Go.Proofs.YtlhmencjhhpacaaDoor
open Go.RowKit

theorem V.one (x : V) : ∀ u ∈ x.cells, u.oneCell' = true := by intro u hu; simp [V.cells] at hu; rcases hu with rfl | rfl | rfl <;> rfl
theorem elV : ElemT Tryd.prog 34 25 V.cells 3 32 :=
  ElemT.mk' (z := .agg #[.int .i64 0, .int .i64 0, .string ⟨#[]⟩]) Tryd.underlying34 (by kernel_rfl) (by rfl) (by omega) V.len V.one

set_option maxRecDepth 100000 in
set_option maxHeartbeats 1000000 in
theorem clone_any (v : Value) (r : List V) (w : World) (hr : Sl V.cells 3 w v r) (hl : r.length ≤ 1000000) :
    Calls Tryd.prog 32 #[v] w fun e w' => ∃ u, e = .returned u ∧ Sl V.cells 3 w' u r ∧ New w u ∧ Below w.heap.size w w' := by
  have HR := Lib.hid hr
  obtain ⟨A, c, rfl⟩ := Sl.len' hr
  clear hr
  rcases A with _ | ad
  · have hn : r = [] := by
      obtain ⟨A', c', he, h⟩ := HR.out
      injection he with h1 h2 h3
      by_cases e : r = []
      · exact e
      · obtain ⟨b, off, h4, _⟩ := h e
        rw [h4] at h1; cases h1
    subst hn
    have HF := Lib.hid (show Sl V.cells 3 w (.slice none 0 0) ([] : List V) from Sl.nil)
    have heq := Lib.run_eql_slice_nil (P := Tryd.prog) w 34 25 none 0 c 0 0 Tryd.underlying34
    go_enter Tryd.func32, Tryd.ntmps32
    go_wp2_with fail
    go_ret
    exact ⟨_, rfl, HF.out, New.nil, Below.refl _ _⟩
  · have heq := Lib.run_eql_slice_nil (P := Tryd.prog) w 34 25 (some ad) r.length c 0 0 Tryd.underlying34
    go_enter Tryd.func32, Tryd.ntmps32
    go_wp2_with (at_builtin; refine Hid.out ?_)
    refine Lib.hid ?_
    have hown0 : Own V.cells 3 25 w.heap.size (w.alloc (.cells #[] 25)) (.slice (some ⟨w.heap.size, 0, none⟩) 0 0) ([] : List V) := World.ownsRow_lit w #[] 0 (Nat.le_refl _) (by simp [maxLen]) (by simp)
    refine wpList_append_sl (xs := ([] : List V)) rfl rfl elV rfl rfl hown0 (HR.out.alloc _) (by simp [maxLen]; omega) (by simp only [List.length_nil]; omega) (by simp) ?_
    intro v2 w4 ho2 hg2 hat2
    have HO := Lib.hid (ho2.sl V.len)
    have HNW := Lib.hid (show New w v2 from fun k hk => (ho2.lt k hk).1)
    have HB := Lib.hid (below_app ((Below.refl w.heap.size w).alloc (Nat.le_refl _) _) hg2 (by simp) (fun k hk => (hown0.lt k hk).1))
    clear ho2 hg2 hat2 hown0
    go_wp2_with fail
    go_ret
    exact ⟨_, rfl, HO.out, HNW.out, HB.out⟩

/-- the columns that are shown -/
def showB (cs : List Int) (r : List V) : List V := if cs = [] then r else cs.filterMap fun n : Int => if 1 ≤ n ∧ n ≤ r.length then some (r.getD (n - 1).toNat vZero) else none
def selV (cs : List Int) (r : List V) : List V := cs.filterMap fun n : Int => if 1 ≤ n ∧ n ≤ r.length then some (r.getD (n - 1).toNat vZero) else none
theorem sel_in {cs : List Int} {r : List V} {k : Nat} (hk : k < cs.length) (h : 1 ≤ cs[k] ∧ cs[k] ≤ r.length) : selV (cs.take (k + 1)) r = selV (cs.take k) r ++ [r.getD (cs[k] - 1).toNat vZero] := by
  unfold selV
  rw [List.take_succ_eq_append_getElem hk, List.filterMap_append]
  simp [h]
theorem sel_out {cs : List Int} {r : List V} {k : Nat} (hk : k < cs.length) (h : ¬ (1 ≤ cs[k] ∧ cs[k] ≤ r.length)) : selV (cs.take (k + 1)) r = selV (cs.take k) r := by
  unfold selV
  rw [List.take_succ_eq_append_getElem hk, List.filterMap_append]
  simp only [List.filterMap_cons, List.filterMap_nil, if_neg h, List.append_nil]
theorem sel_len (cs : List Int) (r : List V) (k : Nat) : (selV (cs.take k) r).length ≤ cs.length := by
  have h1 := List.length_filterMap_le (fun n : Int => if 1 ≤ n ∧ n ≤ r.length then some (r.getD (n - 1).toNat vZero) else none) (cs.take k)
  have h2 : (cs.take k).length ≤ cs.length := List.length_take_le' ..
  unfold selV
  omega

set_option maxRecDepth 100000 in
set_option maxHeartbeats 2000000 in
theorem shown_any (t : Int) (cv lv rv : Value) (cs : List Int) (r : List V) (ord : Int) (down : Bool) (lim : Int) (w : World) (hlv : Sl iCells 1 w lv cs) (hr : Sl V.cells 3 w rv r) (hl : r.length ≤ 1000000) (hcl : cs.length ≤ 1000) :
    Calls Tryd.prog 20 #[.agg #[.int .i64 t, cv, lv, .int .i64 ord, .bool down, .int .i64 lim], rv] w fun e w' => ∃ u, e = .returned u ∧ Sl V.cells 3 w' u (showB cs r) ∧ New w u ∧ Below w.heap.size w w' := by
  obtain ⟨Al, cl, rfl⟩ := Sl.len' hlv
  obtain ⟨Ar, cr, rfl⟩ := Sl.len' hr
  have HL := Lib.hid hlv
  have HR := Lib.hid hr
  clear hlv hr
  go_enter Tryd.func20, Tryd.ntmps20
  by_cases h0 : cs = []
  · subst h0
    have hb : ([] : List Int).length = 0 := rfl
    go_wp2_with fail
    refine (clone_any _ r _ (HR.out.alloc _) hl).mono ?_
    rintro e w1 ⟨u, rfl, hs, hnw, hb1⟩
    have HS := Lib.hid hs
    have HNW := Lib.hid (show New w u from fun k hk => by have := hnw k hk; simp at this; omega)
    clear hnw
    have HB := Lib.hid (((Below.refl _ w).alloc (Nat.le_refl _) (.cells #[.int .i64 t, cv, .slice Al 0 cl, .int .i64 ord, .bool down, .int .i64 lim] 40)).trans (hb1.mono (by simp)))
    clear hs hb1
    go_wp2_with fail
    go_ret
    exact ⟨_, rfl, HS.out, HNW.out, HB.out⟩
  have HSH := Lib.hid (show showB cs r = selV cs r by unfold showB; rw [if_neg h0]; rfl)
  rcases HL.out.cases with ⟨A, c, he, hnil⟩ | ⟨b, off, c, he, -, hbl, hsl⟩
  · exact absurd hnil h0
  injection he with he1 he2 he3
  subst he1 he3
  have hlen : 0 < cs.length := List.length_pos_iff.2 h0
  have hne : ((cs.length : Int) == 0) = false := by simp; omega
  have HSL := Lib.hid hsl
  clear h0 hsl
  go_wp2_with fail
  have HB0 := Lib.hid ((Below.refl w.heap.size w).alloc (Nat.le_refl _) (.cells #[.int .i64 t, cv, .slice (some ⟨b, off, none⟩) cs.length cl, .int .i64 ord, .bool down, .int .i64 lim] 40))
  go_loopw [5, 17] (fun v2 i wr => ∃ k : Nat, k ≤ cs.length ∧ i = .int .i64 k ∧ Own V.cells 3 25 w.heap.size wr v2 (selV (cs.take k) r) ∧ Below w.heap.size w wr) (fun _ i _ => cs.length - (intOf i).toNat)
  case atStart => exact ⟨0, Nat.zero_le _, rfl, Own.nil (f := V.cells), HB0.out⟩
  case round =>
    obtain ⟨k, hk, rfl, ho, hb⟩ := hrel
    clear HB0
    have HO2 := Lib.hid ho
    have HB := Lib.hid hb
    have HR2 := Lib.hid (HR.out.keep hb)
    have HS2 := Lib.hid (HSL.out.keep hb)
    have hbl2 := Nat.lt_of_lt_of_le hbl hb.size
    clear ho hb
    by_cases hkl : k < cs.length
    rotate_left
    · have hke : k = cs.length := by omega
      subst hke
      have HF := Lib.hid (show Sl V.cells 3 wr _ (showB cs r) by rw [HSH.out]; have := HO2.out.sl V.len; rwa [List.take_length] at this)
      have HNW := Lib.hid (show New w u5 from fun k hk => (HO2.out.lt k hk).1)
      go_wp2_with fail
      go_ret
      exact ⟨_, rfl, HF.out, HNW.out, HB.out⟩
    obtain ⟨-, hcells⟩ := HS2.out.cells hkl
    have e0 : wr.cell? ⟨b, off + k, none⟩ = some (.int .i64 cs[k]) := by
      have := hcells 0 _ rfl
      simp only [Nat.mul_one, Nat.add_zero] at this
      exact this
    clear hcells
    have HIN := Lib.hid (sel_in (r := r) hkl)
    have HOUT := Lib.hid (sel_out (r := r) hkl)
    have HLN := Lib.hid (sel_len cs r k)
    have hk0 : (0 : Int) ≤ (k : Int) := by omega
    generalize cs[k] = n at *
    by_cases hn1 : 1 ≤ n
    rotate_left
    · have HX := Lib.hid (HOUT.out fun h => hn1 h.1)
      go_wp2_with fail
      go_roundw
      case rel => exact ⟨k + 1, by omega, by go_num, by rw [HX.out]; exact HO2.out, HB.out⟩
      case measure => simp [intOf]; omega
    by_cases hn2 : n ≤ r.length
    rotate_left
    · have HX := Lib.hid (HOUT.out fun h => hn2 h.2)
      go_wp2_with fail
      go_roundw
      case rel => exact ⟨k + 1, by omega, by go_num, by rw [HX.out]; exact HO2.out, HB.out⟩
      case measure => simp [intOf]; omega
    have HX := Lib.hid (HIN.out ⟨hn1, hn2⟩)
    clear HIN HOUT
    obtain ⟨j, rfl⟩ : ∃ j : Nat, n = (j : Int) + 1 := ⟨(n - 1).toNat, by omega⟩
    have hjr : j < r.length := by omega
    rw [show ((j : Int) + 1 - 1).toNat = j by omega, show r.getD j vZero = r[j] by simp [hjr]] at HX
    rcases HR2.out.cases with ⟨A, c, he, hnil⟩ | ⟨br, orr, c, he, -, hbr, hsr⟩
    · rw [hnil] at hjr; simp at hjr
    injection he with he1 he2 he3
    subst he1 he3
    obtain ⟨-, er⟩ := hsr.cells hjr
    obtain ⟨er0, er1, er2⟩ := V.row er
    clear er hsr
    generalize r[j] = x at *
    obtain ⟨xk, xn, xs⟩ := x
    simp only at er0 er1 er2
    have hjb : (j : Int) < (r.length : Int) := by omega
    have hj0 : (0 : Int) ≤ (j : Int) := by omega
    go_wp2_with (at_builtin; refine Hid.out ?_)
    refine Lib.hid ?_
    clear er0 er1 er2 e0
    refine wpList_append_sl rfl rfl elV rfl rfl (HO2.out.alloc _) (Sl.one (⟨xk, xn, xs⟩ : V) (by simp) V.len rfl) (by have := HLN.out; simp [maxLen]; omega) (by have := HLN.out; simp; omega) (by have := HB.out.size; simp; omega) ?_
    intro v2' w4 ho2 hg2 hat2
    have HO3 := Lib.hid ho2
    have hw1 := HB.out.size
    have HB2 := Lib.hid (below_app (HB.out.alloc HB.out.size _) hg2 (by simp; omega) (fun k hk => (HO2.out.lt k hk).1))
    clear ho2 hg2 hat2 hw1
    go_wp2_with fail
    go_roundw
    case rel => exact ⟨k + 1, by omega, by go_num, by rw [HX.out]; exact HO3.out, HB2.out⟩
    case measure => simp [intOf]; omega
end Go.Proofs.YtlhmencjhhpacaaDoor
