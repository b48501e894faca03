/- cahierref20.indexes: the indexes of a table, the unique column's first. -/
import Derived.Test.YtlhmencjhhpacaaPlanOver
namespace Go.Proofs.Ytlhmencjhhpacaa
open Go.RowKit
attribute [local go_sem ↓] Go.wp_at_zero Go.wp_at_succ

theorem uniqI_one (t : Int) (xs : List C) : uniqI t xs 1 = [] := by rw [uniqI_succ]; rfl
theorem uniqI_end {t : Int} {xs : List C} {j : Nat} (h1 : ¬ j < xs.length) (h : j ≤ xs.length ∨ j = 1) : uniqI t xs j = uniqI t xs xs.length := by
  rcases h with h | rfl
  · rw [show j = xs.length by omega]
  · rcases (by omega : xs.length = 0 ∨ xs.length = 1) with h | h
    · rw [h, uniqI_one]; rfl
    · rw [h]

set_option maxRecDepth 100000 in
set_option maxHeartbeats 2000000 in
theorem overR_any (t : Int) (iv : Value) (list : List Ix) (w : World) (hiv : Sl Ix.cells 3 w iv list) (hl : list.length ≤ 1000) :
    Calls Try.prog 60 #[.int .i64 t, iv] w fun e w' => ∃ v, e = .returned v ∧ Sl Ix.cells 3 w' v (overI t list) ∧ Below w.heap.size w w' := by
  obtain ⟨Ai, ci, rfl⟩ := Sl.len' hiv
  have HIV := Lib.hid hiv
  clear hiv
  go_enter Try.func60, Try.ntmps60
  go_wp2_with fail
  refine (colsR_any _ _).mono ?_
  rintro e w1 ⟨v, rfl, hsl, hnew, hb1⟩
  have hown0 : Own Ix.cells 3 38 w.heap.size (w.alloc (.cells #[] 38)) (.slice (some ⟨w.heap.size, 0, none⟩) 0 0) ([] : List Ix) := World.ownsRow_lit w #[] 0 (Nat.le_refl _) (by simp [maxLen]) (by simp)
  have HO := Lib.hid (show overI t list = uniqI t (cols t) (cols t).length ++ list.filter (mineB t) from rfl)
  have hxl := cols_len t
  have HNM := Lib.hid (cols_name t)
  have hts := tname_size t
  have HB1 := Lib.hid (((Below.refl _ w).alloc (Nat.le_refl _) (.cells #[] 38)).trans (hb1.mono (by simp)))
  have HO1 := Lib.hid (hown0.below hb1)
  have HD1 := Lib.hid (hnew.dis hown0)
  clear hb1 hown0 hnew
  generalize cols t = xs at *
  obtain ⟨Av, cv, rfl⟩ := Sl.len' hsl
  have HV := Lib.hid hsl
  clear hsl
  go_wp2_with fail
  go_loopw [5, 7] (fun v2 i wr => ∃ j : Nat, 1 ≤ j ∧ (j ≤ xs.length ∨ j = 1) ∧ i = .int .i64 j ∧ Own Ix.cells 3 38 w.heap.size wr v2 (uniqI t xs j) ∧ Below w.heap.size w wr ∧ Sl C.cells 5 wr (.slice Av xs.length cv) xs ∧ Dis (.slice Av xs.length cv) v2) (fun _ i _ => xs.length - (intOf i).toNat)
  case atStart => exact ⟨1, by omega, .inr rfl, rfl, by rw [uniqI_one]; exact HO1.out, HB1.out, HV.out, HD1.out⟩
  case round =>
    obtain ⟨j, hj1, hj, rfl, ho, hb, hv, hd⟩ := hrel
    clear HO1 HB1 HV HD1
    have HO2 := Lib.hid ho
    have HB := Lib.hid hb
    have HV := Lib.hid hv
    have HD := Lib.hid hd
    have HJ := Lib.hid hj
    clear ho hb hv hd hj
    by_cases hjx : j < xs.length
    · rcases HV.out.cases with ⟨A, c, he, rfl⟩ | ⟨b, off, c, he, hne, hbl, hsl'⟩
      · simp at hjx
      injection he with he1 he2 he3
      subst he1 he3
      obtain ⟨-, hcells⟩ := hsl'.cells hjx
      obtain ⟨e0, e1, e2, e3, e4⟩ := C.row hcells
      have HS := Lib.hid (uniqI_succ t xs j)
      have HL := Lib.hid (uniqI_len t xs j)
      have HXN := Lib.hid hne
      have hns := HNM.out _ (List.getElem_mem hjx)
      have HIX := Lib.hid (show ixU t xs j = ⟨tname t ++ ⟨#[46]⟩ ++ xs[j].name, t, (j : Int) + 1⟩ by
        unfold ixU; rw [List.getD_eq_getElem?_getD, List.getElem?_eq_getElem hjx]; rfl)
      have hi0 : (0 : Int) ≤ (j : Int) := by omega
      have hi1 : (j : Int) < (xs.length : Int) := by omega
      clear hcells hsl' hne e1 e2 e4
      by_cases hu : isU xs j = true
      · have hu0 : 0 < j ∧ xs[j].uniq = true := by simpa [isU, hjx] using hu
        obtain ⟨hj0, hu1⟩ := hu0
        have HU := Lib.hid hu
        clear hu
        rw [hu1] at e3
        go_wp2_with fail
        clear e3
        have HNE : some b ≠ _ := Ne.symm (HD.out b rfl)
        have hwr : IntKind.i64.wrap ((j : Int) + 1) = (j : Int) + 1 := by have := Lib.wrap_i64_small (j + 1) (by omega); simpa using this
        have nA : ¬ (9223372036854775807 < (tname t).size + 1) := by omega
        have nB : ¬ (9223372036854775807 < (tname t).size + 1 + xs[j].name.size) := by omega
        go_region_held3 (fun w' => w'.cell? ⟨b, off + j * 5, none⟩ = some (.string xs[j].name)) (first | go_keep | (rw [hg2.cell_far _ (by simp; omega) HNE]; assumption))
          (first
            | (go_at_call 14; refine (nameR_any _ _).mono ?_; rintro e w' ⟨rfl, rfl⟩)
            | (refine step_append_sl (by rfl) (by rfl) elI (by rfl) (by rfl) (World.ownsRow.drew (HO2.out.alloc _)) ((Sl.one (ixU t xs j) (by simp) Ix.len (by rw [HIX.out]; rfl)).keep ((Below.refl _ _).drew)) (by have := HL.out; simp [maxLen]; omega) (by have := HL.out; simp; omega) (by have := HB.out.size; simp; omega) ?_; intro v2' w4 ho2 hg2 hat2))
        clear nA nB HNE e0
        have HO2' := Lib.hid ho2
        have hw1 := HB.out.size
        have HB2 := Lib.hid (below_app ((HB.out.alloc HB.out.size _).drew) hg2 (by simp; omega) (fun k hk => (HO2.out.lt k hk).1))
        have HV2 := Lib.hid (((HV.out.alloc _).keep ((Below.refl _ _).drew)).dis hg2 HD.out)
        have HD2 := Lib.hid (HD.out.appR hat2 ((HV.out.alloc _).keep ((Below.refl _ _).drew)) HXN.out)
        clear ho2 hg2 hat2 hw1
        go_wp2_with fail
        go_roundw
        case rel => exact ⟨j + 1, by omega, .inl (by omega), by go_num, by rw [HS.out, if_pos HU.out]; exact HO2'.out, HB2.out, HV2.out, HD2.out⟩
        case measure => simp [intOf]; omega
      · have hu1 : xs[j].uniq = false := by
          rcases Bool.eq_false_or_eq_true xs[j].uniq with hq | hq
          · exact absurd (by simp [isU, hjx, hq]; omega) hu
          · exact hq
        have HU := Lib.hid hu
        clear hu
        rw [hu1] at e3
        go_wp2_with fail
        go_roundw
        case rel => exact ⟨j + 1, by omega, .inl (by omega), by go_num, by rw [HS.out, if_neg HU.out, List.append_nil]; exact HO2.out, HB.out, HV.out, HD.out⟩
        case measure => simp [intOf]; omega
    · have HUE := Lib.hid (uniqI_end (t := t) hjx HJ.out)
      have HUL := Lib.hid (uniqI_len t xs xs.length)
      clear hts
      go_wp2_with fail
      go_loopw [5, 8] (fun v2 i wr => ∃ k : Nat, k ≤ list.length ∧ i = .int .i64 k ∧ Own Ix.cells 3 38 w.heap.size wr v2 (uniqI t xs xs.length ++ (list.take k).filter (mineB t)) ∧ Below w.heap.size w wr) (fun _ i _ => list.length - (intOf i).toNat)
      case atStart => exact ⟨0, by omega, rfl, by rw [← HUE.out]; simpa using HO2.out, HB.out⟩
      case round =>
        obtain ⟨k, hk, rfl, ho, hb⟩ := hrel
        clear HO2 HB HV HD
        have HO2 := Lib.hid ho
        have HB := Lib.hid hb
        have HI := Lib.hid (HIV.out.keep hb)
        clear ho hb
        by_cases hkl : k < list.length
        · rcases HI.out.cases with ⟨A, c, he, rfl⟩ | ⟨b, off, c, he, -, hbl, hsl'⟩
          · simp at hkl
          injection he with he1 he2 he3
          subst he1 he3
          obtain ⟨-, hcells⟩ := hsl'.cells hkl
          obtain ⟨e0, e1, e2⟩ := Ix.row hcells
          have HS := Lib.hid (mine_succ (t := t) hkl)
          have HL := Lib.hid (mine_len (t := t) (list := list) (k := k))
          clear hcells hsl'
          generalize hx : list[k] = x at *
          clear hx
          obtain ⟨xn, xt, xc⟩ := x
          simp only at e0 e1 e2
          by_cases hm : xt = t
          · subst hm
            go_wp2_with (at_builtin; refine Hid.out ?_)
            refine Lib.hid ?_
            clear e0 e1 e2
            refine wpList_append_sl rfl rfl elI rfl rfl (HO2.out.alloc _) (Sl.one (⟨xn, xt, xc⟩ : Ix) (by simp) Ix.len rfl) (by have := HL.out; have := HUL.out; simp [maxLen]; omega) (by have := HL.out; have := HUL.out; simp; omega) (by have := HB.out.size; simp; omega) ?_
            intro v2' w4 ho2 hg2 hat2
            have HO2' := Lib.hid ho2
            have hw1 := HB.out.size
            have HB2 := Lib.hid (below_app (HB.out.alloc HB.out.size _) hg2 (by simp; omega) (fun k hk => (HO2.out.lt k hk).1))
            clear ho2 hg2 hat2 hw1
            go_wp2_with fail
            go_roundw
            case rel => exact ⟨k + 1, by omega, by go_num, by rw [HS.out, if_pos (by simp [mineB]), ← List.append_assoc]; exact HO2'.out, HB2.out⟩
            case measure => simp [intOf]; omega
          · have HN := Lib.hid (show mineB t ⟨xn, xt, xc⟩ = false by simpa [mineB] using hm)
            go_wp2_with fail
            go_roundw
            case rel => exact ⟨k + 1, by omega, by go_num, by rw [HS.out, if_neg (by rw [HN.out]; simp), List.append_nil]; exact HO2.out, HB.out⟩
            case measure => simp [intOf]; omega
        · have HF := Lib.hid (show Sl Ix.cells 3 wr _ (overI t list) by rw [HO.out, ← List.take_of_length_le (l := list) (i := k) (by omega)]; exact HO2.out.sl Ix.len)
          go_wp2_with fail
          go_ret
          exact ⟨_, rfl, HF.out, HB.out⟩
end Go.Proofs.Ytlhmencjhhpacaa
