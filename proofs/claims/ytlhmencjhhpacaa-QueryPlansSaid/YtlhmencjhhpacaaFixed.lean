/- schema.Fixed and cahierref18.Fixed answer the five fixed entries, in new memory. -/
import Derived.Test.YtlhmencjhhpacaaOwn
import Derived.Test.YtlhmencjhhpacaaNum
namespace Go.Proofs.Ytlhmencjhhpacaa
open Go.RowKit

theorem elE : ElemT Try.prog 30 33 E.cells 5 48 :=
  ElemT.mk' (z := .agg #[.int .u8 0, .string ⟨#[]⟩, .int .i64 0, .int .i64 0, .int .i64 0]) Try.underlying30 (by kernel_rfl) rfl (by omega) E.len
    (fun x u hu => by simp only [E.cells, List.mem_cons, List.not_mem_nil, or_false] at hu; rcases hu with rfl | rfl | rfl | rfl | rfl <;> rfl)

def entT (t : Int) : E := ⟨116, ⟨#[]⟩, t, 0, 0⟩
def entU (t c : Int) : E := ⟨117, ⟨#[]⟩, t, c, 0⟩
def fixedT (k : Nat) : List E := (List.range k).map fun (i : Nat) => entT ((i : Int) + 1)
def isU (xs : List C) (j : Nat) : Bool := decide (0 < j) && (match xs[j]? with | some x => x.uniq | none => false)
def uniqE (t : Int) (xs : List C) (j : Nat) : List E := (List.range j).filterMap fun i => if isU xs i = true then some (entU t ((i : Int) + 1)) else none
def fixedU : Nat → List E
  | 0 => []
  | k + 1 => fixedU k ++ uniqE ((k : Int) + 1) (cols ((k : Int) + 1)) (cols ((k : Int) + 1)).length
def fixedL : List E := [entT 1, entT 2, entT 3, entU 1 2, entU 2 2]
theorem fixed_eq : fixedT 3 ++ fixedU 3 = fixedL := by rfl
theorem uniq_succ (t : Int) (xs : List C) (j : Nat) : uniqE t xs (j + 1) = uniqE t xs j ++ (if isU xs j = true then [entU t ((j : Int) + 1)] else []) := by
  unfold uniqE
  rw [List.range_succ, List.filterMap_append]
  congr 1
  by_cases h : isU xs j = true <;> simp [h]
theorem fixedT_succ (k : Nat) : fixedT (k + 1) = fixedT k ++ [entT ((k : Int) + 1)] := by
  unfold fixedT; rw [List.range_succ, List.map_append]; rfl
theorem fixedT_len (k : Nat) : (fixedT k).length = k := by simp [fixedT]
theorem uniq_len (t : Int) (xs : List C) (j : Nat) : (uniqE t xs j).length ≤ j := by
  have := List.length_filterMap_le (fun i => if isU xs i = true then some (entU t ((i : Int) + 1)) else none) (List.range j)
  simpa [uniqE] using this
theorem fixedU_len (k : Nat) : (fixedU k).length ≤ 4 * k := by
  induction k with
  | zero => simp [fixedU]
  | succ k ih =>
    have h1 := uniq_len ((k : Int) + 1) (cols ((k : Int) + 1)) (cols ((k : Int) + 1)).length
    have h2 := cols_len ((k : Int) + 1)
    simp only [fixedU, List.length_append]
    omega

theorem fixedR_any (w : World) : Calls Try.prog 20 #[] w fun e w' => ∃ v, e = .returned v ∧ Sl E.cells 5 w' v fixedL ∧ Below w.heap.size w w' := by
  go_enter Try.func20, Try.ntmps20
  go_wp2
  go_ret
  exact ⟨_, rfl, Sl.new (by simp) E.len rfl rfl, by go_grown⟩

theorem fixed_any (w : World) : Calls Try.prog 19 #[] w fun e w' => ∃ v, e = .returned v ∧ Sl E.cells 5 w' v fixedL ∧ Below w.heap.size w w' := by
  go_enter Try.func19, Try.ntmps19
  go_wp2_with (at_builtin; refine Hid.out ?_)
  go_loopw [1, 2, 3] (fun v1 v2 i wr => ∃ k : Nat, k ≤ 3 ∧ i = .int .i64 ((k : Int) + 1) ∧ Own E.cells 5 33 w.heap.size wr v1 (fixedT k) ∧ Own E.cells 5 33 w.heap.size wr v2 (fixedU k) ∧ Below w.heap.size w wr ∧ Dis v1 v2) (fun _ _ i _ => 4 - (intOf i).toNat)
  case atStart => exact ⟨0, by omega, rfl, Own.nil (f := E.cells), Own.nil (f := E.cells), Below.refl _ _, Dis.nil⟩
  case round =>
    obtain ⟨k, hk, rfl, ho1, ho2, hb, hd⟩ := hrel
    have HO1 := Lib.hid ho1
    have HO2 := Lib.hid ho2
    have HB := Lib.hid hb
    have HD := Lib.hid hd
    have hU := fixedU_len k
    have hT := fixedT_len k
    have HT := Lib.hid hT
    clear ho1 ho2 hb hd hT
    by_cases hk3 : k < 3
    · go_wp2_with (at_builtin; refine Hid.out ?_)
      refine Lib.hid ?_
      refine wpList_append_sl rfl rfl elE rfl rfl (HO1.out.alloc _) (Sl.one (entT ((k : Int) + 1)) (by simp) E.len rfl) (by rw [HT.out]; simp [maxLen]; omega) (by rw [HT.out]; simp; omega) (by have := HB.out.size; simp; omega) ?_
      intro u1 w1 ho1 hg1 hat1
      have HO1' := Lib.hid ho1
      have HO2' := Lib.hid ((HO2.out.alloc _).dis hg1 HD.out.symm)
      have HD' := Lib.hid (HD.out.app hat1 (HO2.out.alloc _))
      have HB' := Lib.hid (below_app (HB.out.alloc HB.out.size _) hg1 (by have := HB.out.size; simp; omega) (fun k hk => (HO1.out.lt k hk).1))
      clear ho1 hg1 hat1
      go_wp2_with fail
      refine (cols_any _ _).mono ?_
      rintro e w2 ⟨v, rfl, hsl, hnew, hb⟩
      have HO1 := Lib.hid (HO1'.out.below hb)
      have HO2 := Lib.hid (HO2'.out.below hb)
      have HB := Lib.hid (HB'.out.trans (hb.mono HB'.out.size))
      have HDc := Lib.hid (hnew.dis HO2'.out)
      clear HO1' HO2' HB' hnew hb
      have hne : cols ((k : Int) + 1) ≠ [] := by
        rcases (by omega : k = 0 ∨ k = 1 ∨ k = 2) with rfl | rfl | rfl <;> simp [cols]
      have hxl := cols_len ((k : Int) + 1)
      have hUs : fixedU (k + 1) = fixedU k ++ uniqE ((k : Int) + 1) (cols ((k : Int) + 1)) (cols ((k : Int) + 1)).length := rfl
      have HUs := Lib.hid hUs
      clear hUs
      generalize cols ((k : Int) + 1) = xs at *
      rcases hsl.cases with ⟨A, c, rfl, rfl⟩ | ⟨b, off, c, rfl, -, hbl, hsl'⟩
      · exact absurd rfl hne
      have HV := Lib.hid hsl'
      have HN := Lib.hid hne
      clear hsl hsl' hne hbl
      go_wp2_with fail
      go_loopw [2, 18] (fun v2 i wr => ∃ j : Nat, j ≤ xs.length ∧ i = .int .i64 j ∧ Own E.cells 5 33 w.heap.size wr u1 (fixedT k ++ [entT ((k : Int) + 1)]) ∧ Own E.cells 5 33 w.heap.size wr v2 (fixedU k ++ uniqE ((k : Int) + 1) xs j) ∧ Below w.heap.size w wr ∧ Dis u1 v2 ∧ Sl C.cells 5 wr (.slice (some ⟨b, off, none⟩) xs.length c) xs ∧ Dis (.slice (some ⟨b, off, none⟩) xs.length c) v2) (fun _ i _ => xs.length - (intOf i).toNat)
      case atStart => exact ⟨0, by omega, rfl, HO1.out, by simpa [uniqE] using HO2.out, HB.out, HD'.out, HV.out, HDc.out⟩
      case round =>
        obtain ⟨j, hj, rfl, ho1, ho2, hb, hd, hv, hdc⟩ := hrel
        clear HO1 HO2 HB HD' HV HDc
        have HO1 := Lib.hid ho1
        have HO2 := Lib.hid ho2
        have HB := Lib.hid hb
        have HD := Lib.hid hd
        have HV := Lib.hid hv
        have HDc := Lib.hid hdc
        clear ho1 ho2 hb hd hv hdc
        by_cases hjx : j < xs.length
        · obtain ⟨hbl', hcells⟩ := HV.out.cells hjx
          obtain ⟨e0, e1, e2, e3, e4⟩ := C.row hcells
          have HS := Lib.hid (uniq_succ ((k : Int) + 1) xs j)
          have HL := Lib.hid (uniq_len ((k : Int) + 1) xs j)
          by_cases hu : isU xs j = true
          · have hu0 : 0 < j ∧ xs[j].uniq = true := by simpa [isU, hjx] using hu
            obtain ⟨hj0, hu1⟩ := hu0
            have HU := Lib.hid hu
            clear hu hcells hbl'
            rw [hu1] at e3
            go_wp2_with (at_builtin; refine Hid.out ?_)
            refine Lib.hid ?_
            clear e0 e1 e2 e3 e4
            refine wpList_append_sl rfl rfl elE rfl rfl ((HO2.out.alloc _).alloc _) (Sl.one (entU ((k : Int) + 1) ((j : Int) + 1)) (by simp) E.len rfl) (by have := HL.out; simp [maxLen]; omega) (by have := HL.out; simp; omega) (by have := HB.out.size; simp; omega) ?_
            intro v2' w4 ho2 hg2 hat2
            have HO1' := Lib.hid (((HO1.out.alloc _).alloc _).dis hg2 HD.out)
            have HO2' := Lib.hid ho2
            have HD2 := Lib.hid (HD.out.symm.app hat2 ((HO1.out.alloc _).alloc _)).symm
            have HV2 := Lib.hid (((HV.out.alloc _).alloc _).dis hg2 HDc.out)
            have HDc2 := Lib.hid (HDc.out.appR hat2 ((HV.out.alloc _).alloc _) HN.out)
            have HB2 := Lib.hid (below_app ((HB.out.alloc HB.out.size _).alloc (by have := HB.out.size; simp; omega) _) hg2 (by have := HB.out.size; simp; omega) (fun k hk => (HO2.out.lt k hk).1))
            clear ho2 hg2 hat2
            go_wp2_with fail
            go_roundw
            case rel => exact ⟨j + 1, by omega, by go_num, HO1'.out, by rw [HS.out, if_pos HU.out, ← List.append_assoc]; exact HO2'.out, HB2.out, HD2.out, HV2.out, HDc2.out⟩
            case measure => simp [intOf]; omega
          · have hu0 : (xs[j].uniq = true ∧ j = 0) ∨ xs[j].uniq = false := by
              rcases Bool.eq_false_or_eq_true xs[j].uniq with hq | hq
              · refine .inl ⟨hq, ?_⟩
                rcases Nat.eq_zero_or_pos j with h0 | h0
                · exact h0
                · exact absurd (by simp [isU, hjx, h0, hq]) hu
              · exact .inr hq
            have HU := Lib.hid hu
            clear hu hcells hbl'
            have HBa := Lib.hid (HB.out.alloc HB.out.size (.cells #[.string xs[j].name, .int .i64 xs[j].kind, .bool xs[j].null, .bool xs[j].uniq, .int .i64 xs[j].ref] 29))
            rcases hu0 with ⟨hu1, h0⟩ | hu1
            · have hd0 : ¬ 0 < j := by omega
              have H0 := Lib.hid h0
              clear h0
              rw [hu1] at e3 HBa
              go_wp2_with (at_builtin; refine Hid.out ?_)
              go_roundw
              case rel => exact ⟨j + 1, by omega, by go_num, HO1.out.alloc _, by rw [HS.out, if_neg HU.out, List.append_nil]; exact HO2.out.alloc _, HBa.out, HD.out, HV.out.alloc _, HDc.out⟩
              case measure => simp [intOf]; omega
            · rw [hu1] at e3 HBa
              go_wp2_with (at_builtin; refine Hid.out ?_)
              go_roundw
              case rel => exact ⟨j + 1, by omega, by go_num, HO1.out.alloc _, by rw [HS.out, if_neg HU.out, List.append_nil]; exact HO2.out.alloc _, HBa.out, HD.out, HV.out.alloc _, HDc.out⟩
              case measure => simp [intOf]; omega
        · have hjx' : j = xs.length := by omega
          have HX := Lib.hid hjx'
          clear hjx'
          go_wp2_with (at_builtin; refine Hid.out ?_)
          go_roundw
          case rel => exact ⟨k + 1, by omega, by go_num, by rw [fixedT_succ]; exact HO1.out, by rw [HUs.out, ← HX.out]; exact HO2.out, HB.out, HD.out⟩
          case measure => simp [intOf]; omega
    · have hk3' : 3 = k := by omega
      subst hk3'
      go_wp2_with (at_builtin; refine Hid.out ?_)
      refine Lib.hid ?_
      refine wpList_append_sl rfl rfl elE rfl rfl HO1.out (HO2.out.sl E.len) (by rw [HT.out]; simp [maxLen]; omega) (by rw [HT.out]; omega) HB.out.size ?_
      intro v' w1 ho1 hg1 hat1
      have HF := Lib.hid (ho1.sl E.len)
      have HB' := Lib.hid (below_app HB.out hg1 HB.out.size (fun k hk => (HO1.out.lt k hk).1))
      rw [fixed_eq] at HF
      clear ho1 hg1 hat1
      go_wp2_with fail
      go_ret
      exact ⟨_, rfl, HF.out, HB'.out⟩
end Go.Proofs.Ytlhmencjhhpacaa
