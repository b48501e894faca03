/- query.over and cahierref20.indexes: the indexes of a table, the unique column's first. -/
import Derived.Test.YtlhmencjhhpacaaDoorPlanSpanR
import Derived.Test.YtlhmencjhhpacaaDoorFixed
import Derived.Deep.RegionHeld3
import Derived.Deep.AppendLies
import Derived.Deep.DrawnRows
import Derived.Lib.QuoteBits
namespace Go.Proofs.YtlhmencjhhpacaaDoor
open Go.RowKit
attribute [local go_sem ↓] Go.wp_at_zero Go.wp_at_succ

structure Ix where
  name : ByteArray
  table : Int
  col : Int
def Ix.cells (x : Ix) : List Value := [.string x.name, .int .i64 x.table, .int .i64 x.col]
theorem Ix.len (x : Ix) : x.cells.length = 3 := rfl
theorem Ix.row {w : World} {b o : Nat} {x : Ix} (h : ∀ j u, x.cells[j]? = some u → w.cell? ⟨b, o + j, none⟩ = some u) : w.cell? ⟨b, o, none⟩ = some (.string x.name) ∧ w.cell? ⟨b, o + 1, none⟩ = some (.int .i64 x.table) ∧ w.cell? ⟨b, o + 2, none⟩ = some (.int .i64 x.col) :=
  ⟨h 0 _ rfl, h 1 _ rfl, h 2 _ rfl⟩
theorem elI : ElemT Tryd.prog 46 45 Ix.cells 3 32 :=
  ElemT.mk' (z := .agg #[.string ⟨#[]⟩, .int .i64 0, .int .i64 0]) Tryd.underlying46 (by kernel_rfl) rfl (by omega) Ix.len
    (fun x u hu => by simp only [Ix.cells, List.mem_cons, List.not_mem_nil, or_false] at hu; rcases hu with rfl | rfl | rfl <;> rfl)

def ixU (t : Int) (xs : List C) (j : Nat) : Ix := ⟨tname t ++ ⟨#[46]⟩ ++ (xs.getD j cZero).name, t, (j : Int) + 1⟩
def uniqI (t : Int) (xs : List C) (j : Nat) : List Ix := (List.range j).filterMap fun i => if isU xs i = true then some (ixU t xs i) else none
theorem uniqI_succ (t : Int) (xs : List C) (j : Nat) : uniqI t xs (j + 1) = uniqI t xs j ++ (if isU xs j = true then [ixU t xs j] else []) := by
  unfold uniqI
  rw [List.range_succ, List.filterMap_append]
  congr 1
  by_cases h : isU xs j = true <;> simp [h]
theorem uniqI_len (t : Int) (xs : List C) (j : Nat) : (uniqI t xs j).length ≤ j := by
  unfold uniqI
  exact Nat.le_trans (List.length_filterMap_le _ _) (by simp)
def mineB (t : Int) (x : Ix) : Bool := x.table == t
def overI (t : Int) (list : List Ix) : List Ix := uniqI t (cols t) (cols t).length ++ list.filter (mineB t)
theorem mine_succ {t : Int} {list : List Ix} {k : Nat} (h : k < list.length) : (list.take (k + 1)).filter (mineB t) = (list.take k).filter (mineB t) ++ (if mineB t list[k] = true then [list[k]] else []) := by
  rw [List.take_succ_eq_append_getElem h, List.filter_append]
  congr 1
  by_cases hm : mineB t list[k] = true <;> simp [hm]
theorem mine_len {t : Int} {list : List Ix} {k : Nat} : ((list.take k).filter (mineB t)).length ≤ k :=
  Nat.le_trans (List.length_filter_le _ _) (by simp; omega)
theorem tname_size (t : Int) : (tname t).size ≤ 16 := by unfold tname; split <;> (try split) <;> (try split) <;> simp [ByteArray.size]
theorem cols_name (t : Int) : ∀ x ∈ cols t, x.name.size ≤ 16 := by
  intro x hx
  unfold cols at hx
  split at hx <;> (try split at hx) <;> (try split at hx) <;> simp [cId] at hx <;> (try (rcases hx with rfl | rfl | rfl | rfl <;> simp [ByteArray.size])) <;> (try (rcases hx with rfl | rfl | rfl <;> simp [ByteArray.size])) <;> (try (rcases hx with rfl | rfl <;> simp [ByteArray.size]))

section
variable {α : Type} {f : α → List Value} {size : Nat} {e : TypeId} {base : Nat} {w : World} {v : Value} {xs ys : List α}
theorem step_append_sl {P : Program} {ops : Array Oper} {o : Oper} {a : Act} {K : Act → World → Prop} {Q : Exit → Act → World → Prop} {E : Prop} (hgd : o.guard = none) {s x : Operand} {t : TypeId}
    (ho : o.op = .call { callee := .builtin .append, args := #[s, x], argTypes := #[t, t] }) {bytes : Nat} (T : ElemT P t e f size bytes) {y : Value} (hs : a.eval s = v) (hx : a.eval x = y)
    (hown : Own f size e base w v xs) (hy : Sl f size w y ys)
    (h63 : xs.length + ys.length ≤ maxLen) (hbytes : (xs.length + ys.length) * bytes ≤ 140737488355328) (hbase : base ≤ w.heap.size)
    (h : ∀ v' w', Own f size e base w' v' (xs ++ ys) → w.grownBy w' v.ownBlock → (v'.ownBlock = v.ownBlock ∨ v'.ownBlock = some w.heap.size) → K (a.put o.dst v') w') :
    if Region.wanted o (yielded ops a.tmps) = true then Oper.wp P o a w K Q else E := by
  have hw : Region.wanted o (yielded ops a.tmps) = true := by simp [Region.wanted, hgd]
  rw [if_pos hw]
  obtain ⟨v', w', hr, h2, h3, h5⟩ := run_append_sl (P := P) T o.type hown hy h63 hbytes hbase
  unfold Oper.wp execOp
  simp only [ho, resolve, invoke, builtin, Sem.run_bind, Sem.run_pure, Result.andThen_ok, List.map_toArray, List.map_cons, List.map_nil, hs, hx, hr]
  exact h v' w' h2 h3 h5
theorem Own.fresh (h : Own f size e base w v xs) : some w.heap.size ≠ v.ownBlock := fun hh => by have := (h.lt _ hh.symm).2; omega
end

set_option maxRecDepth 100000 in
set_option maxHeartbeats 2000000 in
theorem over_any (t : Int) (iv : Value) (list : List Ix) (w : World) (hiv : Sl Ix.cells 3 w iv list) (hl : list.length ≤ 1000) :
    Calls Tryd.prog 22 #[.int .i64 t, iv] w fun e w' => ∃ v, e = .returned v ∧ Sl Ix.cells 3 w' v (overI t list) ∧ Below w.heap.size w w' := by
  obtain ⟨Ai, ci, rfl⟩ := Sl.len' hiv
  have HIV := Lib.hid hiv
  clear hiv
  go_enter Tryd.func22, Tryd.ntmps22
  go_wp2_with fail
  refine (cols_any _ _).mono ?_
  rintro e w1 ⟨v, rfl, hsl, -, hb1⟩
  have HO := Lib.hid (show overI t list = uniqI t (cols t) (cols t).length ++ list.filter (mineB t) from rfl)
  have hxl := cols_len t
  have HNM := Lib.hid (cols_name t)
  have hts := tname_size t
  have HB1 := Lib.hid hb1
  clear hb1
  generalize cols t = xs at *
  obtain ⟨Av, cv, rfl⟩ := Sl.len' hsl
  have HV := Lib.hid hsl
  have HV0 := Lib.hid hsl
  clear hsl
  go_wp2_with fail
  go_loopw [5, 13] (fun v2 i wr => ∃ j : Nat, j ≤ xs.length ∧ i = .int .i64 j ∧ Own Ix.cells 3 45 w1.heap.size wr v2 (uniqI t xs j) ∧ Below w1.heap.size w1 wr) (fun _ i _ => xs.length - (intOf i).toNat)
  case atStart => exact ⟨0, by omega, rfl, Own.nil (f := Ix.cells), Below.refl _ _⟩
  case round =>
    obtain ⟨j, hj, rfl, ho, hb⟩ := hrel
    have HO2 := Lib.hid ho
    have HB := Lib.hid hb
    clear HV
    have HV := Lib.hid (HV0.out.keep hb)
    clear ho hb
    by_cases hjx : j < xs.length
    · rcases HV.out.cases with ⟨A, c, he, rfl⟩ | ⟨b, off, c, he, -, hbl, hsl'⟩
      · simp at hjx
      injection he with he1 he2 he3
      subst he1 he3
      obtain ⟨-, hcells⟩ := hsl'.cells hjx
      obtain ⟨e0, e1, e2, e3, e4⟩ := C.row hcells
      have HS := Lib.hid (uniqI_succ t xs j)
      have HL := Lib.hid (uniqI_len t xs j)
      have hns := HNM.out _ (List.getElem_mem hjx)
      have HIX := Lib.hid (show ixU t xs j = ⟨tname t ++ ⟨#[46]⟩ ++ xs[j].name, t, (j : Int) + 1⟩ by
        unfold ixU; rw [List.getD_eq_getElem?_getD, List.getElem?_eq_getElem hjx]; rfl)
      clear hcells hsl'
      by_cases hu : isU xs j = true
      · have hu0 : 0 < j ∧ xs[j].uniq = true := by simpa [isU, hjx] using hu
        obtain ⟨hj0, hu1⟩ := hu0
        have HU := Lib.hid hu
        clear hu
        rw [hu1] at e3
        go_wp2_with fail
        clear e0 e1 e2 e3 e4
        have HNE := HO2.out.fresh
        have hwr : IntKind.i64.wrap ((j : Int) + 1) = (j : Int) + 1 := by have := Lib.wrap_i64_small (j + 1) (by omega); simpa using this
        have nA : ¬ (9223372036854775807 < (tname t).size + 1) := by omega
        have nB : ¬ (9223372036854775807 < (tname t).size + 1 + xs[j].name.size) := by omega
        go_region_held3 (fun w' => w'.cell? ⟨wr.heap.size, 0, none⟩ = some (.string xs[j].name)) (first | go_keep | (rw [hg2.cell_far _ (by simp; omega) HNE]; assumption))
          (first
            | (go_at_call 33; refine (name_any _ _).mono ?_; rintro e w' ⟨rfl, rfl⟩)
            | (refine step_append_sl (by rfl) (by rfl) elI (by rfl) (by rfl) (World.ownsRow.drew ((HO2.out.alloc _).alloc _)) ((Sl.one (ixU t xs j) (by simp) Ix.len (by rw [HIX.out]; rfl)).keep ((Below.refl _ _).drew)) (by have := HL.out; simp [maxLen]; omega) (by have := HL.out; simp; omega) (by have := HB.out.size; simp; omega) ?_; intro v2' w4 ho2 hg2 hat2))
        clear nA nB HNE
        have HO2' := Lib.hid ho2
        have hw1 := HB.out.size
        have HB2 := Lib.hid (below_app (((HB.out.alloc HB.out.size _).alloc (by simp; omega) _).drew) hg2 (by simp; omega) (fun k hk => (HO2.out.lt k hk).1))
        clear ho2 hg2 hat2 hw1
        go_wp2_with fail
        go_roundw
        case rel => exact ⟨j + 1, by omega, by go_num, by rw [HS.out, if_pos HU.out]; exact HO2'.out, HB2.out⟩
        case measure => simp [intOf]; omega
      · have hu0 : (xs[j].uniq = true ∧ j = 0) ∨ xs[j].uniq = false := by
          rcases Bool.eq_false_or_eq_true xs[j].uniq with hq | hq
          · refine .inl ⟨hq, ?_⟩
            rcases Nat.eq_zero_or_pos j with h0 | h0
            · exact h0
            · exact absurd (by simp [isU, hjx, h0, hq]) hu
          · exact .inr hq
        have HU := Lib.hid hu
        clear hu
        have HBa := Lib.hid (HB.out.alloc HB.out.size (.cells #[.string xs[j].name, .int .i64 xs[j].kind, .bool xs[j].null, .bool xs[j].uniq, .int .i64 xs[j].ref] 68))
        rcases hu0 with ⟨hu1, h0⟩ | hu1
        · have hd0 : ¬ 0 < j := by omega
          have H0 := Lib.hid h0
          clear h0
          rw [hu1] at e3 HBa
          go_wp2_with fail
          go_roundw
          case rel => exact ⟨j + 1, by omega, by go_num, by rw [HS.out, if_neg HU.out, List.append_nil]; exact HO2.out.alloc _, HBa.out⟩
          case measure => simp [intOf]; omega
        · rw [hu1] at e3 HBa
          go_wp2_with fail
          all_goals
            go_roundw
            case rel => exact ⟨j + 1, by omega, by go_num, by rw [HS.out, if_neg HU.out, List.append_nil]; exact HO2.out.alloc _, HBa.out⟩
            case measure => simp [intOf]; omega
    · have hjx' : j = xs.length := by omega
      subst hjx'
      have HUL := Lib.hid (uniqI_len t xs xs.length)
      have HIV1 := Lib.hid (HIV.out.keep HB1.out)
      clear hts
      go_wp2_with fail
      go_loopw [5, 40] (fun v2 i wr => ∃ k : Nat, k ≤ list.length ∧ i = .int .i64 k ∧ Own Ix.cells 3 45 w1.heap.size wr v2 (uniqI t xs xs.length ++ (list.take k).filter (mineB t)) ∧ Below w1.heap.size w1 wr) (fun _ i _ => list.length - (intOf i).toNat)
      case atStart => exact ⟨0, by omega, rfl, by simpa using HO2.out, HB.out⟩
      case round =>
        obtain ⟨k, hk, rfl, ho, hb⟩ := hrel
        clear HO2 HB HV
        have HO2 := Lib.hid ho
        have HB := Lib.hid hb
        have HI := Lib.hid (HIV1.out.keep hb)
        clear ho hb
        by_cases hkl : k < list.length
        · rcases HI.out.cases with ⟨A, c, he, rfl⟩ | ⟨b, off, c, he, -, hbl, hsl'⟩
          · simp at hkl
          injection he with he1 he2 he3
          subst he1 he3
          obtain ⟨-, hcells⟩ := hsl'.cells hkl
          obtain ⟨e0, e1, e2⟩ := Ix.row hcells
          have HS := Lib.hid (mine_succ (t := t) hkl)
          have HL := Lib.hid (mine_len (t := t) (list := list) (k := k))
          clear hcells hsl'
          generalize hx : list[k] = x at *
          clear hx
          obtain ⟨xn, xt, xc⟩ := x
          simp only at e0 e1 e2
          by_cases hm : xt = t
          · subst hm
            go_wp2_with (at_builtin; refine Hid.out ?_)
            refine Lib.hid ?_
            clear e0 e1 e2
            refine wpList_append_sl rfl rfl elI rfl rfl ((HO2.out.alloc _).alloc _) (Sl.one (⟨xn, xt, xc⟩ : Ix) (by simp) Ix.len rfl) (by have := HL.out; have := HUL.out; simp [maxLen]; omega) (by have := HL.out; have := HUL.out; simp; omega) (by have := HB.out.size; simp; omega) ?_
            intro v2' w4 ho2 hg2 hat2
            have HO2' := Lib.hid ho2
            have hw1 := HB.out.size
            have HB2 := Lib.hid (below_app ((HB.out.alloc HB.out.size _).alloc (by simp; omega) _) hg2 (by simp; omega) (fun k hk => (HO2.out.lt k hk).1))
            clear ho2 hg2 hat2 hw1
            go_wp2_with fail
            go_roundw
            case rel => exact ⟨k + 1, by omega, by go_num, by rw [HS.out, if_pos (by simp [mineB]), ← List.append_assoc]; exact HO2'.out, HB2.out⟩
            case measure => simp [intOf]; omega
          · have HN := Lib.hid (show mineB t ⟨xn, xt, xc⟩ = false by simpa [mineB] using hm)
            go_wp2_with fail
            go_roundw
            case rel => exact ⟨k + 1, by omega, by go_num, by rw [HS.out, if_neg (by rw [HN.out]; simp), List.append_nil]; exact HO2.out.alloc _, HB.out.alloc HB.out.size _⟩
            case measure => simp [intOf]; omega
        · have HF := Lib.hid (show Sl Ix.cells 3 wr _ (overI t list) by rw [HO.out, ← List.take_of_length_le (l := list) (i := k) (by omega)]; exact HO2.out.sl Ix.len)
          have HBF := Lib.hid (HB1.out.trans (HB.out.mono HB1.out.size))
          go_wp2_with fail
          go_ret
          exact ⟨_, rfl, HF.out, HBF.out⟩
end Go.Proofs.YtlhmencjhhpacaaDoor
