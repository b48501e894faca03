/- The walk of cahierlaw16.TreeOrders. -/
import Derived.Test.YtknioodagnjchaaGreatDoorATAw16
import Derived.Test.YtknioodagnjchaaGreatDoorATNumb
import Derived.Deep.Cut
import Derived.Deep.CutRange
namespace Go.Proofs.YtknioodagnjchaaGreatDoor
open Go.RowKit

def bC (b : Bool) : List Value := [.bool b]
theorem flat_bC (l : List Bool) : l.flatMap bC = l.map Value.bool := by
  induction l with
  | nil => rfl
  | cons b l ih => simp [bC, ih]
/-- 'make([]bool, n)' -/
theorem mk_bools (w : World) (n : Nat) (h : n ≤ 1000000) : (Instr.makeSlice 40 (.int .i64 n) (.int .i64 n)).run Tryz.prog w = .ok (.slice (some ⟨w.heap.size, 0, none⟩) n n) (w.alloc (.cells ((List.replicate n false).flatMap bC).toArray 4)) := by
  obtain ⟨i, hi, hz, hsz, hby⟩ : ∃ i, Tryz.prog.info? 4 = some i ∧ i.zero = some (.bool false) ∧ i.size = 1 ∧ i.bytes = 1 := by
    have h := (show (Tryz.prog.info? 4).map (fun i => (i.zero, i.size, i.bytes)) = some (some (.bool false), 1, 1) by kernel_rfl)
    cases hi : Tryz.prog.info? 4 with
    | none => rw [hi] at h; cases h
    | some i =>
      rw [hi] at h
      simp only [Option.map_some, Option.some.injEq, Prod.mk.injEq] at h
      exact ⟨i, rfl, h.1, h.2.1, h.2.2⟩
  have e : madeCells (Value.cells (.bool false)) n = ((List.replicate n false).flatMap bC).toArray := by
    rw [← Array.toList_inj, show Value.cells (.bool false) = #[.bool false] from rfl, toList_madeCells_one]
    clear h
    induction n with
    | zero => rfl
    | succ n ih =>
      rw [List.replicate_succ, List.replicate_succ, List.flatMap_cons, ih]
      rfl
  rw [run_make w 40 4 i _ Tryz.underlying40 hi hz .i64 .i64 n n (by omega) (Int.le_refl _) (by rw [hby]; omega) (by omega), hsz, Nat.mul_one, Int.toNat_natCast, e]
/-- block g holds these -/
def Bools (w : World) (g : Nat) (l : List Bool) : Prop := w.heap[g]? = some (.cells (l.flatMap bC).toArray 4 (0, 0))
theorem Bools.cell {w : World} {g : Nat} {l : List Bool} (h : Bools w g l) {j : Nat} (hj : j < l.length) : w.cell? ⟨g, j, none⟩ = some (.bool l[j]) := by
  unfold Bools at h
  rw [flat_bC] at h
  simp [World.cell?, h, hj]
theorem Bools.set {w : World} {g : Nat} {l : List Bool} (h : Bools w g l) (j : Nat) (b : Bool) : Bools (w.setCell ⟨g, j, none⟩ (.bool b)) g (l.set j b) := by
  unfold Bools at h ⊢
  rw [flat_bC] at h
  simp only [World.setCell, Array.getElem?_modify, h, if_true, Option.map_some, flat_bC]
  simp [List.map_set]
theorem Bools.keep {w w' : World} {g : Nat} {l : List Bool} (h : Bools w g l) (hb : Below w.heap.size w w') : Bools w' g l := blk_keep h hb

theorem mod_nat (x : Int) (m : Int) (h0 : 0 < m) (h1 : m ≤ 1000000) : ∃ k : Nat, wrap64 ((IntKind.u64.wrap x).tmod m) = (k : Int) ∧ (k : Int) < m := by
  have h0' : 0 ≤ IntKind.u64.wrap x := by rw [IntKind.wrap_u64]; omega
  rw [Int.tmod_eq_emod_of_nonneg h0']
  have h2 := Int.emod_nonneg (IntKind.u64.wrap x) (show m ≠ 0 by omega)
  have h3 := Int.emod_lt_of_pos (IntKind.u64.wrap x) h0
  generalize IntKind.u64.wrap x % m = r at *
  refine ⟨r.toNat, ?_, by omega⟩
  unfold wrap64
  omega
theorem mod_nat2 (x : Int) : ∃ k : Nat, wrap64 (2 + wrap64 ((IntKind.u64.wrap x).tmod 63)) = (k : Int) ∧ 2 ≤ k ∧ k ≤ 64 := by
  obtain ⟨k, h1, h2⟩ := mod_nat x 63 (by omega) (by omega)
  rw [h1]
  refine ⟨k + 2, ?_, by omega, by omega⟩
  unfold wrap64
  omega
/-- one of the numbered keys' set -/
structure OrdI (w : World) (gs gm gt : Nat) (root : Int) (sz : Nat) (N : Nat) (wr : World) : Prop where
  h : ∃ s ps th, ShIs wr gs gm s ∧ TS s root ps [] ∧ wt ps ≤ N ∧ HasTh ps th (fun k => numB k sz) (fun k => numB k 5) ∧ th.length = 400 ∧ Bools wr gt th
  b : Below w.heap.size w wr

theorem Sl.int1 {w : World} {A : Option Addr} {n c k : Nat} {xs : List Int} (h : Sl iC 1 w (.slice A n c) xs) (hk : k < xs.length) : ∃ b off, A = some ⟨b, off, none⟩ ∧ b < w.heap.size ∧ w.cell? ⟨b, off + k, none⟩ = some (.int .i64 xs[k]) := by
  rcases h.cases with ⟨_, _, _, h0⟩ | ⟨b, off, c', he, -, hbl, hsl⟩
  · rw [h0] at hk; simp at hk
  · injection he with e1 e2 e3
    have := (hsl.cells hk).2 0 _ rfl
    simp only [Nat.mul_one, Nat.add_zero] at this
    exact ⟨b, off, e1, hbl, this⟩
set_option maxRecDepth 100000 in
set_option maxHeartbeats 4000000 in
theorem orders_any (order gone : List Int) (ov gv : Value) (size : Int) (w : World) (ho : Sl iC 1 w ov order) (hg : Sl iC 1 w gv gone) :
    Calls Tryz.prog 4 #[ov, gv, .int .i64 size] w fun e w' => e = .returned (.bool true) ∧ Below w.heap.size w w' := by
  obtain ⟨Ao, co, rfl⟩ := Sl.len' ho
  obtain ⟨Ag, cg, rfl⟩ := Sl.len' hg
  have HO := Lib.hid ho
  have HG := Lib.hid hg
  clear ho hg
  go_enter Tryz.func4, Tryz.ntmps4
  go_wp2_with fail
  refine (awake16_any w).mono ?_
  rintro e w0 ⟨rfl, hb⟩
  have HB0 := Lib.hid hb
  clear hb
  go_upto_region 4 with fail
  obtain ⟨sz, hsz, hs2, hs64⟩ := mod_nat2 size
  rw [hsz]
  clear hsz
  go_wp2_with fail
  refine (sNewShelf_any 4096 w0).mono ?_
  rintro e w1 ⟨gs, gm, rfl, hs, h1, h2, hb⟩
  have HS1 := Lib.hid (show ShIs w1 gs gm (newS 4096) from hs)
  have HB1 := Lib.hid (HB0.out.trans (hb.mono HB0.out.size))
  have HGS := Lib.hid (show w.heap.size ≤ gs ∧ w.heap.size ≤ gm from ⟨Nat.le_trans HB0.out.size h1, Nat.le_trans HB0.out.size h2⟩)
  clear hs h1 h2 hb
  obtain ⟨s2, root, hmk, -, hts, -⟩ := TS.make hp_new (by decide)
  go_wp2_with fail
  refine (make_ok hmk HS1.out).mono ?_
  rintro e w2 ⟨rfl, hs, hc⟩
  have HS2 := Lib.hid hs
  have HTS2 := Lib.hid hts
  have HB2 := Lib.hid (HB1.out.trans (hc.below HB1.out.size (fun k hk => hk.elim (fun e => e ▸ HGS.out.1) (fun e => e ▸ HGS.out.2))))
  clear hs hc hts hmk
  have hmb : (Instr.makeSlice 40 (.int .i64 400) (.int .i64 400)).run Tryz.prog w2 = .ok (.slice (some ⟨w2.heap.size, 0, none⟩) 400 400) (w2.alloc (.cells ((List.replicate 400 false).flatMap bC).toArray 4)) := mk_bools w2 400 (by omega)
  have HT3 := Lib.hid (show Bools (w2.alloc (.cells ((List.replicate 400 false).flatMap bC).toArray 4)) w2.heap.size (List.replicate 400 false) from blk_new rfl)
  have HW3 := Lib.hid (Below.alloc (Below.refl _ w2) (Nat.le_refl _) (.cells ((List.replicate 400 false).flatMap bC).toArray 4))
  generalize w2.alloc (.cells ((List.replicate 400 false).flatMap bC).toArray 4) = w3 at *
  have HI := Lib.hid (show OrdI w gs gm w2.heap.size root sz 0 w3 from ⟨⟨s2, [], _, HS2.out.ch (S := fun _ => False) (Ch.of_below HW3.out) id id, HTS2.out, Nat.le_refl _, HasTh.nil 400 _ _, List.length_replicate, HT3.out⟩, HB2.out.trans (HW3.out.mono HB2.out.size)⟩)
  have HN := Lib.hid (show w.heap.size ≤ w2.heap.size ∧ gs ≠ w2.heap.size ∧ gm ≠ w2.heap.size from ⟨HB2.out.size, fun e => by have := blk_lt HS2.out.blk; omega, fun e => by have := HS2.out.book.lt; omega⟩)
  clear HT3 HW3 HTS2 HS2
  generalize w2.heap.size = gt at *
  go_wp2_with fail
  go_loopw [11] (fun iv wr => ∃ i : Nat, i ≤ order.length ∧ i ≤ 300 ∧ iv = .int .i64 i ∧ OrdI w gs gm gt root sz (2 * i) wr) (fun iv _ => 300 - (intOf iv).toNat)
  case atStart => exact ⟨0, Nat.zero_le _, Nat.zero_le _, rfl, HI.out⟩
  case round =>
    obtain ⟨i, hi, hi3, rfl, ⟨s, ps, th, hs, hts, hwt, hth, hlen, hbl⟩, hb⟩ := hrel
    clear HI
    have HS3 := Lib.hid hs
    have HTS3 := Lib.hid hts
    have HWT3 := Lib.hid hwt
    have HTH3 := Lib.hid hth
    have HLN3 := Lib.hid hlen
    have HT3 := Lib.hid hbl
    have HB3 := Lib.hid hb
    clear hs hts hwt hth hlen hbl hb
    go_upto_region 10 with fail
    go_cut [45] from 38 to 67 (fun c wx => c = .bool (decide (i < order.length ∧ i < 300)) ∧ wx = wr)
    case first =>
      by_cases ha : i < order.length
      · have ha1 : (i : Int) < (order.length : Int) := by omega
        by_cases hb : i < 300
        · have hb1 : (i : Int) < 300 := by omega
          go_wp2_with fail
          go_meet
          case rel => exact ⟨by rw [decide_eq_true (show i < order.length ∧ i < 300 from ⟨ha, hb⟩)] <;> (first | rfl | rw [decide_eq_true hb1]), rfl⟩
        · have hb1 : (300 : Int) ≤ (i : Int) := by omega
          go_wp2_with fail
          go_meet
          case rel => exact ⟨by rw [decide_eq_false (show ¬ (i < order.length ∧ i < 300) from fun h => hb h.2)] <;> (first | rfl | rw [decide_eq_false (show ¬ (i : Int) < 300 by omega)]), rfl⟩
      · have ha1 : (order.length : Int) ≤ (i : Int) := by omega
        go_wp2_with fail
        go_meet
        case rel => exact ⟨by rw [decide_eq_false (show ¬ (i < order.length ∧ i < 300) from fun h => ha h.1)], rfl⟩
    case rest =>
     obtain ⟨rfl, rfl⟩ := hcut
     by_cases hlt : i < order.length ∧ i < 300
     · have hdl := decide_eq_true hlt
       obtain ⟨hlt, hlt3⟩ := hlt
       obtain ⟨b, off, rfl, hbl, e0⟩ := (HO.out.keep HB3.out).int1 hlt
       have hk0 : (0 : Int) ≤ (i : Int) := by omega
       have hk1 : (i : Int) < (order.length : Int) := by omega
       have hk2 : (i : Int) < 300 := by omega
       obtain ⟨k, hkk, hk4⟩ := mod_nat order[i] 400 (by omega) (by omega)
       generalize order[i] = x at *
       go_upto_region 13 with fail
       rw [hkk]
       clear hkk e0 hbl
       go_wp2_with fail
       refine (numbered_any k sz _ (by omega) (by omega) (by omega)).mono ?_
       rintro e w4 ⟨rfl, hb⟩
       have HS4 := Lib.hid (HS3.out.ch (S := fun _ => False) (Ch.of_below hb) id id)
       have HB4 := Lib.hid (HB3.out.trans (hb.mono HB3.out.size))
       have HT4 := Lib.hid (HT3.out.keep hb)
       clear hb
       go_wp2_with fail
       refine (numbered_any k 5 _ (by omega) (by omega) (by omega)).mono ?_
       rintro e w5 ⟨rfl, hb⟩
       have HS5 := Lib.hid (HS4.out.ch (S := fun _ => False) (Ch.of_below hb) id id)
       have HB5 := Lib.hid (HB4.out.trans (hb.mono HB4.out.size))
       have HT5 := Lib.hid (HT4.out.keep hb)
       clear hb
       obtain ⟨s', r1, r2, -⟩ := HTS3.out.put (by have := HWT3.out; simp; omega) (k := numB k sz) (v := numB k 5) (by rw [numB_len hs2]; exact hs64) (by rw [numB_len (by omega)]; omega)
       have HTS6 := Lib.hid r2
       go_wp2_with fail
       refine (put_ok r1 HS5.out).mono ?_
       rintro e w6 ⟨rfl, hs, hc⟩
       have hkl : k < th.length := by have := HLN3.out; omega
       have HS6 := Lib.hid hs
       have HT6 := Lib.hid (show Bools w6 gt th from hc.keep HT5.out (fun e => e.elim (fun e => HN.out.2.1 e.symm) (fun e => HN.out.2.2 e.symm)))
       have HB6 := Lib.hid (HB5.out.trans (hc.below HB5.out.size (fun k hk => hk.elim (fun e => e ▸ HGS.out.1) (fun e => e ▸ HGS.out.2))))
       clear hs hc r1 r2
       have e0 := HT6.out.cell hkl
       have e1 : gt < w6.heap.size := blk_lt HT6.out
       have e2 : w6.frozen? ⟨gt, k, none⟩ = false := blk_frozen HT6.out k
       have hk5 : (0 : Int) ≤ (k : Int) := by omega
       have HHT := Lib.hid (HTH3.out.put (k := k) (fun a b ha hb e => numB_inj (by have := HLN3.out; omega) (by have := HLN3.out; omega) e) hkl)
       have HWT6 := Lib.hid (show wt (putP ps (numB k sz) (numB k 5)) ≤ 2 * (i + 1) by
         have := wt_put ps (numB k sz) (numB k 5)
         have h5 : chn (numB k 5) = 0 := by unfold chn; rw [numB_len (by omega)]; rfl
         have := HWT3.out
         omega)
       go_wp2_with fail
       go_roundw
       case rel =>
         refine ⟨i + 1, by omega, by omega, by go_num, ⟨s', _, th.set k true, ?_, HTS6.out, HWT6.out, HHT.out, by rw [List.length_set]; exact HLN3.out, HT6.out.set k true⟩, ?_⟩
         · exact HS6.out.ch (S := fun j => j = gt) ((Ch.refl (fun j => j = gt) w6).setCell (p := ⟨gt, k, none⟩) rfl _) HN.out.2.1 HN.out.2.2
         · exact HB6.out.trans (Ch.below (S := fun j => j = gt) ((Ch.refl (fun j => j = gt) w6).setCell (p := ⟨gt, k, none⟩) rfl _) HB6.out.size (fun j e => e ▸ HN.out.1))
       case measure => simp [intOf]; omega
     · have hdl := decide_eq_false hlt
       rw [hdl]
       have HI2 := Lib.hid (show OrdI w gs gm gt root sz 600 wc from ⟨⟨s, ps, th, HS3.out, HTS3.out, by have := HWT3.out; omega, HTH3.out, HLN3.out, HT3.out⟩, HB3.out⟩)
       clear HS3 HTS3 HWT3 HTH3 HLN3 HT3 HB3
       clear hi hi3
       clear ps th s
       go_wp2_with fail
       clear hlt hdl
       go_loopw [13] (fun iv wr => ∃ i : Nat, i ≤ gone.length ∧ i ≤ 300 ∧ iv = .int .i64 i ∧ OrdI w gs gm gt root sz 600 wr) (fun iv _ => 300 - (intOf iv).toNat)
       case atStart => exact ⟨0, Nat.zero_le _, Nat.zero_le _, rfl, HI2.out⟩
       case round =>
        clear HI2
        obtain ⟨i, hi, hi3, rfl, ⟨s, ps, th, hs, hts, hwt, hth, hlen, hbl⟩, hb⟩ := hrel
        have HS3 := Lib.hid hs
        have HTS3 := Lib.hid hts
        have HWT3 := Lib.hid hwt
        have HTH3 := Lib.hid hth
        have HLN3 := Lib.hid hlen
        have HT3 := Lib.hid hbl
        have HB3 := Lib.hid hb
        clear hs hts hwt hth hlen hbl hb
        go_upto_region 17 with fail
        go_cut [75] from 68 to 107 (fun c wx => c = .bool (decide (i < gone.length ∧ i < 300)) ∧ wx = wr)
        case first =>
          by_cases ha : i < gone.length
          · have ha1 : (i : Int) < (gone.length : Int) := by omega
            by_cases hb : i < 300
            · have hb1 : (i : Int) < 300 := by omega
              go_wp2_with fail
              go_meet
              case rel => exact ⟨by rw [decide_eq_true (show i < gone.length ∧ i < 300 from ⟨ha, hb⟩)] <;> (first | rfl | rw [decide_eq_true hb1]), rfl⟩
            · have hb1 : (300 : Int) ≤ (i : Int) := by omega
              go_wp2_with fail
              go_meet
              case rel => exact ⟨by rw [decide_eq_false (show ¬ (i < gone.length ∧ i < 300) from fun h => hb h.2)] <;> (first | rfl | rw [decide_eq_false (show ¬ (i : Int) < 300 by omega)]), rfl⟩
          · have ha1 : (gone.length : Int) ≤ (i : Int) := by omega
            go_wp2_with fail
            go_meet
            case rel => exact ⟨by rw [decide_eq_false (show ¬ (i < gone.length ∧ i < 300) from fun h => ha h.1)], rfl⟩
        case rest =>
         obtain ⟨rfl, rfl⟩ := hcut
         by_cases hlt : i < gone.length ∧ i < 300
         · have hdl := decide_eq_true hlt
           obtain ⟨hlt, hlt3⟩ := hlt
           obtain ⟨b, off, rfl, hbl, e0⟩ := (HG.out.keep HB3.out).int1 hlt
           have hk0 : (0 : Int) ≤ (i : Int) := by omega
           have hk1 : (i : Int) < (gone.length : Int) := by omega
           have hk2 : (i : Int) < 300 := by omega
           obtain ⟨k, hkk, hk4⟩ := mod_nat gone[i] 400 (by omega) (by omega)
           generalize gone[i] = x at *
           go_upto_region 20 with fail
           rw [hkk]
           clear hkk e0 hbl
           go_wp2_with fail
           refine (numbered_any k sz _ (by omega) (by omega) (by omega)).mono ?_
           rintro e w4 ⟨rfl, hb⟩
           have HS4 := Lib.hid (HS3.out.ch (S := fun _ => False) (Ch.of_below hb) id id)
           have HB4 := Lib.hid (HB3.out.trans (hb.mono HB3.out.size))
           have HT4 := Lib.hid (HT3.out.keep hb)
           clear hb
           obtain ⟨s', r1, r2, -⟩ := HTS3.out.del (by have := HWT3.out; simp; omega) (numB k sz)
           have hkl : k < th.length := by have := HLN3.out; omega
           rw [HTH3.out.is hkl] at r1
           have HTS6 := Lib.hid r2
           have HHT := Lib.hid (HTH3.out.del (k := k) (fun a b ha hb e => numB_inj (by have := HLN3.out; omega) (by have := HLN3.out; omega) e) hkl)
           have HWT6 := Lib.hid (show wt (delP ps (numB k sz)) ≤ 600 from Nat.le_trans (wt_del ps _) HWT3.out)
           have HLS := Lib.hid (show (th.set k false).length = 400 by rw [List.length_set]; exact HLN3.out)
           go_wp2_with fail
           refine (del_ok r1 HS4.out).mono ?_
           rintro e w6 ⟨rfl, hs, hc⟩
           have HS6 := Lib.hid hs
           have HT6 := Lib.hid (show Bools w6 gt th from hc.keep HT4.out (fun e => e.elim (fun e => HN.out.2.1 e.symm) (fun e => HN.out.2.2 e.symm)))
           have HB6 := Lib.hid (HB4.out.trans (hc.below HB4.out.size (fun k hk => hk.elim (fun e => e ▸ HGS.out.1) (fun e => e ▸ HGS.out.2))))
           clear hs hc r1 r2
           have e0 := HT6.out.cell hkl
           have e1 : gt < w6.heap.size := blk_lt HT6.out
           have e2 : w6.frozen? ⟨gt, k, none⟩ = false := blk_frozen HT6.out k
           have hk5 : (0 : Int) ≤ (k : Int) := by omega
           generalize th[k] = bk at *
           cases bk
           all_goals
            go_wp2_with fail
            go_roundw
            case rel =>
              refine ⟨i + 1, by omega, by omega, by go_num, ⟨s', _, th.set k false, ?_, HTS6.out, HWT6.out, HHT.out, HLS.out, HT6.out.set k false⟩, ?_⟩
              · exact HS6.out.ch (S := fun j => j = gt) ((Ch.refl (fun j => j = gt) w6).setCell (p := ⟨gt, k, none⟩) rfl _) HN.out.2.1 HN.out.2.2
              · exact HB6.out.trans (Ch.below (S := fun j => j = gt) ((Ch.refl (fun j => j = gt) w6).setCell (p := ⟨gt, k, none⟩) rfl _) HB6.out.size (fun j e => e ▸ HN.out.1))
            case measure => simp [intOf]; omega
         · have hdl := decide_eq_false hlt
           rw [hdl]
           have HI3 := Lib.hid (show OrdI w gs gm gt root sz 600 wc from ⟨⟨s, ps, th, HS3.out, HTS3.out, HWT3.out, HTH3.out, HLN3.out, HT3.out⟩, HB3.out⟩)
           clear HS3 HTS3 HWT3 HTH3 HLN3 HT3 HB3
           clear hi hi3
           clear ps th s
           go_wp2_with fail
           clear hlt hdl
           go_loopw [17] (fun iv wr => ∃ k : Nat, k ≤ 400 ∧ iv = .int .i64 k ∧ OrdI w gs gm gt root sz 600 wr) (fun iv _ => 400 - (intOf iv).toNat)
           case atStart => exact ⟨0, Nat.zero_le _, rfl, HI3.out⟩
           case round =>
            clear HI3
            obtain ⟨k, hk, rfl, ⟨s, ps, th, hs, hts, hwt, hth, hlen, hbl⟩, hb⟩ := hrel
            have HS3 := Lib.hid hs
            have HTS3 := Lib.hid hts
            have HWT3 := Lib.hid hwt
            have HTH3 := Lib.hid hth
            have HLN3 := Lib.hid hlen
            have HT3 := Lib.hid hbl
            have HB3 := Lib.hid hb
            clear hs hts hwt hth hlen hbl hb
            by_cases hlt : k < 400
            · have hk1 : (k : Int) < 400 := by omega
              have hk5 : (0 : Int) ≤ (k : Int) := by omega
              go_wp2_with fail
              refine (numbered_any k sz _ (by omega) (by omega) (by omega)).mono ?_
              rintro e w4 ⟨rfl, hb⟩
              have HS4 := Lib.hid (HS3.out.ch (S := fun _ => False) (Ch.of_below hb) id id)
              have HB4 := Lib.hid (HB3.out.trans (hb.mono HB3.out.size))
              have HT4 := Lib.hid (HT3.out.keep hb)
              clear hb
              have hkl : k < th.length := by have := HLN3.out; omega
              have r1 := HTS3.out.get (by have := HWT3.out; simp; omega) (numB k sz)
              rw [HTH3.out k hkl] at r1
              cases hbk : th[k]
              · rw [hbk] at r1
                go_wp2_with fail
                refine (get_none r1 HS4.out).mono ?_
                rintro e w6 ⟨rfl, hs, hc⟩
                have HS6 := Lib.hid hs
                have HT6 := Lib.hid (show Bools w6 gt th from hc.keep HT4.out (fun e => e.elim (fun e => HN.out.2.1 e.symm) (fun e => HN.out.2.2 e.symm)))
                have HB6 := Lib.hid (HB4.out.trans (hc.below HB4.out.size (fun k hk => hk.elim (fun e => e ▸ HGS.out.1) (fun e => e ▸ HGS.out.2))))
                clear hs hc r1
                have e0 := HT6.out.cell hkl
                rw [hbk] at e0
                clear hbk
                have e1 : gt < w6.heap.size := blk_lt HT6.out
                go_wp2_with fail
                go_roundw
                case rel => exact ⟨k + 1, by omega, by go_num, ⟨s, ps, th, HS6.out, HTS3.out, HWT3.out, HTH3.out, HLN3.out, HT6.out⟩, HB6.out⟩
                case measure => simp [intOf]; omega
              · rw [hbk] at r1
                go_wp2_with fail
                refine (get_some r1 HS4.out).mono ?_
                rintro e w6 ⟨rfl, hs, hc⟩
                have HS6 := Lib.hid hs
                have HT6 := Lib.hid (show Bools w6 gt th from hc.keep HT4.out (fun e => e.elim (fun e => HN.out.2.1 e.symm) (fun e => HN.out.2.2 e.symm)))
                have HB6 := Lib.hid (HB4.out.trans (hc.below HB4.out.size (fun k hk => hk.elim (fun e => e ▸ HGS.out.1) (fun e => e ▸ HGS.out.2))))
                clear hs hc r1
                have e0 := HT6.out.cell hkl
                rw [hbk] at e0
                clear hbk
                have e1 : gt < w6.heap.size := blk_lt HT6.out
                go_wp2_with fail
                refine (numbered_any k 5 _ (by omega) (by omega) (by omega)).mono ?_
                rintro e w7 ⟨rfl, hb⟩
                have HS7 := Lib.hid (HS6.out.ch (S := fun _ => False) (Ch.of_below hb) id id)
                have HB7 := Lib.hid (HB6.out.trans (hb.mono HB6.out.size))
                have HT7 := Lib.hid (HT6.out.keep hb)
                clear hb
                go_wp2_with fail
                go_roundw
                case rel => exact ⟨k + 1, by omega, by go_num, ⟨s, ps, th, HS7.out, HTS3.out, HWT3.out, HTH3.out, HLN3.out, HT7.out⟩, HB7.out⟩
                case measure => simp [intOf]; omega
            · have hk1 : (400 : Int) ≤ (k : Int) := by omega
              go_wp2_with fail
              go_ret
              exact ⟨rfl, HB3.out⟩
end Go.Proofs.YtknioodagnjchaaGreatDoor
