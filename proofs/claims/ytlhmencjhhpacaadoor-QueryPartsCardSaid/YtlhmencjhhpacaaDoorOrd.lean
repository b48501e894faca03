/- query.order and its closure: how two rows stand. -/
import Derived.Test.YtlhmencjhhpacaaDoorMatch
import Derived.Deep.Cut
import Derived.Deep.CutRange
namespace Go.Proofs.YtlhmencjhhpacaaDoor
open Go.RowKit

def cmpVV (x y : V) : Int := cmpV x.k x.n x.s y.k y.n y.s
theorem orI_bd : ∀ xs : List Int, (∀ x ∈ xs, -1 ≤ x ∧ x ≤ 1) → -1 ≤ orI xs ∧ orI xs ≤ 1
  | [], _ => by unfold orI; omega
  | x :: xs, h => by
    unfold orI
    split
    · exact orI_bd xs fun y hy => h y (List.mem_cons_of_mem _ hy)
    · exact h x (List.mem_cons_self ..)
theorem cmpB_bd (a b : List UInt8) : -1 ≤ Lib.compareBytes a b ∧ Lib.compareBytes a b ≤ 1 := by
  induction a generalizing b with
  | nil => cases b <;> simp [Lib.compareBytes]
  | cons x a ih =>
    cases b with
    | nil => simp [Lib.compareBytes]
    | cons y b =>
      have := ih b
      unfold Lib.compareBytes
      repeat' split
      all_goals first | omega | exact this
theorem cmpVV_bd (x y : V) : -1 ≤ cmpVV x y ∧ cmpVV x y ≤ 1 := by
  unfold cmpVV cmpV
  split
  · omega
  · refine orI_bd _ fun z hz => ?_
    simp only [List.mem_cons, List.mem_nil_iff, or_false] at hz
    rcases hz with rfl | rfl | rfl
    · unfold Lib.compareInt; repeat' split <;> omega
    · unfold Lib.compareInt; repeat' split <;> omega
    · exact cmpB_bd _ _
def inC (ord : Int) (a : List V) : Bool := decide (1 ≤ ord ∧ ord ≤ a.length)
/-- by the column that is asked for -/
def ordK (ord : Int) (down : Bool) (a b : List V) : Int :=
  if inC ord a = true then (if down = true then -cmpVV (a.getD (ord - 1).toNat vZero) (b.getD (ord - 1).toNat vZero) else cmpVV (a.getD (ord - 1).toNat vZero) (b.getD (ord - 1).toNat vZero)) else 0
/-- .. then by the first one -/
def ordC (ord : Int) (down : Bool) (a b : List V) : Int :=
  if ordK ord down a b = 0 ∧ 0 < a.length then cmpVV (a.getD 0 vZero) (b.getD 0 vZero) else ordK ord down a b
theorem ordK_bd (ord : Int) (down : Bool) (a b : List V) : -1 ≤ ordK ord down a b ∧ ordK ord down a b ≤ 1 := by
  have := cmpVV_bd (a.getD (ord - 1).toNat vZero) (b.getD (ord - 1).toNat vZero)
  unfold ordK
  repeat' split
  all_goals omega

def qCells (t : Int) (cv lv : Value) (ord : Int) (down : Bool) (lim : Int) : Array Value := #[.int .i64 t, cv, lv, .int .i64 ord, .bool down, .int .i64 lim]

set_option maxRecDepth 100000 in
set_option maxHeartbeats 1000000 in
theorem order_any (t : Int) (cv lv : Value) (ord : Int) (down : Bool) (lim : Int) (w : World) :
    Calls Tryd.prog 19 #[.agg #[.int .i64 t, cv, lv, .int .i64 ord, .bool down, .int .i64 lim]] w fun e w' => e = .returned (.func (.func 31) #[] #[.pointer (some ⟨w.heap.size, 0, none⟩)]) ∧ w' = w.alloc (.cells #[.int .i64 t, cv, lv, .int .i64 ord, .bool down, .int .i64 lim] 40) := by
  go_enter Tryd.func19, Tryd.ntmps19
  go_wp2_with fail
  go_ret
  exact ⟨rfl, rfl⟩

set_option maxRecDepth 100000 in
set_option maxHeartbeats 2000000 in
theorem orderC_any (t : Int) (cv lv : Value) (ord : Int) (down : Bool) (lim : Int) (gq : Nat) (va vb : Value) (a b : List V) (w : World) (hq : w.heap[gq]? = some (.cells #[.int .i64 t, cv, lv, .int .i64 ord, .bool down, .int .i64 lim] 40 (0, 0)))
    (ha : Sl V.cells 3 w va a) (hb : Sl V.cells 3 w vb b) (hl : b.length = a.length) (has : ∀ x ∈ a, x.s.size ≤ maxLen) (hbs : ∀ x ∈ b, x.s.size ≤ maxLen) (hal : a.length ≤ 1000000) :
    Calls Tryd.prog 31 #[va, vb, .pointer (some ⟨gq, 0, none⟩)] w fun e w' => e = .returned (.int .i64 (ordC ord down a b)) ∧ Below w.heap.size w w' := by
  obtain ⟨Aa, ca, rfl⟩ := Sl.len' ha
  obtain ⟨Ab, cb, rfl⟩ := Sl.len' hb
  rw [hl] at hb ⊢
  have HQ := Lib.hid hq
  have HA := Lib.hid ha
  have HB := Lib.hid hb
  have HL := Lib.hid hl
  have hk := ordK_bd ord down a b
  have hk1 := hk.1
  have hk2 := hk.2
  have q0 : w.cell? ⟨gq, 3, none⟩ = some (.int .i64 ord) := blk_cell hq 3
  have q4 : w.cell? ⟨gq, 4, none⟩ = some (.bool down) := blk_cell hq 4
  have hql := blk_lt hq
  clear hq ha hb hl hk
  go_enter Tryd.func31, Tryd.ntmps31
  go_upto_region 2 with fail
  go_cut [16] from 7 to 16 (fun v wc => v = .bool (inC ord a) ∧ w = wc)
  case first =>
    by_cases h1 : 1 ≤ ord
    · by_cases h2 : ord ≤ a.length
      · have HI := Lib.hid (show Value.bool true = .bool (inC ord a) by unfold inC; rw [decide_eq_true ⟨h1, h2⟩])
        go_wp2_with fail
        go_meet
        case rel => exact ⟨HI.out, rfl⟩
      · have HI := Lib.hid (show Value.bool false = .bool (inC ord a) by unfold inC; rw [decide_eq_false (fun h => h2 h.2)])
        go_wp2_with fail
        go_meet
        case rel => exact ⟨HI.out, rfl⟩
    · have HI := Lib.hid (show Value.bool false = .bool (inC ord a) by unfold inC; rw [decide_eq_false (fun h => h1 h.1)])
      go_wp2_with fail
      go_meet
      case rel => exact ⟨HI.out, rfl⟩
  case rest =>
  obtain ⟨rfl, rfl⟩ := hcut
  go_upto_if 16 with fail
  go_cut [6] from 16 to 33 (fun v wc => v = .int .i64 (ordK ord down a b) ∧ Below w.heap.size w wc)
  case first =>
    rcases Bool.eq_false_or_eq_true (inC ord a) with hin | hin
    rotate_left
    · have HI := Lib.hid (show Value.int .i64 0 = .int .i64 (ordK ord down a b) by unfold ordK; rw [hin]; rfl)
      rw [hin]
      go_wp2_with fail
      go_meet
      case rel => exact ⟨HI.out, Below.refl _ _⟩
    · have hin' := hin
      unfold inC at hin'
      have hio := of_decide_eq_true hin'
      obtain ⟨j, rfl⟩ : ∃ j : Nat, ord = (j : Int) + 1 := ⟨(ord - 1).toNat, by omega⟩
      have hja : j < a.length := by omega
      rw [hin]
      have HK := Lib.hid (show ordK ((j : Int) + 1) down a b = if down = true then -cmpVV (a.getD j vZero) (b.getD j vZero) else cmpVV (a.getD j vZero) (b.getD j vZero) by
        unfold ordK; rw [if_pos hin]; rw [show ((j : Int) + 1 - 1).toNat = j by omega])
      rcases HA.out.cases with ⟨A', c', he, hnil⟩ | ⟨ba, oa, c', he, -, hbla, hsa⟩
      · rw [hnil] at hja; simp at hja
      injection he with he1 he2 he3
      subst he1 he3
      rw [← HL.out] at HB
      rcases HB.out.cases with ⟨A', c', he, hnil⟩ | ⟨bb, ob, c', he, -, hblb, hsb⟩
      · have := HL.out; rw [hnil] at this; simp at this; omega
      injection he with he1 he2 he3
      subst he1 he3
      have hjbl : j < b.length := by rw [HL.out]; exact hja
      obtain ⟨-, ea⟩ := hsa.cells hja
      obtain ⟨-, eb⟩ := hsb.cells hjbl
      obtain ⟨ea0, ea1, ea2⟩ := V.row ea
      obtain ⟨eb0, eb1, eb2⟩ := V.row eb
      have hxs := has _ (List.getElem_mem hja)
      have hys := hbs _ (List.getElem_mem hjbl)
      have ga : a.getD j vZero = a[j] := by simp [hja]
      have gb : b.getD j vZero = b[j] := by simp [hjbl]
      rw [ga, gb] at HK
      clear hin hin' hio ea eb ga gb hsa hsb
      generalize a[j] = x at *
      generalize b[j] = y at *
      obtain ⟨xk, xn, xs⟩ := x
      obtain ⟨yk, yn, ys⟩ := y
      simp only at ea0 ea1 ea2 eb0 eb1 eb2 hxs hys
      have ua0 := up_at ea0 hbla
      have ua1 := up_at ea1 hbla
      have ua2 := up_at ea2 hbla
      have ub0 := up_at eb0 hblb
      have ub1 := up_at eb1 hblb
      have ub2 := up_at eb2 hblb
      have uq := up_at q0 hql
      have hcb := cmpVV_bd ⟨xk, xn, xs⟩ ⟨yk, yn, ys⟩
      have hco : cmpV xk xn xs yk yn ys = cmpVV ⟨xk, xn, xs⟩ ⟨yk, yn, ys⟩ := rfl
      have HCO := Lib.hid hco
      generalize cmpVV ⟨xk, xn, xs⟩ ⟨yk, yn, ys⟩ = c at *
      obtain ⟨hc1, hc2⟩ := hcb
      clear hco ea0 ea1 ea2 eb0 eb1 eb2
      have hjb : (j : Int) < (a.length : Int) := by omega
      have hj0 : (0 : Int) ≤ (j : Int) := by omega
      go_wp2_with fail
      refine wp_region_up (by kernel_rfl) (by kernel_rfl) ?_
      repeat (go_big_quiet_step (first
        | (go_at_call 29; exact up_call (compare_any _ _ _ _ _ _ _ hxs hys))))
      refine wpQuiet_nil ?_
      rintro w' ⟨⟨w2, hb2⟩, rfl⟩
      rw [HCO.out]
      have q4' : w'.cell? ⟨gq, 4, none⟩ = some (.bool down) := blk_cell (blk_keep HQ.out hb2) 4
      have hql' := blk_lt (blk_keep HQ.out hb2)
      have HBB := Lib.hid hb2
      clear hb2 ua0 ua1 ua2 ub0 ub1 ub2 uq q4 hql q0
      cases down with
      | false =>
        have HI := Lib.hid (show Value.int .i64 c = .int .i64 (ordK ((j : Int) + 1) false a b) by rw [HK.out]; rfl)
        go_wp2_with fail
        go_meet
        case rel => exact ⟨HI.out, HBB.out⟩
      | true =>
        have HI := Lib.hid (show Value.int .i64 (-c) = .int .i64 (ordK ((j : Int) + 1) true a b) by rw [HK.out]; rfl)
        go_wp2_with fail
        go_meet
        case rel => exact ⟨HI.out, HBB.out⟩
  case rest =>
  obtain ⟨rfl, hbc⟩ := hcut
  have HBC := Lib.hid hbc
  have HA2 := Lib.hid (HA.out.keep hbc)
  have HB2 := Lib.hid (HB.out.keep hbc)
  have HR := Lib.hid (show ordC ord down a b = if ordK ord down a b = 0 ∧ 0 < a.length then cmpVV (a.getD 0 vZero) (b.getD 0 vZero) else ordK ord down a b from rfl)
  clear hbc q0 q4 hql HQ HA HB
  generalize ordK ord down a b = k at *
  by_cases hk0 : k = 0
  rotate_left
  · have HF := Lib.hid (show Ending.returned (.int .i64 k) = .returned (.int .i64 (ordC ord down a b)) by rw [HR.out, if_neg (fun h => hk0 h.1)])
    go_wp2_with fail
    go_ret
    exact ⟨HF.out, HBC.out⟩
  subst hk0
  by_cases hla : 0 < a.length
  rotate_left
  · have HF := Lib.hid (show Ending.returned (.int .i64 0) = .returned (.int .i64 (ordC ord down a b)) by rw [HR.out, if_neg (fun h => hla h.2)])
    have hla' : ¬ (0 : Int) < (a.length : Int) := by omega
    go_wp2_with fail
    go_ret
    exact ⟨HF.out, HBC.out⟩
  rcases HA2.out.cases with ⟨A', c', he, hnil⟩ | ⟨ba, oa, c', he, -, hbla, hsa⟩
  · rw [hnil] at hla; simp at hla
  injection he with he1 he2 he3
  subst he1 he3
  rw [← HL.out] at HB2
  rcases HB2.out.cases with ⟨A', c', he, hnil⟩ | ⟨bb, ob, c', he, -, hblb, hsb⟩
  · have := HL.out; rw [hnil] at this; simp at this; omega
  injection he with he1 he2 he3
  subst he1 he3
  have hjbl : 0 < b.length := by rw [HL.out]; exact hla
  obtain ⟨-, ea⟩ := hsa.cells hla
  obtain ⟨-, eb⟩ := hsb.cells hjbl
  obtain ⟨ea0, ea1, ea2⟩ := V.row ea
  obtain ⟨eb0, eb1, eb2⟩ := V.row eb
  simp only [Nat.zero_mul, Nat.add_zero] at ea0 ea1 ea2 eb0 eb1 eb2
  have hxs := has _ (List.getElem_mem hla)
  have hys := hbs _ (List.getElem_mem hjbl)
  have ga : a.getD 0 vZero = a[0] := by simp [hla]
  have gb : b.getD 0 vZero = b[0] := by simp [hjbl]
  rw [ga, gb] at HR
  clear ea eb ga gb hsa hsb
  generalize a[0] = x at *
  generalize b[0] = y at *
  obtain ⟨xk, xn, xs⟩ := x
  obtain ⟨yk, yn, ys⟩ := y
  simp only at ea0 ea1 ea2 eb0 eb1 eb2 hxs hys
  have HF := Lib.hid (show Ending.returned (.int .i64 (cmpV xk xn xs yk yn ys)) = .returned (.int .i64 (ordC ord down a b)) by rw [HR.out, if_pos ⟨rfl, hla⟩]; rfl)
  have ua0 := up_at ea0 hbla
  have ua1 := up_at ea1 hbla
  have ua2 := up_at ea2 hbla
  have ub0 := up_at eb0 hblb
  have ub1 := up_at eb1 hblb
  have ub2 := up_at eb2 hblb
  clear ea0 ea1 ea2 eb0 eb1 eb2 HR
  have hjb : (0 : Int) < (a.length : Int) := by omega
  go_wp2_with fail
  refine wp_region_up (by kernel_rfl) (by kernel_rfl) ?_
  repeat (go_big_quiet_step (first
    | (go_at_call 29; exact up_call (compare_any _ _ _ _ _ _ _ hxs hys))))
  refine wpQuiet_nil ?_
  rintro w' ⟨⟨w2, hb2⟩, rfl⟩
  have HBB := Lib.hid (HBC.out.trans (hb2.mono HBC.out.size))
  clear hb2 ua0 ua1 ua2 ub0 ub1 ub2
  go_wp2_with fail
  go_ret
  exact ⟨HF.out, HBB.out⟩
end Go.Proofs.YtlhmencjhhpacaaDoor
