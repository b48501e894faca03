/- query.meets, query.Match and the references': whether a row meets conditions. -/
import Derived.Test.YtlhmencjhhpacaaDoorCmp
namespace Go.Proofs.YtlhmencjhhpacaaDoor
open Go.RowKit

/-- A condition (api.Cond). -/
structure Cnd where
  col : Int
  op : Int
  v : V
def Cnd.cells (x : Cnd) : List Value := [.int .i64 x.col, .int .i64 x.op, .int .i64 x.v.k, .int .i64 x.v.n, .string x.v.s]
theorem Cnd.len (x : Cnd) : x.cells.length = 5 := rfl
theorem Cnd.row {w : World} {b o : Nat} {x : Cnd} (h : ∀ j u, x.cells[j]? = some u → w.cell? ⟨b, o + j, none⟩ = some u) : w.cell? ⟨b, o, none⟩ = some (.int .i64 x.col) ∧ w.cell? ⟨b, o + 1, none⟩ = some (.int .i64 x.op) ∧ w.cell? ⟨b, o + 2, none⟩ = some (.int .i64 x.v.k) ∧ w.cell? ⟨b, o + 3, none⟩ = some (.int .i64 x.v.n) ∧ w.cell? ⟨b, o + 4, none⟩ = some (.string x.v.s) :=
  ⟨h 0 _ rfl, h 1 _ rfl, h 2 _ rfl, h 3 _ rfl, h 4 _ rfl⟩

/-- whether a value meets a condition -/
def meetsB (vk vn : Int) (vs : ByteArray) (op ck cn : Int) (cs : ByteArray) : Bool :=
  if op == 7 then vk == 0 else if op == 8 then vk != 0 else if (vk == 0 || ck == 0) = true then false
  else if op == 1 then cmpV vk vn vs ck cn cs == 0 else if op == 2 then cmpV vk vn vs ck cn cs != 0 else if op == 3 then decide (cmpV vk vn vs ck cn cs < 0)
  else if op == 4 then decide (cmpV vk vn vs ck cn cs ≤ 0) else if op == 5 then decide (0 < cmpV vk vn vs ck cn cs) else if op == 6 then decide (0 ≤ cmpV vk vn vs ck cn cs) else false

theorem meets_any (vk vn : Int) (vs : ByteArray) (col op ck cn : Int) (cs : ByteArray) (w : World) (hv : vs.size ≤ maxLen) (hc : cs.size ≤ maxLen) :
    Calls Tryd.prog 17 #[.agg #[.int .i64 vk, .int .i64 vn, .string vs], .agg #[.int .i64 col, .int .i64 op, .int .i64 ck, .int .i64 cn, .string cs]] w fun e w' => e = .returned (.bool (meetsB vk vn vs op ck cn cs)) ∧ Below w.heap.size w w' := by
  rcases Bool.eq_false_or_eq_true (op == 7) with o7 | o7
  · have HR := Lib.hid (show meetsB vk vn vs op ck cn cs = (vk == 0) by unfold meetsB; rw [o7]; rfl)
    go_enter Tryd.func17, Tryd.ntmps17
    go_wp2_with fail
    go_ret
    exact ⟨ret_b HR.out.symm, by go_grown⟩
  rcases Bool.eq_false_or_eq_true (op == 8) with o8 | o8
  · have HR := Lib.hid (show meetsB vk vn vs op ck cn cs = (vk != 0) by unfold meetsB; rw [o7, o8]; rfl)
    go_enter Tryd.func17, Tryd.ntmps17
    go_wp2_with fail
    go_ret
    exact ⟨ret_b HR.out.symm, by go_grown⟩
  rcases Bool.eq_false_or_eq_true (vk == 0) with k0 | k0
  · have HR := Lib.hid (show meetsB vk vn vs op ck cn cs = false by unfold meetsB; rw [o7, o8, k0]; rfl)
    go_enter Tryd.func17, Tryd.ntmps17
    go_wp2_with fail
    go_ret
    exact ⟨ret_b HR.out.symm, by go_grown⟩
  rcases Bool.eq_false_or_eq_true (ck == 0) with c0 | c0
  · have HR := Lib.hid (show meetsB vk vn vs op ck cn cs = false by unfold meetsB; rw [o7, o8, k0, c0]; rfl)
    go_enter Tryd.func17, Tryd.ntmps17
    go_wp2_with fail
    go_ret
    exact ⟨ret_b HR.out.symm, by go_grown⟩
  have HR := Lib.hid (show meetsB vk vn vs op ck cn cs = if op == 1 then cmpV vk vn vs ck cn cs == 0 else if op == 2 then cmpV vk vn vs ck cn cs != 0 else if op == 3 then decide (cmpV vk vn vs ck cn cs < 0)
    else if op == 4 then decide (cmpV vk vn vs ck cn cs ≤ 0) else if op == 5 then decide (0 < cmpV vk vn vs ck cn cs) else if op == 6 then decide (0 ≤ cmpV vk vn vs ck cn cs) else false by unfold meetsB; rw [o7, o8, k0, c0]; rfl)
  go_enter Tryd.func17, Tryd.ntmps17
  go_wp2_with fail
  refine (compare_any _ _ _ _ _ _ _ hv hc).mono ?_
  rintro e w1 ⟨rfl, hb1⟩
  have hz1 : w.heap.size + 1 < w1.heap.size := by have := hb1.size; simp only [World.size_alloc] at this; omega
  have hcc : ∀ o, w1.cell? ⟨w.heap.size + 1, o, none⟩ = (#[.int .i64 col, .int .i64 op, .int .i64 ck, .int .i64 cn, .string cs] : Array Value)[o]? := fun o => by
    rw [hb1.cell (p := ⟨w.heap.size + 1, o, none⟩) (by simp)]; simp
  have HB := Lib.hid (((Below.refl _ w).alloc (Nat.le_refl _) _).alloc (by simp) _ |>.trans (hb1.mono (by simp; omega)))
  clear hb1
  generalize cmpV vk vn vs ck cn cs = c at *
  go_wp2_with fail
  all_goals go_ret
  all_goals refine ⟨ret_b ?_, HB.out⟩
  all_goals rw [HR.out]
  all_goals clear hcc HR
  all_goals simp_all

def vZero : V := ⟨0, 0, ⟨#[]⟩⟩
/-- whether a row meets a condition -/
def condB (r : List V) (c : Cnd) : Bool :=
  if 1 ≤ c.col ∧ c.col ≤ r.length then (match r[(c.col - 1).toNat]? with | some x => meetsB x.k x.n x.s c.op c.v.k c.v.n c.v.s | none => false) else false
def matchB (r : List V) (cs : List Cnd) : Bool := cs.all (condB r)
theorem condB_in {r : List V} {col op : Int} {v : V} {j : Nat} (hc : col = j + 1) (hj : j < r.length) : condB r ⟨col, op, v⟩ = meetsB r[j].k r[j].n r[j].s op v.k v.n v.s := by
  unfold condB
  rw [if_pos (by simp only; omega)]
  simp only
  rw [show (col - 1).toNat = j from by omega, List.getElem?_eq_getElem hj]
theorem condB_out {r : List V} {c : Cnd} (h : ¬ (1 ≤ c.col ∧ c.col ≤ r.length)) : condB r c = false := by
  unfold condB; rw [if_neg h]
theorem match_no {r : List V} {cs : List Cnd} {k : Nat} (hk : k < cs.length) (h : condB r cs[k] = false) : matchB r cs = false := by
  unfold matchB
  rw [List.all_eq_false]
  exact ⟨cs[k], List.getElem_mem hk, by rw [h]; simp⟩
theorem match_yes {r : List V} {cs : List Cnd} {k : Nat} (hk : ¬ k < cs.length) (h : ∀ j (h : j < cs.length), j < k → condB r cs[j] = true) : matchB r cs = true := by
  unfold matchB
  rw [List.all_eq_true]
  intro x hx
  obtain ⟨j, hj, rfl⟩ := List.getElem_of_mem hx
  exact h j hj (by omega)

theorem not_t {b : Bool} (h : (!b) = true) : b = false := by cases b <;> simp_all
theorem not_f {b : Bool} (h : (!b) = false) : b = true := by cases b <;> simp_all
theorem allUp {α : Type} {p : α → Bool} {xs : List α} {k : Nat} (h : ∀ j (h : j < xs.length), j < k → p xs[j] = true) (hk : k < xs.length) (hp : p xs[k] = true) : ∀ j (h : j < xs.length), j < k + 1 → p xs[j] = true := by
  intro j hj hlt
  by_cases e : j = k
  · subst e; exact hp
  · exact h j hj (by omega)

set_option maxRecDepth 100000 in
theorem match_any (rv cv : Value) (r : List V) (cs : List Cnd) (w : World) (hr : Sl V.cells 3 w rv r) (hc : Sl Cnd.cells 5 w cv cs) (hrs : ∀ x ∈ r, x.s.size ≤ maxLen) (hcs : ∀ x ∈ cs, x.v.s.size ≤ maxLen) (_hl : cs.length ≤ 1073741824) (_hl2 : r.length ≤ 1073741824) :
    Calls Tryd.prog 7 #[rv, cv] w fun e w' => e = .returned (.bool (matchB r cs)) ∧ Below w.heap.size w w' := by
  obtain ⟨Ar, cr, rfl⟩ := Sl.len' hr
  have HR := Lib.hid hr
  have HRS := Lib.hid hrs
  have HCS := Lib.hid hcs
  clear hr hrs hcs
  rcases hc.cases with ⟨A, c, rfl, rfl⟩ | ⟨b, off, c, rfl, -, hbl, hc'⟩
  · clear hc
    go_enter Tryd.func7, Tryd.ntmps7
    go_wp2_with fail
    go_rounds 1
    go_ret
    exact ⟨rfl, Below.refl _ _⟩
  have HC := Lib.hid hc'
  clear hc hc'
  go_enter Tryd.func7, Tryd.ntmps7
  go_wp2_with fail
  go_loopw [9] (fun i wr => ∃ k : Nat, k ≤ cs.length ∧ i = .int .i64 k ∧ Below w.heap.size w wr ∧ ∀ j (h : j < cs.length), j < k → condB r cs[j] = true) (fun i _ => cs.length - (intOf i).toNat)
  case atStart => exact ⟨0, Nat.zero_le _, rfl, Below.refl _ _, fun j _ h => absurd h (by omega)⟩
  case round =>
    obtain ⟨k, hk, rfl, hb, hall⟩ := hrel
    have HB := Lib.hid hb
    have HA := Lib.hid hall
    clear hall
    by_cases hkl : k < cs.length
    rotate_left
    · clear hb
      go_wp2_with fail
      go_ret
      exact ⟨ret_b (match_yes hkl HA.out).symm, HB.out⟩
    obtain ⟨hblr, hcells⟩ := (HC.out.keep hb).cells hkl
    have HRr := Lib.hid (HR.out.keep hb)
    obtain ⟨e0, e1, e2, e3, e4⟩ := Cnd.row hcells
    have HK := Lib.hid hkl
    have HN := Lib.hid (fun h => match_no (r := r) hkl h)
    have hcsz : cs[k].v.s.size ≤ maxLen := HCS.out _ (List.getElem_mem hkl)
    have hup := fun h => allUp (p := condB r) HA.out hkl h
    have HUP := Lib.hid hup
    clear hb hcells hup
    generalize hx : cs[k] = x at *
    clear hx
    obtain ⟨xc, xo, xk, xn, xs⟩ := x
    simp only at e0 e1 e2 e3 e4 hcsz
    have hnew := @up_new wr #[.int .i64 xc, .int .i64 xo, .int .i64 xk, .int .i64 xn, .string xs] 27
    by_cases hin : 1 ≤ xc ∧ xc ≤ r.length
    rotate_left
    · have HF := Lib.hid (condB_out (c := ⟨xc, xo, xk, xn, xs⟩) hin)
      by_cases h1 : xc < 1
      · have h1' : decide (xc < 1) = true := decide_eq_true h1
        clear h1
        go_wp2_with fail
        refine wp_region_up (by kernel_rfl) (by kernel_rfl) ?_
        repeat (go_big_quiet_step (fail))
        refine wpQuiet_nil ?_
        rintro w' ⟨⟨w2, hb2⟩, rfl⟩
        have HB2 := Lib.hid ((HB.out.alloc HB.out.size _).trans (hb2.mono (HB.out.alloc HB.out.size _).size))
        clear hb2
        go_wp2_with fail
        go_ret
        exact ⟨ret_b (HN.out HF.out).symm, HB2.out⟩
      · have h2 : decide ((r.length : Int) < xc) = true := decide_eq_true (by omega)
        have h1' : decide (xc < 1) = false := decide_eq_false h1
        clear h1
        go_wp2_with fail
        refine wp_region_up (by kernel_rfl) (by kernel_rfl) ?_
        repeat (go_big_quiet_step (fail))
        refine wpQuiet_nil ?_
        rintro w' ⟨⟨w2, hb2⟩, rfl⟩
        have HB2 := Lib.hid ((HB.out.alloc HB.out.size _).trans (hb2.mono (HB.out.alloc HB.out.size _).size))
        clear hb2
        go_wp2_with fail
        go_ret
        exact ⟨ret_b (HN.out HF.out).symm, HB2.out⟩
    obtain ⟨j, rfl⟩ : ∃ j : Nat, xc = j + 1 := ⟨(xc - 1).toNat, by omega⟩
    have hjl : j < r.length := by omega
    rcases HRr.out.cases with ⟨A, c', he, rfl⟩ | ⟨br, offr, c', he, -, hbrl, hr'⟩
    · simp at hjl
    injection he with he1 he2 he3
    subst he1 he3
    obtain ⟨-, hcells⟩ := hr'.cells hjl
    obtain ⟨g0, g1, g2⟩ := V.row hcells
    have f0 := up_alloc (O := .cells #[.int .i64 ((j : Int) + 1), .int .i64 xo, .int .i64 xk, .int .i64 xn, .string xs] 27) g0 hbrl
    have f1 := up_alloc (O := .cells #[.int .i64 ((j : Int) + 1), .int .i64 xo, .int .i64 xk, .int .i64 xn, .string xs] 27) g1 hbrl
    have f2 := up_alloc (O := .cells #[.int .i64 ((j : Int) + 1), .int .i64 xo, .int .i64 xk, .int .i64 xn, .string xs] 27) g2 hbrl
    have HM := Lib.hid (condB_in (r := r) (col := (j : Int) + 1) (op := xo) (v := ⟨xk, xn, xs⟩) rfl hjl)
    have hrsz : r[j].s.size ≤ maxLen := HRS.out _ (List.getElem_mem hjl)
    have a1 : decide ((j : Int) + 1 < 1) = false := decide_eq_false (by omega)
    have a2 : decide ((r.length : Int) < (j : Int) + 1) = false := decide_eq_false (by omega)
    clear hcells g0 g1 g2 hr' hin
    go_wp2_with fail
    refine wp_region_up (by kernel_rfl) (by kernel_rfl) ?_
    repeat (go_big_quiet_step (first | (go_at_call 17; exact up_call (meets_any _ _ _ _ _ _ _ _ _ hrsz hcsz))))
    refine wpQuiet_nil ?_
    rintro w' ⟨⟨w2, hb2⟩, rfl⟩
    have HB2 := Lib.hid ((HB.out.alloc HB.out.size _).trans (hb2.mono (HB.out.alloc HB.out.size _).size))
    clear hb2 f0 f1 f2 e0 e1 e2 e3 e4 hnew
    go_wp2_with fail
    · go_ret
      refine ⟨ret_b (HN.out ?_).symm, HB2.out⟩
      rw [HM.out]
      exact not_t ‹_›
    · go_roundw
      case rel => exact ⟨k + 1, by omega, by go_num, HB2.out, HUP.out (by rw [HM.out]; exact not_f ‹_›)⟩
      case measure => simp [intOf]; omega
end Go.Proofs.YtlhmencjhhpacaaDoor
