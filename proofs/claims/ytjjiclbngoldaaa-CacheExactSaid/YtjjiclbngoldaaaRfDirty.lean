/- The reference's cache: Dirty. -/
import Derived.Test.YtjjiclbngoldaaaRfSame
namespace Go.Proofs.Ytjjiclbngoldaaa
open Go.RowKit

def stepI (p : Pg) (st : List Pg × Bool) (y : Pg) : List Pg × Bool := if st.2 = false ∧ p.n < y.n then (st.1 ++ [p] ++ [y], true) else (st.1 ++ [y], st.2)
def insI (p : Pg) (xs : List Pg) : List Pg × Bool := xs.foldl (stepI p) ([], false)
def finI (p : Pg) (xs : List Pg) : List Pg := if (insI p xs).2 then (insI p xs).1 else (insI p xs).1 ++ [p]
def dirtyO (L : List On) : List Pg := L.foldl (fun out x => if x.2.2 then finI (pgOf x) out else out) []
theorem insI_snoc (p : Pg) (xs : List Pg) (y : Pg) : insI p (xs ++ [y]) = stepI p (insI p xs) y := by simp [insI]
theorem dirtyO_snoc (L : List On) (x : On) : dirtyO (L ++ [x]) = if x.2.2 then finI (pgOf x) (dirtyO L) else dirtyO L := by simp [dirtyO]
theorem insI_len (p : Pg) (xs : List Pg) (st : List Pg × Bool) : (xs.foldl (stepI p) st).1.length + (if (xs.foldl (stepI p) st).2 then 0 else 1) = st.1.length + (if st.2 then 0 else 1) + xs.length := by
  induction xs generalizing st with
  | nil => rfl
  | cons y ys ih =>
    rw [List.foldl_cons, ih]
    obtain ⟨l, b⟩ := st
    unfold stepI
    cases b
    · by_cases h : p.n < y.n <;> simp [h] <;> omega
    · simp; omega
theorem insI_le (p : Pg) (xs : List Pg) : (insI p xs).1.length ≤ xs.length + 1 := by
  have := insI_len p xs ([], false)
  unfold insI
  simp at this
  omega
theorem finI_len (p : Pg) (xs : List Pg) : (finI p xs).length = xs.length + 1 := by
  have := insI_len p xs ([], false)
  unfold finI insI
  split
  · rename_i h; simp [h] at this; omega
  · rename_i h; simp [h] at this; simp; omega
theorem dirtyO_len (L : List On) : (dirtyO L).length ≤ L.length := by
  unfold dirtyO
  suffices h : ∀ (L : List On) (o : List Pg), (L.foldl (fun out x => if x.2.2 then finI (pgOf x) out else out) o).length ≤ o.length + L.length by simpa using h L []
  intro L
  induction L with
  | nil => intro o; simp
  | cons x L ih =>
    intro o
    rw [List.foldl_cons]
    have := ih (if x.2.2 then finI (pgOf x) o else o)
    have h2 : (if x.2.2 then finI (pgOf x) o else o).length ≤ o.length + 1 := by split; rw [finI_len]; exact Nat.le_refl _; omega
    rw [List.length_cons]
    omega
theorem Own.base {α : Type} {f : α → List Value} {size : Nat} {e : TypeId} {b b' : Nat} {w : World} {v : Value} {xs : List α} (h : Own f size e b w v xs) (hb : b' ≤ b) : Own f size e b' w v xs :=
  ⟨h.1, h.2.imp id fun ⟨g, cap, cur, h1, h2, h3⟩ => ⟨g, cap, cur, h1, Nat.le_trans hb h2, h3⟩⟩
attribute [local go_sem ↓] app_eq

set_option maxRecDepth 100000 in
set_option maxHeartbeats 2000000 in
theorem refDirty_any (gu : Nat) (lv : Value) (size : Int) (L : List On) (w : World) (h : Rf w gu lv size L) (hl : L.length ≤ 256) :
    Calls Try.prog 22 #[.pointer (some ⟨gu, 0, none⟩)] w fun e w' => ∃ r, e = .returned r ∧ Sl Pg.cells 2 w' r (dirtyO L) ∧ New w r ∧ Below w.heap.size w w' := by
  obtain ⟨Al, cl, rfl⟩ := Sl.len' h.sl
  have H := Lib.hid h
  clear h
  go_enter Try.func22, Try.ntmps22
  go_wp2_with fail
  go_loopw [3, 4] (fun ov i wr => ∃ k : Nat, k ≤ L.length ∧ i = .int .i64 k ∧ Own Pg.cells 2 29 w.heap.size wr ov (dirtyO (L.take k)) ∧ Below w.heap.size w wr) (fun _ i _ => L.length - (intOf i).toNat)
  case atStart => exact ⟨0, Nat.zero_le _, rfl, World.ownsRow_lit w #[] 0 (Nat.le_refl _) (by simp [maxLen]) (by simp), (Below.refl _ _).alloc (Nat.le_refl _) _⟩
  case round =>
    obtain ⟨k, hk, rfl, hown, hbel⟩ := hrel
    obtain ⟨wo, hwo⟩ : ∃ wo : World, wo = wr := ⟨_, rfl⟩
    subst hwo
    obtain ⟨a0, a1, a2, a3⟩ := rf_cells (blk_keep H.out.blk hbel)
    have HBEL := Lib.hid hbel
    have HDL := Lib.hid (show (dirtyO (L.take k)).length ≤ 256 from Nat.le_trans (dirtyO_len _) (by rw [List.length_take]; omega))
    obtain ⟨O, hO⟩ : ∃ O, O = dirtyO (L.take k) := ⟨_, rfl⟩
    rw [← hO] at hown HDL
    obtain ⟨Ao, co, hov⟩ := Sl.len' (hown.sl Pg.len)
    subst hov
    have HOWN := Lib.hid hown
    clear hown hbel
    by_cases hlt : k < L.length
    · have HS1 := Lib.hid (show dirtyO (L.take (k + 1)) = if L[k].2.2 then finI (pgOf L[k]) O else O by rw [List.take_succ_eq_append_getElem hlt, dirtyO_snoc, ← hO])
      clear hO
      obtain ⟨b, off, c, he, -, hbl, hsl⟩ := ((H.out.sl.keep HBEL.out).cases).resolve_left (fun ⟨A, c, _, h⟩ => by rw [h] at hlt; simp at hlt)
      injection he with he1 he2 he3
      subst he1 he3
      obtain ⟨-, hc1⟩ := hsl.cells hlt
      have HE0 := Lib.hid (show wo.cell? ⟨b, off + k * 3, none⟩ = some (.int .i64 L[k].1) by simpa using hc1 0 _ rfl)
      have HE1 := Lib.hid (show wo.cell? ⟨b, off + k * 3 + 1, none⟩ = some (.string L[k].2.1) by simpa using hc1 1 _ rfl)
      have e2 : wo.cell? ⟨b, off + k * 3 + 2, none⟩ = some (.bool L[k].2.2) := by simpa using hc1 2 _ rfl
      have hk0 : (0 : Int) ≤ (k : Int) := by omega
      have hk1 : (k : Int) < (L.length : Int) := by omega
      clear hc1 hsl
      generalize L[k] = x at *
      obtain ⟨xn, xs, xd⟩ := x
      simp only at HE0 HE1 e2 HS1
      cases xd
      · go_wp2_with fail
        go_roundw
        case rel => exact ⟨k + 1, by omega, by go_num, by rw [HS1.out]; exact HOWN.out, HBEL.out⟩
        case measure => simp [intOf]; omega
      · simp only [if_true] at HS1
        go_wp2_with fail
        go_loopw [5, 6, 7] (fun nv pv jv wr => ∃ j : Nat, j ≤ O.length ∧ jv = .int .i64 j ∧ pv = .bool (insI ⟨xn, xs⟩ (O.take j)).2 ∧ Own Pg.cells 2 29 wo.heap.size wr nv (insI ⟨xn, xs⟩ (O.take j)).1 ∧ Below wo.heap.size wo wr) (fun _ _ jv _ => O.length - (intOf jv).toNat)
        case atStart => exact ⟨0, Nat.zero_le _, rfl, rfl, World.ownsRow_lit wo #[] 0 (Nat.le_refl _) (by simp [maxLen]) (by simp), (Below.refl _ _).alloc (Nat.le_refl _) _⟩
        case round =>
          obtain ⟨j, hj, rfl, rfl, hown, hb⟩ := hrel
          have hob : O.length ≤ 256 := HDL.out
          have HBJ := Lib.hid hb
          obtain ⟨a0, a1, a2, a3⟩ := rf_cells (blk_keep H.out.blk (HBEL.out.trans (hb.mono HBEL.out.size)))
          have e0 := (hb.cell (p := ⟨b, off + k * 3, none⟩) hbl).trans HE0.out
          have e1 := (hb.cell (p := ⟨b, off + k * 3 + 1, none⟩) hbl).trans HE1.out
          have hbl' := Nat.lt_of_lt_of_le hbl hb.size
          have HNL := Lib.hid (show (insI ⟨xn, xs⟩ (O.take j)).1.length ≤ 257 from Nat.le_trans (insI_le _ _) (by rw [List.length_take]; have := HDL.out; omega))
          obtain ⟨An, cn, hnv⟩ := Sl.len' (hown.sl Pg.len)
          subst hnv
          have HNX := Lib.hid hown
          clear hown hb
          by_cases hjl : j < O.length
          · have HSJ := Lib.hid (show insI ⟨xn, xs⟩ (O.take (j + 1)) = stepI ⟨xn, xs⟩ (insI ⟨xn, xs⟩ (O.take j)) O[j] by rw [List.take_succ_eq_append_getElem hjl, insI_snoc])
            obtain ⟨b2, off2, c2, he, -, hbl2, hsl2⟩ := (((HOWN.out.sl Pg.len).keep HBJ.out).cases).resolve_left (fun ⟨A, c, _, h⟩ => by rw [h] at hjl; simp at hjl)
            injection he with he1 he2 he3
            subst he1 he3
            obtain ⟨-, hc2⟩ := hsl2.cells hjl
            have d0 : wr.cell? ⟨b2, off2 + j * 2, none⟩ = some (.int .i64 O[j].n) := by simpa using hc2 0 _ rfl
            have d1 : wr.cell? ⟨b2, off2 + j * 2 + 1, none⟩ = some (.string O[j].s) := by simpa using hc2 1 _ rfl
            have hj0 : (0 : Int) ≤ (j : Int) := by omega
            have hj1 : (j : Int) < (O.length : Int) := by omega
            clear hc2 hsl2
            have HDD := Lib.hid (show ∀ w7, Below wo.heap.size wo w7 → b2 < w7.heap.size ∧ w7.cell? ⟨b2, off2 + j * 2, none⟩ = some (.int .i64 O[j].n) ∧ w7.cell? ⟨b2, off2 + j * 2 + 1, none⟩ = some (.string O[j].s) from fun w7 h7 => by
              have hs7 := ((HOWN.out.sl Pg.len).keep h7).cells hjl
              exact ⟨hs7.1, by simpa using hs7.2 0 _ rfl, by simpa using hs7.2 1 _ rfl⟩)
            generalize O[j] = y at *
            obtain ⟨yn, ys⟩ := y
            simp only at d0 d1 HDD
            generalize insI ⟨xn, xs⟩ (O.take j) = st at *
            obtain ⟨nx, pf⟩ := st
            simp only at HNX HNL ⊢
            by_cases hput : pf = false ∧ xn < yn
            · obtain ⟨rfl, hlt2⟩ := hput
              have HSJ2 := Lib.hid (HSJ.out.trans (show _ = (nx ++ [⟨xn, xs⟩] ++ [⟨yn, ys⟩], true) from if_pos ⟨rfl, hlt2⟩))
              go_wp2_with fail
              go_quiet (fail)
              go_upto_region 12 with fail
              have hdn := below_dn wr nq
              generalize wr.drewN nq = wq at *
              have HBQ := Lib.hid (HBJ.out.trans (hdn.mono HBJ.out.size))
              have HNQ := Lib.hid (HNX.out.below hdn)
              have e0 := (HBQ.out.cell (p := ⟨b, off + k * 3, none⟩) hbl).trans HE0.out
              have e1 := (HBQ.out.cell (p := ⟨b, off + k * 3 + 1, none⟩) hbl).trans HE1.out
              have hbq := Nat.lt_of_lt_of_le hbl HBQ.out.size
              obtain ⟨a0, a1, a2, a3⟩ := rf_cells (blk_keep H.out.blk (HBEL.out.trans (HBQ.out.mono HBEL.out.size)))
              obtain ⟨v', w7, hr, ho, hg, hat⟩ := run_append_sl (P := Try.prog) elP 22 (World.ownsRow.drew (HNQ.out.alloc (.cells #[.int .i64 xn, .string xs] 29)) : Own Pg.cells 2 29 wo.heap.size ((wq.alloc (.cells #[.int .i64 xn, .string xs] 29)).drew) _ nx)
                ((Sl.one (⟨xn, xs⟩ : Pg) (c := 1) rfl Pg.len rfl).keep ((Below.refl _ _).drew)) (by have := HNL.out; simp [maxLen]; omega) (by have := HNL.out; simp; omega) (by have := HBQ.out.size; simp; omega)
              have hr' : (appSem #[22, 22] 22 #[.slice An nx.length cn, .slice (some ⟨wq.heap.size, 0, none⟩) 1 1]).run Try.prog ((wq.alloc (.cells #[.int .i64 xn, .string xs] 29)).drew) = .ok v' w7 := hr
              clear hr
              have hg' : (wq.alloc (.cells #[.int .i64 xn, .string xs] 29)).grownBy w7 (Value.slice An nx.length cn).ownBlock := ⟨hg.os, hg.tape, hg.output, hg.size, hg.block⟩
              have HB7 := Lib.hid (below_app (HBQ.out.alloc HBQ.out.size _) hg' (by have := HBQ.out.size; simp; omega) (fun k hk => (HNQ.out.lt k hk).1))
              have HO7 := Lib.hid ho
              have hmx : Try.prog.follows .mixedOrders = true := by kernel_rfl
              obtain ⟨A7, c7, h7⟩ := Sl.len' (ho.sl Pg.len)
              simp only [List.length_append, List.length_cons, List.length_nil, Nat.zero_add] at h7
              subst h7
              clear ho hg hat hg'
              obtain ⟨hb27, d0, d1⟩ := HDD.out w7 HB7.out
              go_region_with (fail)
              all_goals
                go_wp2_with (at_builtin; refine Hid.out ?_)
                refine Lib.hid ?_
                refine wpList_append_sl rfl rfl elP rfl rfl (HO7.out.alloc _) (Sl.one (⟨yn, ys⟩ : Pg) (by simp) Pg.len rfl) (by have := HNL.out; simp [maxLen]; omega) (by have := HNL.out; simp; omega) (by have := HB7.out.size; simp; omega) ?_
                intro v8 w8 ho hg hat
                have HB8 := Lib.hid (below_app (HB7.out.alloc HB7.out.size _) hg (by have := HB7.out.size; simp; omega) (fun k hk => (HO7.out.lt k hk).1))
                have HO8 := Lib.hid ho
                clear ho hg hat hr' d0 d1 e0 e1 a1 a2 a3
                go_wp2_with fail
                go_roundw
                case rel => exact ⟨j + 1, by omega, by go_num, by rw [HSJ2.out], by rw [HSJ2.out]; exact HO8.out, HB8.out⟩
                case measure => simp [intOf]; omega
            · have HSJ2 := Lib.hid (HSJ.out.trans (show _ = (nx ++ [⟨yn, ys⟩], pf) from if_neg hput))
              have hq : pf = true ∨ pf = false ∧ ¬ xn < yn := by cases pf; exact .inr ⟨rfl, fun h => hput ⟨rfl, h⟩⟩; exact .inl rfl
              clear hput
              rcases hq with rfl | ⟨rfl, hnl⟩
              all_goals
                go_wp2_with fail
                go_quiet (fail)
                have hdn := below_dn wr nq
                generalize wr.drewN nq = wq at *
                have HBQ := Lib.hid (HBJ.out.trans (hdn.mono HBJ.out.size))
                have HNQ := Lib.hid (HNX.out.below hdn)
                clear d0 d1 e0 e1 a0 a1 a2 a3
                obtain ⟨hb2q, d0, d1⟩ := HDD.out wq HBQ.out
                go_wp2_with (at_builtin; refine Hid.out ?_)
                refine Lib.hid ?_
                refine wpList_append_sl rfl rfl elP rfl rfl (HNQ.out.alloc _) (Sl.one (⟨yn, ys⟩ : Pg) (by simp) Pg.len rfl) (by have := HNL.out; simp [maxLen]; omega) (by have := HNL.out; simp; omega) (by have := HBQ.out.size; simp; omega) ?_
                intro v8 w8 ho hg hat
                have HB8 := Lib.hid (below_app (HBQ.out.alloc HBQ.out.size _) hg (by have := HBQ.out.size; simp; omega) (fun k hk => (HNQ.out.lt k hk).1))
                have HO8 := Lib.hid ho
                clear ho hg hat d0 d1
                go_wp2_with fail
                go_roundw
                case rel => exact ⟨j + 1, by omega, by go_num, by rw [HSJ2.out], by rw [HSJ2.out]; exact HO8.out, HB8.out⟩
                case measure => simp [intOf]; omega
          · have HKL := Lib.hid hlt
            rw [List.take_of_length_le (by omega)] at HNX HNL ⊢
            have HFI := Lib.hid (show finI ⟨xn, xs⟩ O = if (insI ⟨xn, xs⟩ O).2 then (insI ⟨xn, xs⟩ O).1 else (insI ⟨xn, xs⟩ O).1 ++ [⟨xn, xs⟩] from rfl)
            have HFD := Lib.hid (show dirtyO (L.take (k + 1)) = finI ⟨xn, xs⟩ O from HS1.out)
            generalize insI ⟨xn, xs⟩ O = st at *
            obtain ⟨nx, pf⟩ := st
            simp only at HNX HNL HFI ⊢
            cases pf
            · have HF2 := Lib.hid (HFD.out.trans (show _ = nx ++ [⟨xn, xs⟩] by rw [HFI.out]; rfl))
              obtain ⟨v', w7, hr, ho, hg, hat⟩ := run_append_sl (P := Try.prog) elP 22 (World.ownsRow.drew (HNX.out.alloc (.cells #[.int .i64 xn, .string xs] 29)) : Own Pg.cells 2 29 wo.heap.size ((wr.alloc (.cells #[.int .i64 xn, .string xs] 29)).drew) _ nx)
                ((Sl.one (⟨xn, xs⟩ : Pg) (c := 1) rfl Pg.len rfl).keep ((Below.refl _ _).drew)) (by have := HNL.out; simp [maxLen]; omega) (by have := HNL.out; simp; omega) (by have := HBJ.out.size; simp; omega)
              have hr' : (appSem #[22, 22] 22 #[.slice An nx.length cn, .slice (some ⟨wr.heap.size, 0, none⟩) 1 1]).run Try.prog ((wr.alloc (.cells #[.int .i64 xn, .string xs] 29)).drew) = .ok v' w7 := hr
              clear hr
              have hg' : (wr.alloc (.cells #[.int .i64 xn, .string xs] 29)).grownBy w7 (Value.slice An nx.length cn).ownBlock := ⟨hg.os, hg.tape, hg.output, hg.size, hg.block⟩
              have HB7 := Lib.hid (below_app (HBJ.out.alloc HBJ.out.size _) hg' (by have := HBJ.out.size; simp; omega) (fun k hk => (HNX.out.lt k hk).1))
              have HO7 := Lib.hid ho
              have hmx : Try.prog.follows .mixedOrders = true := by kernel_rfl
              obtain ⟨A7, c7, h7⟩ := Sl.len' (ho.sl Pg.len)
              simp only [List.length_append, List.length_cons, List.length_nil, Nat.zero_add] at h7
              subst h7
              clear ho hg hat hg'
              go_wp2_with fail
              go_region_with (fail)
              all_goals
                go_wp2_with fail
                go_roundw
                case rel => exact ⟨k + 1, HKL.out, by go_num, by rw [HF2.out]; exact HO7.out.base HBEL.out.size, HBEL.out.trans (HB7.out.mono HBEL.out.size)⟩
                case measure => have := HKL.out; simp [intOf]; omega
            · have HF2 := Lib.hid (HFD.out.trans (show _ = nx by rw [HFI.out]; rfl))
              go_wp2_with fail
              go_roundw
              case rel => exact ⟨k + 1, HKL.out, by go_num, by rw [HF2.out]; exact HNX.out.base HBEL.out.size, HBEL.out.trans (HBJ.out.mono HBEL.out.size)⟩
              case measure => have := HKL.out; simp [intOf]; omega
    · go_wp2_with fail
      go_ret
      exact ⟨_, rfl, by rw [List.take_of_length_le (by omega)] at hO; rw [← hO]; exact HOWN.out.sl Pg.len, fun j hj => (HOWN.out.lt j hj).1, HBEL.out⟩
end Go.Proofs.Ytjjiclbngoldaaa
