/- slices.SortStableFunc over rows (elements of one cell): swapRange, rotate. -/
import Derived.Test.YtlhmencjhhpacaaDoorSortLaw
import Derived.Test.YtlhmencjhhpacaaDoorOwn
import Derived.Test.YtlhmencjhhpacaaDoorUp
import Derived.BigRegion
import Derived.Deep.LoopGhost
namespace Go.Proofs.YtlhmencjhhpacaaDoor
open Go.RowKit

/-- block g holds, in its first n cells, the rows in the order d; row x is the slice (A x, L x, C x) -/
def Rw (A : Nat → Option Addr) (L C : Nat → Nat) (n g : Nat) (w : World) (d : Nat → Nat) : Prop :=
  ∃ cs, w.heap[g]? = some (.cells cs 34 (0, 0)) ∧ ∀ i, i < n → cs[i]? = some (.slice (A (d i)) (L (d i)) (C (d i)))
section
variable {A : Nat → Option Addr} {L C : Nat → Nat} {n g : Nat} {w w' : World} {d : Nat → Nat}
theorem Rw.cell (h : Rw A L C n g w d) {i : Nat} (hi : i < n) : w.cell? ⟨g, i, none⟩ = some (.slice (A (d i)) (L (d i)) (C (d i))) := by
  obtain ⟨cs, hg, hc⟩ := h
  rw [blk_cell hg, hc i hi]
theorem Rw.froz (h : Rw A L C n g w d) (i : Nat) : w.frozen? ⟨g, i, none⟩ = false := by
  obtain ⟨cs, hg, hc⟩ := h
  exact blk_frozen hg i
theorem Rw.lt (h : Rw A L C n g w d) : g < w.heap.size := by
  obtain ⟨cs, hg, hc⟩ := h
  exact blk_lt hg
theorem Rw.keep (h : Rw A L C n g w d) (hb : Below w.heap.size w w') : Rw A L C n g w' d := by
  obtain ⟨cs, hg, hc⟩ := h
  exact ⟨cs, blk_keep hg hb, hc⟩
theorem Rw.drew (h : Rw A L C n g w d) : Rw A L C n g w.drew d := h
theorem Rw.congr {d' : Nat → Nat} (h : Rw A L C n g w d) (he : ∀ i, i < n → d' i = d i) : Rw A L C n g w d' := by
  obtain ⟨cs, hg, hc⟩ := h
  exact ⟨cs, hg, fun i hi => by rw [he i hi]; exact hc i hi⟩
theorem Rw.swp (h : Rw A L C n g w d) {i j : Nat} (hi : i < n) (hj : j < n) :
    Rw A L C n g ((w.setCell ⟨g, i, none⟩ (.slice (A (d j)) (L (d j)) (C (d j)))).setCell ⟨g, j, none⟩ (.slice (A (d i)) (L (d i)) (C (d i)))) (swp d i j) := by
  obtain ⟨cs, hg, hc⟩ := h
  refine ⟨_, blk_set (blk_set hg i _) j _, fun k hk => ?_⟩
  have hl : ∀ k, k < n → k < cs.size := fun k hk => by
    rcases Nat.lt_or_ge k cs.size with h | h
    · exact h
    · have := hc k hk; rw [Array.getElem?_eq_none h] at this; cases this
  unfold Go.Proofs.YtlhmencjhhpacaaDoor.swp
  by_cases e1 : k = j
  · subst e1
    rw [Array.getElem?_setIfInBounds_self_of_lt (by simpa using hl k hj)]
    by_cases e2 : k = i
    · rw [if_pos e2, e2]
    · rw [if_neg e2, if_pos rfl]
  · rw [Array.getElem?_setIfInBounds_ne (Ne.symm e1)]
    by_cases e2 : k = i
    · subst e2
      rw [if_pos rfl, Array.getElem?_setIfInBounds_self_of_lt (hl k hi)]
    · rw [if_neg e2, if_neg e1, Array.getElem?_setIfInBounds_ne (Ne.symm e2)]
      exact hc k hk
end
/-- w' is w, but for what block g holds, and for new blocks -/
theorem gr_refl (w : World) (g : Nat) : w.grownBy w (some g) := ⟨rfl, rfl, rfl, Nat.le_refl _, fun _ _ _ => rfl⟩
theorem gr_drew {w w' : World} {g : Nat} (h : w.grownBy w' (some g)) : w.grownBy w'.drew (some g) := ⟨h.os, h.tape, h.output, h.size, h.block⟩
theorem gr_set {w w' : World} {g : Nat} (h : w.grownBy w' (some g)) (i : Nat) (u : Value) : w.grownBy (w'.setCell ⟨g, i, none⟩ u) (some g) :=
  ⟨h.os, h.tape, h.output, by simpa using h.size, fun k hk hne => by
    rw [← h.block k hk hne]
    simp only [World.setCell, Array.getElem?_modify]
    rw [if_neg (fun e => hne (by rw [e]))]⟩
theorem gr_below {w w' w'' : World} {g : Nat} (h : w.grownBy w' (some g)) (hb : Below w'.heap.size w' w'') : w.grownBy w'' (some g) :=
  ⟨hb.os.trans h.os, hb.tape.trans h.tape, hb.output.trans h.output, Nat.le_trans h.size hb.size, fun k hk hne => (hb.block k (Nat.lt_of_lt_of_le hk h.size)).trans (h.block k hk hne)⟩
theorem set_other {w : World} {g i j : Nat} {u v : Value} (h : w.cell? ⟨g, j, none⟩ = some v) (hne : i ≠ j) : (w.setCell ⟨g, i, none⟩ u).cell? ⟨g, j, none⟩ = some v :=
  (World.cell?_setCell_other _ _ _ _ (by intro e; simp only [Addr.mk.injEq] at e; omega)).trans h

set_option maxRecDepth 100000 in
set_option maxHeartbeats 1000000 in
theorem swapRange_any (A : Nat → Option Addr) (L C : Nat → Nat) (n cap g a b m : Nat) (cv : Value) (d : Nat → Nat) (w : World) (hR : Rw A L C n g w d) (hab : a + m ≤ b) (hb : b + m ≤ n) (hn : n ≤ 1000000) :
    Calls Tryd.prog 64 #[.slice (some ⟨g, 0, none⟩) n cap, .int .i64 a, .int .i64 b, .int .i64 m, cv] w fun e w' => e = .returned (.tuple #[]) ∧ w.grownBy w' (some g) ∧ Rw A L C n g w' (swr d a b m) := by
  have HR := Lib.hid hR
  clear hR
  go_enter Tryd.func64, Tryd.ntmps64
  go_wp2_with fail
  go_loopw [10] (fun i wr => ∃ k : Nat, k ≤ m ∧ i = .int .i64 k ∧ w.grownBy wr (some g) ∧ Rw A L C n g wr (swr d a b k)) (fun i _ => m - (intOf i).toNat)
  case atStart => exact ⟨0, Nat.zero_le _, rfl, gr_refl _ _, by rw [swr_zero]; exact HR.out⟩
  case round =>
    obtain ⟨k, hk, rfl, hgr, hrw⟩ := hrel
    have HG := Lib.hid hgr
    have HW := Lib.hid hrw
    clear hgr hrw HR
    by_cases hkm : k < m
    · obtain ⟨x, hx⟩ : ∃ x, x = swr d a b k (a + k) := ⟨_, rfl⟩
      obtain ⟨y, hy⟩ : ∃ y, y = swr d a b k (b + k) := ⟨_, rfl⟩
      have hgl := HW.out.lt
      have c1 := HW.out.cell (i := a + k) (by omega)
      have c2 := HW.out.cell (i := b + k) (by omega)
      have f1 := HW.out.froz (a + k)
      have f2 := HW.out.froz (b + k)
      have HS := Lib.hid (HW.out.swp (i := a + k) (j := b + k) (by omega) (by omega))
      rw [swr_succ d a b k (by omega)] at HS
      rw [← hx, ← hy] at HS
      rw [← hx] at c1
      rw [← hy] at c2
      obtain ⟨p, hp⟩ : ∃ p, p = a + k := ⟨_, rfl⟩
      obtain ⟨q, hq⟩ : ∃ q, q = b + k := ⟨_, rfl⟩
      have pa : ((a : Int) + (k : Int)).toNat = p := by omega
      have qa : ((b : Int) + (k : Int)).toNat = q := by omega
      have pb : (0 : Int) ≤ (a : Int) + (k : Int) := by omega
      have qb : (0 : Int) ≤ (b : Int) + (k : Int) := by omega
      have pc : (a : Int) + (k : Int) < (n : Int) := by omega
      have qc : (b : Int) + (k : Int) < (n : Int) := by omega
      have pw : IntKind.i64.wrap ((a : Int) + (k : Int)) = (a : Int) + (k : Int) := by rw [IntKind.wrap_i64]; omega
      have qw : IntKind.i64.wrap ((b : Int) + (k : Int)) = (b : Int) + (k : Int) := by rw [IntKind.wrap_i64]; omega
      rw [← hp] at c1 f1 HS
      rw [← hq] at c2 f2 HS
      have c3 := set_other (u := .slice (A y) (L y) (C y)) c2 (show p ≠ q by omega)
      clear hx hy hp hq
      go_wp2_with fail
      go_region
      have HG2 := Lib.hid (gr_drew (gr_set (gr_set HG.out p (.slice (A y) (L y) (C y))) q (.slice (A x) (L x) (C x))))
      clear c1 c2 c3 f1 f2 pa qa pb qb pc qc pw qw hgl
      go_wp2_with fail
      go_roundw
      case rel => exact ⟨k + 1, by omega, by go_num, HG2.out, HS.out.drew⟩
      case measure => simp [intOf]; omega
    · have hkm' : k = m := by omega
      subst hkm'
      go_wp2_with fail
      go_end0
      exact ⟨rfl, HG.out, HW.out⟩

set_option maxRecDepth 100000 in
set_option maxHeartbeats 1000000 in
theorem rotate_any (A : Nat → Option Addr) (L C : Nat → Nat) (n cap g a m b : Nat) (cv : Value) (d : Nat → Nat) (w : World) (hR : Rw A L C n g w d) (hab : a < m) (hmb : m < b) (hb : b ≤ n) (hn : n ≤ 1000000) :
    Calls Tryd.prog 56 #[.slice (some ⟨g, 0, none⟩) n cap, .int .i64 a, .int .i64 m, .int .i64 b, cv] w fun e w' => e = .returned (.tuple #[]) ∧ w.grownBy w' (some g) ∧ Rw A L C n g w' (rot d a m b) := by
  have HR := Lib.hid hR
  clear hR
  have hi0 : (m : Int) - (a : Int) = ((m - a : Nat) : Int) := by omega
  have hj0 : (b : Int) - (m : Int) = ((b - m : Nat) : Int) := by omega
  have HI0 := Lib.hid hi0
  have HJ0 := Lib.hid hj0
  clear hi0 hj0
  have hs : RotW d d a m b (m - a) (b - m) := ⟨by omega, by omega, by omega, by omega, by rw [show m - (m - a) = a by omega, show m + (b - m) = b by omega]⟩
  have HS := Lib.hid hs
  clear hs
  go_enter Tryd.func56, Tryd.ntmps56
  go_wp2_with fail
  go_loopw [10, 11] (fun iv jv wr => ∃ (i j : Nat) (d' : Nat → Nat), iv = .int .i64 i ∧ jv = .int .i64 j ∧ i ≤ n ∧ j ≤ n ∧ RotW d d' a m b i j ∧ w.grownBy wr (some g) ∧ Rw A L C n g wr d') (fun iv jv _ => (intOf iv).toNat + (intOf jv).toNat)
  case atStart => exact ⟨m - a, b - m, d, by rw [HI0.out], by rw [HJ0.out], by omega, by omega, HS.out, gr_refl _ _, HR.out⟩
  case round =>
    obtain ⟨i, j, d', rfl, rfl, hin, hjn, hw, hgr, hrw⟩ := hrel
    have h1 := hw.1
    have h2 := hw.2.1
    have h3 := hw.2.2.1
    have h4 := hw.2.2.2.1
    have HW := Lib.hid hw
    have HG := Lib.hid hgr
    have HH := Lib.hid hrw
    clear hw hgr hrw HR HS HI0 HJ0
    by_cases hij : i = j
    · subst hij
      have hc := swapRange_any A L C n cap g (m - i) m i cv d' wr HH.out (by omega) (by omega) hn
      rw [show ((m - i : Nat) : Int) = (m : Int) - (i : Int) by omega, HW.out.eq] at hc
      have HC := Lib.hid hc
      clear hc
      go_wp2_with fail
      refine HC.out.mono ?_
      rintro e w1 ⟨rfl, hg1, hr1⟩
      have HG1 := Lib.hid (HG.out.trans hg1)
      have HR1 := Lib.hid hr1
      clear hg1 hr1
      go_wp2_with fail
      go_end0
      exact ⟨rfl, HG1.out, HR1.out⟩
    · by_cases hlt : j < i
      · have hc := swapRange_any A L C n cap g (m - i) m j cv d' wr HH.out (by omega) (by omega) hn
        rw [show ((m - i : Nat) : Int) = (m : Int) - (i : Int) by omega] at hc
        have HC := Lib.hid hc
        have HN := Lib.hid (HW.out.gt hlt)
        have HI := Lib.hid (show (i : Int) - (j : Int) = ((i - j : Nat) : Int) by omega)
        clear hc
        go_wp2_with fail
        refine HC.out.mono ?_
        rintro e w1 ⟨rfl, hg1, hr1⟩
        have HG1 := Lib.hid (HG.out.trans hg1)
        have HR1 := Lib.hid hr1
        clear hg1 hr1
        go_wp2_with fail
        go_roundw
        case rel => exact ⟨i - j, j, _, by rw [HI.out], rfl, by omega, hjn, HN.out, HG1.out, HR1.out⟩
        case measure => simp [intOf]; omega
      · have hc := swapRange_any A L C n cap g (m - i) (m + j - i) i cv d' wr HH.out (by omega) (by omega) hn
        rw [show ((m - i : Nat) : Int) = (m : Int) - (i : Int) by omega, show ((m + j - i : Nat) : Int) = (m : Int) + (j : Int) - (i : Int) by omega] at hc
        have HC := Lib.hid hc
        have HN := Lib.hid (HW.out.lt (by omega))
        have HI := Lib.hid (show (j : Int) - (i : Int) = ((j - i : Nat) : Int) by omega)
        clear hc
        go_wp2_with fail
        refine HC.out.mono ?_
        rintro e w1 ⟨rfl, hg1, hr1⟩
        have HG1 := Lib.hid (HG.out.trans hg1)
        have HR1 := Lib.hid hr1
        clear hg1 hr1
        go_wp2_with fail
        go_roundw
        case rel => exact ⟨i, j - i, _, rfl, by rw [HI.out], hin, by omega, HN.out, HG1.out, HR1.out⟩
        case measure => simp [intOf]; omega
end Go.Proofs.YtlhmencjhhpacaaDoor
