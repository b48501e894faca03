/- slices.insertionSortCmpFunc over rows. -/
import Derived.Test.YtlhmencjhhpacaaDoorSort
import Derived.Shelf.Abstract
namespace Go.Proofs.YtlhmencjhhpacaaDoor
open Go.RowKit

/-- what is asked of 'cmp': called with two rows, in every world that the sort passes through, it hands back c; it may lay blocks -/
structure CmpOk (A : Nat → Option Addr) (L C : Nat → Nat) (F : Nat) (B : List Value) (c : Nat → Nat → Int) (g : Nat) (w0 : World) : Prop where
  enter : ∀ args w, (callFunc F args).run Tryd.prog w = .ok (.enter F args) w
  call : ∀ w, w0.grownBy w (some g) → ∀ x y, Calls Tryd.prog F (#[.slice (A x) (L x) (C x), .slice (A y) (L y) (C y)] ++ B.toArray) w fun e w' => e = .returned (.int .i64 (c x y)) ∧ Below w.heap.size w w'
def ltc (c : Nat → Nat → Int) (x y : Nat) : Bool := decide (c x y < 0)

set_option maxRecDepth 100000 in
set_option maxHeartbeats 4000000 in
theorem insertion_any (A : Nat → Option Addr) (L C : Nat → Nat) (n cap g a b F : Nat) (bv : Value) (c : Nat → Nat → Int) (d : Nat → Nat) (w0 w : World) (hc : CmpOk A L C F [bv] c g w0) (O : Swo (ltc c)) (hg0 : w0.grownBy w (some g)) (hR : Rw A L C n g w d)
    (hinc : ∀ p q, a ≤ p → p < q → q < b → d p < d q) (hab : a ≤ b) (hb : b ≤ n) (hn : n ≤ 1000000) :
    Calls Tryd.prog 46 #[.slice (some ⟨g, 0, none⟩) n cap, .int .i64 a, .int .i64 b, .func (.func F) #[] #[bv]] w fun e w' => e = .returned (.tuple #[]) ∧ w.grownBy w' (some g) ∧ ∃ d', Rw A L C n g w' d' ∧ Shuf d d' a b ∧ Srt (Bef (ltc c)) d' a b := by
  have HR := Lib.hid hR
  have HG0 := Lib.hid hg0
  have HINC := Lib.hid hinc
  have HO := Lib.hid O
  have eg := hc.enter
  have HC := Lib.hid hc.call
  clear hR hg0 hinc O hc
  go_enter Tryd.func46, Tryd.ntmps46
  by_cases hab' : a = b
  · subst hab'
    go_wp2_with fail
    go_loopw [8] (fun i wr => i = .int .i64 ((a : Int) + 1) ∧ wr = w) (fun _ _ => 0)
    case atStart => exact ⟨rfl, rfl⟩
    case round =>
      obtain ⟨rfl, rfl⟩ := hrel
      go_wp2_with fail
      go_end0
      exact ⟨rfl, gr_refl _ _, d, HR.out, Shuf.refl _ _ _, Srt.small (by omega)⟩
  go_wp2_with fail
  go_loopw [8] (fun iv wr => ∃ (i : Nat) (d' : Nat → Nat), iv = .int .i64 i ∧ a < i ∧ i ≤ b ∧ InsO (ltc c) d d' a i ∧ w.grownBy wr (some g) ∧ Rw A L C n g wr d') (fun iv _ => b - (intOf iv).toNat)
  case atStart => exact ⟨a + 1, d, by go_num, by omega, by omega, InsO.start, gr_refl _ _, HR.out⟩
  case round =>
    obtain ⟨i, d1, rfl, hai, hib, hio, hgr, hrw⟩ := hrel
    obtain ⟨wo, hwo⟩ : ∃ wo : World, wo = wr := ⟨_, rfl⟩
    subst hwo
    have HIO := Lib.hid hio
    have HG := Lib.hid hgr
    have HW := Lib.hid hrw
    clear hio hgr hrw HR
    by_cases hlt : i < b
    rotate_left
    · have hie : i = b := by omega
      subst hie
      go_wp2_with fail
      go_end0
      exact ⟨rfl, HG.out, d1, HW.out, HIO.out.1, HIO.out.2⟩
    have HII := Lib.hid (HIO.out.inner (by omega) (fun p q h1 h2 h3 => HINC.out p q h1 h2 (by omega)))
    go_wp2_with fail
    go_loopw [9] (fun jv wr => ∃ (j : Nat) (d' : Nat → Nat), jv = .int .i64 j ∧ InsI (ltc c) d d' a i j ∧ w.grownBy wr (some g) ∧ Rw A L C n g wr d') (fun jv _ => (intOf jv).toNat)
    case atStart => exact ⟨i, d1, rfl, HII.out, HG.out, HW.out⟩
    case round =>
      obtain ⟨j, d2, rfl, hii, hgr, hrw⟩ := hrel
      have haj := hii.lo
      have hji := hii.hi
      clear HG HW
      have HI2 := Lib.hid hii
      have HG := Lib.hid hgr
      have HW := Lib.hid hrw
      clear hii hgr hrw HII HIO
      by_cases hja : a < j
      · obtain ⟨jp, rfl⟩ : ∃ q, j = q + 1 := ⟨j - 1, by omega⟩
        obtain ⟨x, hx⟩ : ∃ x, x = d2 (jp + 1) := ⟨_, rfl⟩
        obtain ⟨y, hy⟩ : ∃ y, y = d2 jp := ⟨_, rfl⟩
        have hgl := HW.out.lt
        have c1 := HW.out.cell (i := jp + 1) (by omega)
        have c2 := HW.out.cell (i := jp) (by omega)
        rw [← hx] at c1
        rw [← hy] at c2
        have u1 := up_at c1 hgl
        have u2 := up_at c2 hgl
        have HCC := Lib.hid (fun (q : Up wr) => HC.out q.w (gr_below (HG0.out.trans HG.out) q.h) x y)
        have hjd : decide ((jp : Int) + 1 > (a : Int)) = true := decide_eq_true (by omega)
        have hjz : (a : Int) < (jp : Int) + 1 := by omega
        have ea : ((jp : Int) + 1).toNat = jp + 1 := by omega
        have pa : (0 : Int) ≤ (jp : Int) + 1 := by omega
        have ba : (jp : Int) + 1 < (n : Int) := by omega
        have pc : (0 : Int) ≤ (jp : Int) := by omega
        have bc : (jp : Int) < (n : Int) := by omega
        have HX := Lib.hid hx
        have HY := Lib.hid hy
        clear hx hy
        by_cases hv : c x y < 0
        · have hd : decide (c x y < 0) = true := decide_eq_true hv
          go_wp2_with fail
          refine wp_region_up (by kernel_rfl) (by kernel_rfl) ?_
          repeat (go_big_quiet_step (first
            | (go_at_fn F; exact up_call (HCC.out _))))
          refine wpQuiet_nil ?_
          rintro w' ⟨⟨w2, hb2⟩, rfl⟩
          have HG2 := Lib.hid (gr_below HG.out hb2)
          have HW2 := Lib.hid (HW.out.keep hb2)
          clear hb2 c1 c2 u1 u2 HCC hgl HG HW
          have hgl := HW2.out.lt
          have c1 := HW2.out.cell (i := jp + 1) (by omega)
          have c2 := HW2.out.cell (i := jp) (by omega)
          have HS := Lib.hid (HW2.out.swp (i := jp + 1) (j := jp) (by omega) (by omega))
          have HN := Lib.hid (HI2.out.step hja (by unfold ltc; rw [show jp + 1 - 1 = jp from rfl, ← HX.out, ← HY.out]; exact hd))
          rw [← HX.out] at c1 HS
          rw [← HY.out] at c2 HS
          have f1 := HW2.out.froz (jp + 1)
          have f2 := HW2.out.froz jp
          have c3 := set_other (u := .slice (A y) (L y) (C y)) c2 (show jp + 1 ≠ jp by omega)
          have HG3 := Lib.hid (gr_drew (gr_set (gr_set HG2.out (jp + 1) (.slice (A y) (L y) (C y))) jp (.slice (A x) (L x) (C x))))
          clear HX HY hv hd
          go_wp2_with fail
          go_region
          clear c1 c2 c3 f1 f2 hgl ea pa ba pc bc hjd hjz HW2 HG2
          go_wp2_with fail
          go_roundw
          case rel => exact ⟨jp, _, by go_num, HN.out, HG3.out, HS.out.drew⟩
          case measure => simp [intOf]
        · have hd : decide (c x y < 0) = false := decide_eq_false hv
          have HN := Lib.hid (HI2.out.stop HO.out (.inr ⟨hja, by unfold ltc; rw [show jp + 1 - 1 = jp from rfl, ← HX.out, ← HY.out]; exact hd⟩))
          go_wp2_with fail
          refine wp_region_up (by kernel_rfl) (by kernel_rfl) ?_
          repeat (go_big_quiet_step (first
            | (go_at_fn F; exact up_call (HCC.out _))))
          refine wpQuiet_nil ?_
          rintro w' ⟨⟨w2, hb2⟩, rfl⟩
          have HG2 := Lib.hid (gr_below HG.out hb2)
          have HW2 := Lib.hid (HW.out.keep hb2)
          clear hb2 c1 c2 u1 u2 HCC hgl HG HW ea pa ba pc bc hjd hjz hv hd
          go_wp2_with fail
          go_roundw
          case rel => exact ⟨i + 1, _, by go_num, by omega, by omega, HN.out, HG2.out, HW2.out⟩
          case measure => simp [intOf]; omega
      · have hja' : j = a := by omega
        subst hja'
        have HN := Lib.hid (HI2.out.stop HO.out (.inl rfl))
        have hjd : decide ((j : Int) > (j : Int)) = false := decide_eq_false (by omega)
        go_wp2_with fail
        refine wp_region_up (by kernel_rfl) (by kernel_rfl) ?_
        repeat (go_big_quiet_step (fail))
        refine wpQuiet_nil ?_
        rintro w' ⟨⟨w2, hb2⟩, rfl⟩
        have HG2 := Lib.hid (gr_below HG.out hb2)
        have HW2 := Lib.hid (HW.out.keep hb2)
        clear hb2 HG HW
        go_wp2_with fail
        go_roundw
        case rel => exact ⟨i + 1, _, by go_num, by omega, by omega, HN.out, HG2.out, HW2.out⟩
        case measure => simp [intOf]; omega
end Go.Proofs.YtlhmencjhhpacaaDoor
