/- slices.symMergeCmpFunc over rows: one element on the left, or on the right. -/
import Derived.Test.YtlhmencjhhpacaaDoorSort2
namespace Go.Proofs.YtlhmencjhhpacaaDoor
open Go.RowKit

set_option maxRecDepth 100000 in
set_option maxHeartbeats 4000000 in
theorem symL_any (A : Nat → Option Addr) (L C : Nat → Nat) (n cap g a b F : Nat) (bv : Value) (c : Nat → Nat → Int) (d : Nat → Nat) (w0 w : World) (hc : CmpOk A L C F [bv] c g w0) (O : Swo (ltc c)) (hg0 : w0.grownBy w (some g)) (hR : Rw A L C n g w d)
    (hT : Two (ltc c) d a (a + 1) b) (hab : a + 1 < b) (hb : b ≤ n) (hn : n ≤ 1000000) :
    Calls Tryd.prog 47 #[.slice (some ⟨g, 0, none⟩) n cap, .int .i64 a, .int .i64 ((a : Int) + 1), .int .i64 b, .func (.func F) #[] #[bv]] w fun e w' => e = .returned (.tuple #[]) ∧ w.grownBy w' (some g) ∧ ∃ d', Rw A L C n g w' d' ∧ Shuf d d' a b ∧ Srt (Bef (ltc c)) d' a b := by
  have HR := Lib.hid hR
  have HG0 := Lib.hid hg0
  have HT := Lib.hid hT
  have HO := Lib.hid O
  have eg := hc.enter
  have HC := Lib.hid hc.call
  have hone : ((a : Int) + 1 - (a : Int) == 1) = true := by rw [show (a : Int) + 1 - (a : Int) = 1 by omega]; rfl
  clear hR hg0 hT O hc
  go_enter Tryd.func47, Tryd.ntmps47
  go_wp2_with fail
  go_loopw [10, 11] (fun iv jv wr => ∃ (i j : Nat), iv = .int .i64 i ∧ jv = .int .i64 j ∧ a + 1 ≤ i ∧ i ≤ j ∧ j ≤ b ∧ Hid (a + 1 < i → ltc c (d (i - 1)) (d a) = true) ∧ Hid (j < b → ltc c (d j) (d a) = false) ∧ w.grownBy wr (some g) ∧ Rw A L C n g wr d) (fun iv jv _ => (intOf jv).toNat - (intOf iv).toNat)
  case atStart => exact ⟨a + 1, b, by go_num, rfl, by omega, by omega, by omega, fun h => by omega, fun h => by omega, gr_refl _ _, HR.out⟩
  case round =>
    obtain ⟨i, j, rfl, rfl, hai, hij, hjb, HP, HQ, hgr, hrw⟩ := hrel
    have HG := Lib.hid hgr
    have HW := Lib.hid hrw
    clear hgr hrw HR
    by_cases hlt : i < j
    · obtain ⟨h, hh⟩ : ∃ h : Nat, h = (i + j) / 2 := ⟨_, rfl⟩
      have hhz : ((i : Int) + (j : Int)) / 2 = (h : Int) := by omega
      have hih : i ≤ h := by omega
      have hhj : h < j := by omega
      clear hh
      obtain ⟨x, hx⟩ : ∃ x, x = d h := ⟨_, rfl⟩
      obtain ⟨y, hy⟩ : ∃ y, y = d a := ⟨_, rfl⟩
      have hgl := HW.out.lt
      have c1 := HW.out.cell (i := h) (by omega)
      have c2 := HW.out.cell (i := a) (by omega)
      rw [← hx] at c1
      rw [← hy] at c2
      have u1 := up_at c1 hgl
      have u2 := up_at c2 hgl
      have HCC := Lib.hid (fun (q : Up wr) => HC.out q.w (gr_below (HG0.out.trans HG.out) q.h) x y)
      have pa : (0 : Int) ≤ (h : Int) := by omega
      have ba : (h : Int) < (n : Int) := by omega
      have pc : (0 : Int) ≤ (a : Int) := by omega
      have bc : (a : Int) < (n : Int) := by omega
      have HX := Lib.hid hx
      have HY := Lib.hid hy
      clear hx hy c1 c2
      by_cases hv : c x y < 0
      · have hd : decide (c x y < 0) = true := decide_eq_true hv
        have HP2 := Lib.hid (show a + 1 < h + 1 → ltc c (d (h + 1 - 1)) (d a) = true from fun _ => by unfold ltc; rw [show h + 1 - 1 = h from rfl, ← HX.out, ← HY.out]; exact hd)
        go_wp2_with fail
        refine wp_region_up (by kernel_rfl) (by kernel_rfl) ?_
        repeat (go_big_quiet_step (first
          | (go_at_fn F; exact up_call (HCC.out _))))
        refine wpQuiet_nil ?_
        rintro w' ⟨⟨w2, hb2⟩, rfl⟩
        have HG2 := Lib.hid (gr_below HG.out hb2)
        have HW2 := Lib.hid (HW.out.keep hb2)
        clear hb2 u1 u2 HCC hgl HG HW pa ba pc bc hv hd hhz
        go_wp2_with fail
        go_roundw
        case rel => exact ⟨h + 1, j, by go_num, rfl, by omega, by omega, by omega, HP2.out, HQ, HG2.out, HW2.out⟩
        case measure => simp [intOf]; omega
      · have hd : decide (c x y < 0) = false := decide_eq_false hv
        have HQ2 := Lib.hid (show h < b → ltc c (d h) (d a) = false from fun _ => by unfold ltc; rw [← HX.out, ← HY.out]; exact hd)
        go_wp2_with fail
        refine wp_region_up (by kernel_rfl) (by kernel_rfl) ?_
        repeat (go_big_quiet_step (first
          | (go_at_fn F; exact up_call (HCC.out _))))
        refine wpQuiet_nil ?_
        rintro w' ⟨⟨w2, hb2⟩, rfl⟩
        have HG2 := Lib.hid (gr_below HG.out hb2)
        have HW2 := Lib.hid (HW.out.keep hb2)
        clear hb2 u1 u2 HCC hgl HG HW pa ba pc bc hv hd hhz
        go_wp2_with fail
        go_roundw
        case rel => exact ⟨i, h, rfl, rfl, by omega, by omega, by omega, HP, HQ2.out, HG2.out, HW2.out⟩
        case measure => simp [intOf]; omega
    · have hij' : i = j := by omega
      subst hij'
      have HF := Lib.hid (HT.out.oneL HO.out hai hjb HP.out HQ.out)
      have HR0 := Lib.hid (show Rw A L C n g wr (rot d a (a + 1) (a + 1)) by rw [rot_right]; exact HW.out)
      go_wp2_with fail
      go_loopw [13] (fun kv wr => ∃ k : Nat, kv = .int .i64 k ∧ a ≤ k ∧ k + 1 ≤ i ∧ w.grownBy wr (some g) ∧ Rw A L C n g wr (rot d a (a + 1) (k + 1))) (fun kv _ => i - (intOf kv).toNat)
      case atStart => exact ⟨a, rfl, by omega, by omega, HG.out, HR0.out⟩
      case round =>
        obtain ⟨k, rfl, hak, hki, hgr, hrw⟩ := hrel
        clear HG HW HR0
        have HG := Lib.hid hgr
        have HW := Lib.hid hrw
        clear hgr hrw
        by_cases hkl : k + 1 < i
        · obtain ⟨x, hx⟩ : ∃ x, x = rot d a (a + 1) (k + 1) k := ⟨_, rfl⟩
          obtain ⟨y, hy⟩ : ∃ y, y = rot d a (a + 1) (k + 1) (k + 1) := ⟨_, rfl⟩
          have hgl := HW.out.lt
          have c1 := HW.out.cell (i := k) (by omega)
          have c2 := HW.out.cell (i := k + 1) (by omega)
          have HS := Lib.hid (HW.out.swp (i := k) (j := k + 1) (by omega) (by omega))
          rw [rot_up d hak] at HS
          rw [← hx, ← hy] at HS
          rw [← hx] at c1
          rw [← hy] at c2
          have f1 := HW.out.froz k
          have f2 := HW.out.froz (k + 1)
          have c3 := set_other (u := .slice (A y) (L y) (C y)) c2 (show k ≠ k + 1 by omega)
          have HG3 := Lib.hid (gr_drew (gr_set (gr_set HG.out k (.slice (A y) (L y) (C y))) (k + 1) (.slice (A x) (L x) (C x))))
          have ea : ((k : Int) + 1).toNat = k + 1 := by omega
          have pa : (0 : Int) ≤ (k : Int) + 1 := by omega
          have ba : (k : Int) + 1 < (n : Int) := by omega
          have pc : (0 : Int) ≤ (k : Int) := by omega
          have bc : (k : Int) < (n : Int) := by omega
          have hw1 : IntKind.i64.wrap ((k : Int) + 1) = (k : Int) + 1 := by rw [IntKind.wrap_i64]; omega
          have ht : (k : Int) < (i : Int) - 1 := by omega
          clear hx hy
          go_wp2_with fail
          go_region
          clear c1 c2 c3 f1 f2 hgl ea pa ba pc bc hw1 ht
          go_wp2_with fail
          go_roundw
          case rel => exact ⟨k + 1, by go_num, by omega, by omega, HG3.out, HS.out.drew⟩
          case measure => simp [intOf]; omega
        · have hki' : i = k + 1 := by omega
          subst hki'
          have ht : ¬ ((k : Int) < ((k + 1 : Nat) : Int) - 1) := by omega
          go_wp2_with fail
          refine bodyPost_ret (results_none rfl _ _ _) rfl ?_
          exact ⟨rfl, HG.out, _, HW.out, HF.out.1, HF.out.2⟩
set_option maxRecDepth 100000 in
set_option maxHeartbeats 4000000 in
theorem symR_any (A : Nat → Option Addr) (L C : Nat → Nat) (n cap g a m F : Nat) (bv : Value) (c : Nat → Nat → Int) (d : Nat → Nat) (w0 w : World) (hc : CmpOk A L C F [bv] c g w0) (O : Swo (ltc c)) (hg0 : w0.grownBy w (some g)) (hR : Rw A L C n g w d)
    (hT : Two (ltc c) d a m (m + 1)) (hab : a + 1 < m) (hb : m + 1 ≤ n) (hn : n ≤ 1000000) :
    Calls Tryd.prog 47 #[.slice (some ⟨g, 0, none⟩) n cap, .int .i64 a, .int .i64 m, .int .i64 ((m : Int) + 1), .func (.func F) #[] #[bv]] w fun e w' => e = .returned (.tuple #[]) ∧ w.grownBy w' (some g) ∧ ∃ d', Rw A L C n g w' d' ∧ Shuf d d' a (m + 1) ∧ Srt (Bef (ltc c)) d' a (m + 1) := by
  have HR := Lib.hid hR
  have HG0 := Lib.hid hg0
  have HT := Lib.hid hT
  have HO := Lib.hid O
  have eg := hc.enter
  have HC := Lib.hid hc.call
  have hone : ((m : Int) + 1 - (m : Int) == 1) = true := by rw [show (m : Int) + 1 - (m : Int) = 1 by omega]; rfl
  have hnone : ((m : Int) - (a : Int) == 1) = false := by simp; omega
  clear hR hg0 hT O hc
  go_enter Tryd.func47, Tryd.ntmps47
  go_wp2_with fail
  go_loopw [14, 15] (fun iv jv wr => ∃ (i j : Nat), iv = .int .i64 i ∧ jv = .int .i64 j ∧ a ≤ i ∧ i ≤ j ∧ j ≤ m ∧ Hid (a < i → ltc c (d m) (d (i - 1)) = false) ∧ Hid (j < m → ltc c (d m) (d j) = true) ∧ w.grownBy wr (some g) ∧ Rw A L C n g wr d) (fun iv jv _ => (intOf jv).toNat - (intOf iv).toNat)
  case atStart => exact ⟨a, m, rfl, rfl, by omega, by omega, by omega, fun h => by omega, fun h => by omega, gr_refl _ _, HR.out⟩
  case round =>
    obtain ⟨i, j, rfl, rfl, hai, hij, hjb, HP, HQ, hgr, hrw⟩ := hrel
    have HG := Lib.hid hgr
    have HW := Lib.hid hrw
    clear hgr hrw HR
    by_cases hlt : i < j
    · obtain ⟨h, hh⟩ : ∃ h : Nat, h = (i + j) / 2 := ⟨_, rfl⟩
      have hhz : ((i : Int) + (j : Int)) / 2 = (h : Int) := by omega
      have hih : i ≤ h := by omega
      have hhj : h < j := by omega
      clear hh
      obtain ⟨x, hx⟩ : ∃ x, x = d m := ⟨_, rfl⟩
      obtain ⟨y, hy⟩ : ∃ y, y = d h := ⟨_, rfl⟩
      have hgl := HW.out.lt
      have c1 := HW.out.cell (i := m) (by omega)
      have c2 := HW.out.cell (i := h) (by omega)
      rw [← hx] at c1
      rw [← hy] at c2
      have u1 := up_at c1 hgl
      have u2 := up_at c2 hgl
      have HCC := Lib.hid (fun (q : Up wr) => HC.out q.w (gr_below (HG0.out.trans HG.out) q.h) x y)
      have pa : (0 : Int) ≤ (h : Int) := by omega
      have ba : (h : Int) < (n : Int) := by omega
      have pc : (0 : Int) ≤ (m : Int) := by omega
      have bc : (m : Int) < (n : Int) := by omega
      have HX := Lib.hid hx
      have HY := Lib.hid hy
      clear hx hy c1 c2
      by_cases hv : c x y < 0
      · have hd : decide (c x y < 0) = true := decide_eq_true hv
        have HQ2 := Lib.hid (show h < m → ltc c (d m) (d h) = true from fun _ => by unfold ltc; rw [← HX.out, ← HY.out]; exact hd)
        go_wp2_with fail
        refine wp_region_up (by kernel_rfl) (by kernel_rfl) ?_
        repeat (go_big_quiet_step (first
          | (go_at_fn F; exact up_call (HCC.out _))))
        refine wpQuiet_nil ?_
        rintro w' ⟨⟨w2, hb2⟩, rfl⟩
        have HG2 := Lib.hid (gr_below HG.out hb2)
        have HW2 := Lib.hid (HW.out.keep hb2)
        clear hb2 u1 u2 HCC hgl HG HW pa ba pc bc hv hd hhz
        go_wp2_with fail
        go_roundw
        case rel => exact ⟨i, h, rfl, rfl, by omega, by omega, by omega, HP, HQ2.out, HG2.out, HW2.out⟩
        case measure => simp [intOf]; omega
      · have hd : decide (c x y < 0) = false := decide_eq_false hv
        have HP2 := Lib.hid (show a < h + 1 → ltc c (d m) (d (h + 1 - 1)) = false from fun _ => by unfold ltc; rw [show h + 1 - 1 = h from rfl, ← HX.out, ← HY.out]; exact hd)
        go_wp2_with fail
        refine wp_region_up (by kernel_rfl) (by kernel_rfl) ?_
        repeat (go_big_quiet_step (first
          | (go_at_fn F; exact up_call (HCC.out _))))
        refine wpQuiet_nil ?_
        rintro w' ⟨⟨w2, hb2⟩, rfl⟩
        have HG2 := Lib.hid (gr_below HG.out hb2)
        have HW2 := Lib.hid (HW.out.keep hb2)
        clear hb2 u1 u2 HCC hgl HG HW pa ba pc bc hv hd hhz
        go_wp2_with fail
        go_roundw
        case rel => exact ⟨h + 1, j, by go_num, rfl, by omega, by omega, by omega, HP2.out, HQ, HG2.out, HW2.out⟩
        case measure => simp [intOf]; omega
    · have hij' : i = j := by omega
      subst hij'
      have HF := Lib.hid (HT.out.oneR HO.out hai hjb HP.out HQ.out)
      have HR0 := Lib.hid (show Rw A L C n g wr (rot d m m (m + 1)) by rw [rot_left]; exact HW.out)
      go_wp2_with fail
      go_loopw [17] (fun kv wr => ∃ k : Nat, kv = .int .i64 k ∧ i ≤ k ∧ k ≤ m ∧ w.grownBy wr (some g) ∧ Rw A L C n g wr (rot d k m (m + 1))) (fun kv _ => (intOf kv).toNat)
      case atStart => exact ⟨m, rfl, by omega, by omega, HG.out, HR0.out⟩
      case round =>
        obtain ⟨k, rfl, hak, hki, hgr, hrw⟩ := hrel
        clear HG HW HR0
        have HG := Lib.hid hgr
        have HW := Lib.hid hrw
        clear hgr hrw
        by_cases hkl : i < k
        · obtain ⟨kp, rfl⟩ : ∃ q, k = q + 1 := ⟨k - 1, by omega⟩
          obtain ⟨x, hx⟩ : ∃ x, x = rot d (kp + 1) m (m + 1) (kp + 1) := ⟨_, rfl⟩
          obtain ⟨y, hy⟩ : ∃ y, y = rot d (kp + 1) m (m + 1) kp := ⟨_, rfl⟩
          have hgl := HW.out.lt
          have c1 := HW.out.cell (i := kp + 1) (by omega)
          have c2 := HW.out.cell (i := kp) (by omega)
          have hs := HW.out.swp (i := kp + 1) (j := kp) (by omega) (by omega)
          have hrd := rot_down d (k := kp + 1) (m := m) (by omega) (by omega)
          rw [show kp + 1 - 1 = kp from rfl] at hrd
          rw [hrd, ← hx, ← hy] at hs
          have HS := Lib.hid hs
          clear hs hrd
          rw [← hx] at c1
          rw [← hy] at c2
          have f1 := HW.out.froz (kp + 1)
          have f2 := HW.out.froz kp
          have c3 := set_other (u := .slice (A y) (L y) (C y)) c2 (show kp + 1 ≠ kp by omega)
          have HG3 := Lib.hid (gr_drew (gr_set (gr_set HG.out (kp + 1) (.slice (A y) (L y) (C y))) kp (.slice (A x) (L x) (C x))))
          have ea : ((kp : Int) + 1).toNat = kp + 1 := by omega
          have pa : (0 : Int) ≤ (kp : Int) + 1 := by omega
          have ba : (kp : Int) + 1 < (n : Int) := by omega
          have pc : (0 : Int) ≤ (kp : Int) := by omega
          have bc : (kp : Int) < (n : Int) := by omega
          have hw1 : IntKind.i64.wrap ((kp : Int) + 1) = (kp : Int) + 1 := by rw [IntKind.wrap_i64]; omega
          clear hx hy
          go_wp2_with fail
          go_region
          clear c1 c2 c3 f1 f2 hgl ea pa ba pc bc hw1
          go_wp2_with fail
          go_roundw
          case rel => exact ⟨kp, by go_num, by omega, by omega, HG3.out, HS.out.drew⟩
          case measure => simp [intOf]
        · have hki' : k = i := by omega
          subst hki'
          go_wp2_with fail
          refine bodyPost_ret (results_none rfl _ _ _) rfl ?_
          exact ⟨rfl, HG.out, _, HW.out, HF.out.1, HF.out.2⟩
end Go.Proofs.YtlhmencjhhpacaaDoor
