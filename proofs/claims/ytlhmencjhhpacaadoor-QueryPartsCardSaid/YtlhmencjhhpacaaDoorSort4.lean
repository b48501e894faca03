/- slices.symMergeCmpFunc over rows. -/
import Derived.Test.YtlhmencjhhpacaaDoorSort3
import Derived.Deep.Cut
import Derived.Deep.CutRange
namespace Go.Proofs.YtlhmencjhhpacaaDoor
open Go.RowKit

/-- what holds of the search's bounds -/
structure Bnd (a m b mid lo hi : Nat) : Prop where
  h1 : a ≤ lo
  h2 : lo ≤ hi
  h3 : hi ≤ m
  h4 : hi ≤ mid
  h5 : mid + m ≤ lo + b
  h6 : ∀ s, lo ≤ s → s ≤ hi → a < s → mid + m < s + b → lo < s
  h7 : ∀ s, lo ≤ s → s ≤ hi → s < m → s < mid → s < hi
theorem Bnd.right {a m b mid : Nat} (h : mid = (a + b) / 2) (h2 : m < b) (h3 : mid < m) : Bnd a m b mid (mid + m - b) mid := ⟨by omega, by omega, by omega, by omega, by omega, fun s _ _ _ _ => by omega, fun s _ _ _ _ => by omega⟩
theorem Bnd.left {a m b mid : Nat} (h : mid = (a + b) / 2) (h1 : a < m) (h3 : ¬ mid < m) : Bnd a m b mid a m := ⟨by omega, by omega, by omega, by omega, by omega, fun s _ _ _ _ => by omega, fun s _ _ _ _ => by omega⟩
theorem Bnd.cut {a m b mid lo hi s : Nat} {lt : Nat → Nat → Bool} {d : Nat → Nat} (h : Bnd a m b mid lo hi) (h1 : lo ≤ s) (h2 : s ≤ hi) (hl : lo < s → lt (d (mid + m - s)) (d (s - 1)) = false) (hr : s < hi → lt (d (mid + m - 1 - s)) (d s) = true) :
    Cutp lt d a m b s (mid + m - s) := by
  obtain ⟨b1, b2, b3, b4, b5, b6, b7⟩ := h
  exact ⟨by omega, by omega, by omega, by omega, fun x y => hl (b6 s h1 h2 x (by omega)), fun x y => by rw [show mid + m - s - 1 = mid + m - 1 - s by omega]; exact hr (b7 s h1 h2 x (by omega))⟩

set_option maxRecDepth 100000 in
set_option maxHeartbeats 4000000 in
theorem symG_any (A : Nat → Option Addr) (L C : Nat → Nat) (n cap g a m b F : Nat) (bv : Value) (c : Nat → Nat → Int) (d : Nat → Nat) (w0 w : World) (hc : CmpOk A L C F [bv] c g w0) (O : Swo (ltc c)) (hg0 : w0.grownBy w (some g)) (hR : Rw A L C n g w d)
    (hT : Two (ltc c) d a m b) (ham : a + 1 < m) (hmb : m + 1 < b) (hb : b ≤ n) (hn : n ≤ 1000000)
    (IH : ∀ (a' m' b' : Nat) (d' : Nat → Nat) (w' : World), b' - a' < b - a → a' < m' → m' < b' → b' ≤ n → w0.grownBy w' (some g) → Rw A L C n g w' d' → Two (ltc c) d' a' m' b' →
      Calls Tryd.prog 47 #[.slice (some ⟨g, 0, none⟩) n cap, .int .i64 a', .int .i64 m', .int .i64 b', .func (.func F) #[] #[bv]] w' fun e w'' => e = .returned (.tuple #[]) ∧ w'.grownBy w'' (some g) ∧ ∃ d'', Rw A L C n g w'' d'' ∧ Shuf d' d'' a' b' ∧ Srt (Bef (ltc c)) d'' a' b') :
    Calls Tryd.prog 47 #[.slice (some ⟨g, 0, none⟩) n cap, .int .i64 a, .int .i64 m, .int .i64 b, .func (.func F) #[] #[bv]] w fun e w' => e = .returned (.tuple #[]) ∧ w.grownBy w' (some g) ∧ ∃ d', Rw A L C n g w' d' ∧ Shuf d d' a b ∧ Srt (Bef (ltc c)) d' a b := by
  have HR := Lib.hid hR
  have HG0 := Lib.hid hg0
  have HT := Lib.hid hT
  have HO := Lib.hid O
  have eg := hc.enter
  have HC := Lib.hid hc.call
  have HIH := Lib.hid IH
  obtain ⟨mid, hmid⟩ : ∃ k : Nat, k = (a + b) / 2 := ⟨_, rfl⟩
  have hmidz : ((a : Int) + (b : Int)) / 2 = (mid : Int) := by omega
  obtain ⟨N, hN⟩ : ∃ k : Nat, k = mid + m := ⟨_, rfl⟩
  have hNz : (mid : Int) + (m : Int) = (N : Int) := by omega
  obtain ⟨p, hp⟩ : ∃ k : Nat, k = N - 1 := ⟨_, rfl⟩
  have hpz : (N : Int) - 1 = (p : Int) := by omega
  have hm1 : a < mid := by omega
  have hm2 : mid < b := by omega
  have HM := Lib.hid hmid
  have HN := Lib.hid hN
  have HPP := Lib.hid hp
  have hNn : N ≤ 2000000 := by omega
  have hne1 : ((m : Int) - (a : Int) == 1) = false := by simp; omega
  have hne2 : ((b : Int) - (m : Int) == 1) = false := by simp; omega
  clear hR hg0 hT O hc IH hmid hN hp
  go_enter Tryd.func47, Tryd.ntmps47
  go_upto_if 140 with fail
  go_cut [20, 21] from 138 to 146 (fun v u wc => ∃ lo hi : Nat, v = .int .i64 lo ∧ u = .int .i64 hi ∧ Hid (Bnd a m b mid lo hi) ∧ w = wc)
  case first =>
    by_cases hq : mid < m
    · have hloz : (N : Int) - (b : Int) = ((mid + m - b : Nat) : Int) := by have := HN.out; have := HM.out; omega
      have HB := Lib.hid (Bnd.right HM.out (by omega) hq)
      go_wp2_with fail
      go_meet
      case rel => exact ⟨mid + m - b, mid, rfl, rfl, HB, rfl⟩
    · have HB := Lib.hid (Bnd.left HM.out (by omega) hq)
      go_wp2_with fail
      go_meet
      case rel => exact ⟨a, m, rfl, rfl, HB, rfl⟩
  case rest =>
    obtain ⟨lo, hi, rfl, rfl, HB, rfl⟩ := hcut
    have hb2 := HB.out.h2
    have hb3 := HB.out.h3
    have hb4 := HB.out.h4
    have hb5 := HB.out.h5
    go_wp2_with fail
    go_loopw [20, 21] (fun iv jv wr => ∃ (i j : Nat), iv = .int .i64 i ∧ jv = .int .i64 j ∧ lo ≤ i ∧ i ≤ j ∧ j ≤ hi ∧ Hid (lo < i → ltc c (d (mid + m - i)) (d (i - 1)) = false) ∧ Hid (j < hi → ltc c (d (mid + m - 1 - j)) (d j) = true) ∧ w.grownBy wr (some g) ∧ Rw A L C n g wr d) (fun iv jv _ => (intOf jv).toNat - (intOf iv).toNat)
    case atStart => exact ⟨lo, hi, rfl, rfl, by omega, by omega, by omega, fun h => by omega, fun h => by omega, gr_refl _ _, HR.out⟩
    case round =>
      obtain ⟨i, j, rfl, rfl, hai, hij, hjb, HP, HQ, hgr, hrw⟩ := hrel
      have HG := Lib.hid hgr
      have HW := Lib.hid hrw
      clear hgr hrw HR
      by_cases hlt : i < j
      · obtain ⟨h, hh⟩ : ∃ h : Nat, h = (i + j) / 2 := ⟨_, rfl⟩
        have hhz : ((i : Int) + (j : Int)) / 2 = (h : Int) := by omega
        have hih : i ≤ h := by omega
        have hhj : h < j := by omega
        clear hh
        obtain ⟨q, hq⟩ : ∃ q : Nat, q = mid + m - 1 - h := ⟨_, rfl⟩
        have hqz : (p : Int) - (h : Int) = (q : Int) := by have := HPP.out; have := HN.out; omega
        have hqn : q < n := by omega
        obtain ⟨x, hx⟩ : ∃ x, x = d q := ⟨_, rfl⟩
        obtain ⟨y, hy⟩ : ∃ y, y = d h := ⟨_, rfl⟩
        have hgl := HW.out.lt
        have c1 := HW.out.cell (i := q) (by omega)
        have c2 := HW.out.cell (i := h) (by omega)
        rw [← hx] at c1
        rw [← hy] at c2
        have u1 := up_at c1 hgl
        have u2 := up_at c2 hgl
        have HCC := Lib.hid (fun (q : Up wr) => HC.out q.w (gr_below (HG0.out.trans HG.out) q.h) x y)
        have pa : (0 : Int) ≤ (h : Int) := by omega
        have ba : (h : Int) < (n : Int) := by omega
        have pc : (0 : Int) ≤ (q : Int) := by omega
        have bc : (q : Int) < (n : Int) := by omega
        have HX := Lib.hid hx
        have HY := Lib.hid hy
        have HQQ := Lib.hid hq
        clear hx hy c1 c2 hq
        by_cases hv : c x y < 0
        · have hd : decide (c x y < 0) = true := decide_eq_true hv
          have HQ2 := Lib.hid (show h < hi → ltc c (d (mid + m - 1 - h)) (d h) = true from fun _ => by unfold ltc; rw [← HQQ.out, ← HX.out, ← HY.out]; exact hd)
          go_wp2_with fail
          refine wp_region_up (by kernel_rfl) (by kernel_rfl) ?_
          repeat (go_big_quiet_step (first
            | (go_at_fn F; exact up_call (HCC.out _))))
          refine wpQuiet_nil ?_
          rintro w' ⟨⟨w2, hb2⟩, rfl⟩
          have HG2 := Lib.hid (gr_below HG.out hb2)
          have HW2 := Lib.hid (HW.out.keep hb2)
          clear hb2 u1 u2 HCC hgl HG HW pa ba pc bc hv hd hhz hqz
          go_wp2_with fail
          go_roundw
          case rel => exact ⟨i, h, rfl, rfl, by omega, by omega, by omega, HP, HQ2.out, HG2.out, HW2.out⟩
          case measure => simp [intOf]; omega
        · have hd : decide (c x y < 0) = false := decide_eq_false hv
          have HP2 := Lib.hid (show lo < h + 1 → ltc c (d (mid + m - (h + 1))) (d (h + 1 - 1)) = false from fun _ => by unfold ltc; rw [show mid + m - (h + 1) = q by rw [HQQ.out]; omega, show h + 1 - 1 = h from rfl, ← HX.out, ← HY.out]; exact hd)
          go_wp2_with fail
          refine wp_region_up (by kernel_rfl) (by kernel_rfl) ?_
          repeat (go_big_quiet_step (first
            | (go_at_fn F; exact up_call (HCC.out _))))
          refine wpQuiet_nil ?_
          rintro w' ⟨⟨w2, hb2⟩, rfl⟩
          have HG2 := Lib.hid (gr_below HG.out hb2)
          have HW2 := Lib.hid (HW.out.keep hb2)
          clear hb2 u1 u2 HCC hgl HG HW pa ba pc bc hv hd hhz hqz
          go_wp2_with fail
          go_roundw
          case rel => exact ⟨h + 1, j, by go_num, rfl, by omega, by omega, by omega, HP2.out, HQ, HG2.out, HW2.out⟩
          case measure => simp [intOf]; omega
      · have hij' : i = j := by omega
        subst hij'
        have HF := Lib.hid (HB.out.cut hai hjb HP.out HQ.out)
        obtain ⟨e, he⟩ : ∃ e : Nat, e = mid + m - i := ⟨_, rfl⟩
        rw [← he] at HF
        have hez : (N : Int) - (i : Int) = (e : Int) := by have := HN.out; omega
        have hmid2 : i + (e - m) = mid := by have := HF.out.me; omega
        have hx1 := HF.out.las
        have hx2 := HF.out.sm
        have hx3 := HF.out.me
        have hx4 := HF.out.eb
        have HCT := Lib.hid (HT.out.cut HO.out HF.out)
        rw [hmid2] at HCT
        clear he hmid2 hai hjb HP HQ
        go_upto_region 39 with fail
        go_cut [185] from 178 to 185 (fun v wc => ∃ B : Bool, v = .bool B ∧ Hid (B = true ↔ (i < m ∧ m < e)) ∧ wr = wc)
        case first =>
          by_cases q1 : i < m
          · by_cases q2 : m < e
            · go_wp2_with fail
              go_meet
              case rel => exact ⟨true, rfl, ⟨fun _ => ⟨q1, q2⟩, fun _ => rfl⟩, rfl⟩
            · go_wp2_with fail
              go_meet
              case rel => exact ⟨false, rfl, ⟨fun h => (by cases h), fun h => absurd h.2 q2⟩, rfl⟩
          · go_wp2_with fail
            go_meet
            case rel => exact ⟨false, rfl, ⟨fun h => (by cases h), fun h => absurd h.1 q1⟩, rfl⟩
        case rest =>
        obtain ⟨B, rfl, HBB, rfl⟩ := hcut
        go_upto_if 185 with fail
        go_cut [] from 186 to 191 (fun wc => w.grownBy wc (some g) ∧ Rw A L C n g wc (rot d i m e))
        case first =>
          cases B with
          | true =>
            obtain ⟨q1, q2⟩ := HBB.out.1 rfl
            have HCL := Lib.hid (rotate_any A L C n cap g i m e (.func (.func F) #[] #[bv]) d wr HW.out q1 q2 (by omega) hn)
            go_wp2_with fail
            refine HCL.out.mono ?_
            rintro e w1 ⟨rfl, hg1, hr1⟩
            have HG1 := Lib.hid (HG.out.trans hg1)
            have HR1 := Lib.hid hr1
            clear hg1 hr1
            go_wp2_with fail
            go_meet
            case rel => exact ⟨HG1.out, HR1.out⟩
          | false =>
            have HR1 := Lib.hid (show Rw A L C n g wr (rot d i m e) by
              have hno : ¬ (i < m ∧ m < e) := fun h => by have := HBB.out.2 h; cases this
              rcases (show i = m ∨ m = e by omega) with h | h
              · rw [h, rot_left]; exact HW.out
              · rw [← h, rot_right]; exact HW.out)
            go_wp2_with fail
            go_meet
            case rel => exact ⟨HG.out, HR1.out⟩
        case rest =>
        obtain ⟨hgr, hrw⟩ := hcut
        obtain ⟨w1, hw1⟩ : ∃ w1 : World, w1 = wc := ⟨_, rfl⟩
        subst hw1
        clear HBB HG HW
        have HG := Lib.hid hgr
        have HW := Lib.hid hrw
        clear hgr hrw
        go_upto_region 41 with fail
        go_cut [199] from 192 to 199 (fun v wc => ∃ B : Bool, v = .bool B ∧ Hid (B = true ↔ (a < i ∧ i < mid)) ∧ w1 = wc)
        case first =>
          by_cases q1 : a < i
          · by_cases q2 : i < mid
            · go_wp2_with fail
              go_meet
              case rel => exact ⟨true, rfl, ⟨fun _ => ⟨q1, q2⟩, fun _ => rfl⟩, rfl⟩
            · go_wp2_with fail
              go_meet
              case rel => exact ⟨false, rfl, ⟨fun h => (by cases h), fun h => absurd h.2 q2⟩, rfl⟩
          · go_wp2_with fail
            go_meet
            case rel => exact ⟨false, rfl, ⟨fun h => (by cases h), fun h => absurd h.1 q1⟩, rfl⟩
        case rest =>
        obtain ⟨B, rfl, HBB, rfl⟩ := hcut
        go_upto_if 199 with fail
        go_cut [] from 200 to 205 (fun wc => ∃ d2, w.grownBy wc (some g) ∧ Rw A L C n g wc d2 ∧ Shuf (rot d i m e) d2 a mid ∧ Srt (Bef (ltc c)) d2 a mid)
        case first =>
          cases B with
          | true =>
            obtain ⟨q1, q2⟩ := HBB.out.1 rfl
            have HCL := Lib.hid (HIH.out a i mid _ w1 (by omega) q1 q2 (by omega) (HG0.out.trans HG.out) HW.out HCT.out.2.1)
            go_wp2_with fail
            refine HCL.out.mono ?_
            rintro e w2 ⟨rfl, hg1, d2, hr1⟩
            have HG1 := Lib.hid (HG.out.trans hg1)
            have HR1 := Lib.hid hr1
            clear hg1 hr1
            go_wp2_with fail
            go_meet
            case rel => exact ⟨d2, HG1.out, HR1.out⟩
          | false =>
            have HR1 := Lib.hid (show Srt (Bef (ltc c)) (rot d i m e) a mid by
              have hno : ¬ (a < i ∧ i < mid) := fun h => by have := HBB.out.2 h; cases this
              rcases (show i = a ∨ mid ≤ i by omega) with h | h
              · exact HCT.out.2.1.s2.sub (by omega) (Nat.le_refl _)
              · exact HCT.out.2.1.s1.sub (Nat.le_refl _) (by omega))
            go_wp2_with fail
            go_meet
            case rel => exact ⟨_, HG.out, HW.out, Shuf.refl _ _ _, HR1.out⟩
        case rest =>
        obtain ⟨d2, hgr, hrw, hsh, hso⟩ := hcut
        obtain ⟨w2, hw2⟩ : ∃ w2 : World, w2 = wc := ⟨_, rfl⟩
        subst hw2
        clear HBB HG HW
        have HG := Lib.hid hgr
        have HW := Lib.hid hrw
        have HSH := Lib.hid hsh
        have HSO := Lib.hid hso
        have HT3 := Lib.hid (show Two (ltc c) d2 mid e b from by
          obtain ⟨t1, t2, t3⟩ := HCT.out.2.2.1
          have ee : ∀ k, mid ≤ k → d2 k = rot d i m e k := fun k hk => hsh.1 k (by omega)
          exact ⟨t1.congr fun k k1 _ => ee k k1, t2.congr fun k k1 _ => ee k (by omega), fun x y x1 x2 y1 y2 => by rw [ee x x1, ee y (by omega)]; exact t3 x y x1 x2 y1 y2⟩)
        clear hgr hrw hsh hso
        go_upto_region 43 with fail
        go_cut [213] from 206 to 213 (fun v wc => ∃ B : Bool, v = .bool B ∧ Hid (B = true ↔ (mid < e ∧ e < b)) ∧ w2 = wc)
        case first =>
          by_cases q1 : mid < e
          · by_cases q2 : e < b
            · go_wp2_with fail
              go_meet
              case rel => exact ⟨true, rfl, ⟨fun _ => ⟨q1, q2⟩, fun _ => rfl⟩, rfl⟩
            · go_wp2_with fail
              go_meet
              case rel => exact ⟨false, rfl, ⟨fun h => (by cases h), fun h => absurd h.2 q2⟩, rfl⟩
          · go_wp2_with fail
            go_meet
            case rel => exact ⟨false, rfl, ⟨fun h => (by cases h), fun h => absurd h.1 q1⟩, rfl⟩
        case rest =>
        obtain ⟨B, rfl, HBB, rfl⟩ := hcut
        cases B with
        | true =>
          obtain ⟨q1, q2⟩ := HBB.out.1 rfl
          have HCL := Lib.hid (HIH.out mid e b _ w2 (by omega) q1 q2 hb (HG0.out.trans HG.out) HW.out HT3.out)
          go_wp2_with fail
          refine HCL.out.mono ?_
          rintro e w3 ⟨rfl, hg1, d3, hr1, hs1, ho1⟩
          have HG1 := Lib.hid (HG.out.trans hg1)
          have HR1 := Lib.hid hr1
          have HFF := Lib.hid (halves (by omega) (by omega) HCT.out.2.2.2 HSH.out HSO.out hs1 ho1)
          clear hg1 hr1 hs1 ho1
          go_wp2_with fail
          go_end0
          exact ⟨rfl, HG1.out, d3, HR1.out, HCT.out.1.trans HFF.out.1, HFF.out.2⟩
        | false =>
          have HFF := Lib.hid (halves (by omega) (by omega) HCT.out.2.2.2 HSH.out HSO.out (Shuf.refl _ _ _) (by
            have hno : ¬ (mid < e ∧ e < b) := fun h => by have := HBB.out.2 h; cases this
            rcases (show e ≤ mid ∨ e = b by omega) with h | h
            · exact HT3.out.s2.sub h (Nat.le_refl _)
            · exact HT3.out.s1.sub (Nat.le_refl _) (by omega)))
          go_wp2_with fail
          go_end0
          exact ⟨rfl, HG.out, d2, HW.out, HCT.out.1.trans HFF.out.1, HFF.out.2⟩

/-- **symMergeCmpFunc: two pieces in order, the first's elements from ahead of the second's: merged, stably.** -/
theorem symMerge_any (A : Nat → Option Addr) (L C : Nat → Nat) (n cap g F : Nat) (bv : Value) (c : Nat → Nat → Int) (w0 : World) (hc : CmpOk A L C F [bv] c g w0) (O : Swo (ltc c)) (hn : n ≤ 1000000) :
    ∀ (k a m b : Nat) (d : Nat → Nat) (w : World), b - a ≤ k → a < m → m < b → b ≤ n → w0.grownBy w (some g) → Rw A L C n g w d → Two (ltc c) d a m b →
    Calls Tryd.prog 47 #[.slice (some ⟨g, 0, none⟩) n cap, .int .i64 a, .int .i64 m, .int .i64 b, .func (.func F) #[] #[bv]] w fun e w' => e = .returned (.tuple #[]) ∧ w.grownBy w' (some g) ∧ ∃ d', Rw A L C n g w' d' ∧ Shuf d d' a b ∧ Srt (Bef (ltc c)) d' a b := by
  intro k
  induction k with
  | zero => intro a m b d w h1 h2 h3; omega
  | succ k ih =>
    intro a m b d w h1 h2 h3 h4 h5 h6 h7
    by_cases e1 : m = a + 1
    · subst e1
      have := symL_any A L C n cap g a b F bv c d w0 w hc O h5 h6 h7 h3 h4 hn
      rw [show ((a + 1 : Nat) : Int) = (a : Int) + 1 by omega]
      exact this
    · by_cases e2 : b = m + 1
      · subst e2
        have := symR_any A L C n cap g a m F bv c d w0 w hc O h5 h6 h7 (by omega) h4 hn
        rw [show ((m + 1 : Nat) : Int) = (m : Int) + 1 by omega]
        exact this
      · exact symG_any A L C n cap g a m b F bv c d w0 w hc O h5 h6 h7 (by omega) (by omega) h4 hn fun a' m' b' d' w' i1 i2 i3 i4 i5 i6 i7 => ih a' m' b' d' w' (by omega) i2 i3 i4 i5 i6 i7
end Go.Proofs.YtlhmencjhhpacaaDoor
