/- slices.SortStableFunc over rows. -/
import Derived.Test.YtlhmencjhhpacaaDoorSort4
namespace Go.Proofs.YtlhmencjhhpacaaDoor
open Go.RowKit

/-- a block in order, that holds what stood there at first -/
structure Bok (lt : Nat → Nat → Bool) (d : Nat → Nat) (lo hi : Nat) : Prop where
  srt : Srt (Bef lt) d lo hi
  own : ∀ k, lo ≤ k → k < hi → lo ≤ d k ∧ d k < hi
/-- the blocks of size s from a on, up to e -/
def Blks (lt : Nat → Nat → Bool) (d : Nat → Nat) (n s a e : Nat) : Prop := ∀ lo, s ∣ lo → a ≤ lo → lo < e → lo < n → Bok lt d lo (min (lo + s) n)
section
variable {lt : Nat → Nat → Bool} {d d' : Nat → Nat} {n s a : Nat}
theorem Bok.congr {lo hi : Nat} (h : Bok lt d lo hi) (he : ∀ k, lo ≤ k → k < hi → d' k = d k) : Bok lt d' lo hi := ⟨h.srt.congr he, fun k k1 k2 => by rw [he k k1 k2]; exact h.own k k1 k2⟩
theorem Bok.two {m b : Nat} (h1 : Bok lt d a m) (h2 : Bok lt d m b) : Two lt d a m b := ⟨h1.srt, h2.srt, fun i j i1 i2 j1 j2 => by have := h1.own i i1 i2; have := h2.own j j1 j2; omega⟩
theorem Bok.done {b : Nat} (hown : ∀ k, a ≤ k → k < b → a ≤ d k ∧ d k < b) (hs : Shuf d d' a b) (ho : Srt (Bef lt) d' a b) : Bok lt d' a b := ⟨ho, fun k k1 k2 => by
  obtain ⟨j, j1, j2, e⟩ := hs.2.1 k k1 k2
  rw [e]; exact hown j j1 j2⟩
theorem dvd_at {s lo a : Nat} (h1 : s ∣ lo) (h2 : s ∣ a) (h3 : a ≤ lo) (h4 : lo < a + s) : lo = a := by
  have := Nat.eq_zero_of_dvd_of_lt (Nat.dvd_sub h1 h2) (by omega)
  omega
/-- one block more, by insertion -/
theorem Blks.ins (h : Blks lt d n s 0 a) (hid : ∀ k, a ≤ k → k < n → d k = k) (hsa : s ∣ a) (hsh : Shuf d d' a (min (a + s) n)) (ho : Srt (Bef lt) d' a (min (a + s) n)) (hs0 : 0 < s) :
    Blks lt d' n s 0 (a + s) ∧ ∀ k, a + s ≤ k → k < n → d' k = k := by
  refine ⟨fun lo l1 _ l2 l3 => ?_, fun k k1 k2 => by rw [hsh.1 k (by omega)]; exact hid k (by omega) k2⟩
  by_cases e : lo < a
  · have hle : lo + s ≤ a := by
      obtain ⟨x, rfl⟩ := l1; obtain ⟨y, rfl⟩ := hsa
      have : x < y := Nat.lt_of_mul_lt_mul_left e
      calc s * x + s = s * (x + 1) := by rw [Nat.mul_succ]
        _ ≤ s * y := Nat.mul_le_mul_left s this
    exact (h lo l1 (Nat.zero_le _) e l3).congr fun k k1 k2 => hsh.1 k (by omega)
  · have e' := dvd_at l1 hsa (by omega) l2
    subst e'
    exact Bok.done (fun k k1 k2 => by rw [hid k k1 (by omega)]; omega) hsh ho
/-- two blocks are merged -/
theorem Blks.merge (h : Blks lt d n (2 * s) 0 a) (h2 : Blks lt d n s a n) (hsa : 2 * s ∣ a) (hm : a + s < n) (hsh : Shuf d d' a (min (a + 2 * s) n)) (ho : Srt (Bef lt) d' a (min (a + 2 * s) n)) (hs0 : 0 < s) :
    Blks lt d' n (2 * s) 0 (a + 2 * s) ∧ Blks lt d' n s (a + 2 * s) n := by
  have hs1 : s ∣ a := Nat.dvd_trans (Nat.dvd_mul_left s 2) hsa
  have b1 := h2 a hs1 (Nat.le_refl _) (by omega) (by omega)
  have b2 := h2 (a + s) (Nat.dvd_add hs1 (Nat.dvd_refl s)) (by omega) hm hm
  rw [Nat.min_eq_left (by omega)] at b1
  refine ⟨fun lo l1 _ l2 l3 => ?_, fun lo l1 l2 l3 l4 => (h2 lo l1 (by omega) l3 l4).congr fun k k1 k2 => hsh.1 k (by omega)⟩
  by_cases e : lo < a
  · have hle : lo + 2 * s ≤ a := by
      obtain ⟨x, rfl⟩ := l1; obtain ⟨y, rfl⟩ := hsa
      have : x < y := Nat.lt_of_mul_lt_mul_left e
      calc 2 * s * x + 2 * s = 2 * s * (x + 1) := by rw [Nat.mul_succ]
        _ ≤ 2 * s * y := Nat.mul_le_mul_left _ this
    exact (h lo l1 (Nat.zero_le _) e l3).congr fun k k1 k2 => hsh.1 k (by omega)
  · have e' := dvd_at l1 hsa (by omega) l2
    subst e'
    refine Bok.done (fun k k1 k2 => ?_) hsh ho
    by_cases q : k < lo + s
    · have := b1.own k k1 q; omega
    · have := b2.own k (by omega) (by omega); omega
theorem Blks.two (h2 : Blks lt d n s a n) (hsa : 2 * s ∣ a) (hm : a + s < n) : Two lt d a (a + s) (min (a + 2 * s) n) := by
  have hs1 : s ∣ a := Nat.dvd_trans (Nat.dvd_mul_left s 2) hsa
  have b1 := h2 a hs1 (Nat.le_refl _) (by omega) (by omega)
  have b2 := h2 (a + s) (Nat.dvd_add hs1 (Nat.dvd_refl s)) (by omega) hm hm
  rw [Nat.min_eq_left (by omega)] at b1
  rw [show a + s + s = a + 2 * s by omega] at b2
  exact b1.two b2
/-- what is left is one block, or less -/
theorem Blks.rest (h : Blks lt d n (2 * s) 0 a) (h2 : Blks lt d n s a n) (hsa : 2 * s ∣ a) (hm : ¬ a + s < n) (hs0 : 0 < s) : Blks lt d n (2 * s) 0 n := fun lo l1 _ l2 l3 => by
  by_cases e : lo < a
  · exact h lo l1 (Nat.zero_le _) e l3
  · have e' := dvd_at l1 hsa (by omega) (by omega)
    subst e'
    have hs1 : s ∣ lo := Nat.dvd_trans (Nat.dvd_mul_left s 2) hsa
    have b1 := h2 lo hs1 (Nat.le_refl _) l2 l3
    rw [Nat.min_eq_right (by omega)] at b1 ⊢
    exact b1
theorem Blks.all (h : Blks lt d n s 0 a) (ha : n ≤ a) : Blks lt d n s 0 n := fun lo l1 l2 l3 l4 => h lo l1 l2 (by omega) l4
theorem Blks.end (h : Blks lt d n s 0 n) (hs : n ≤ s) : Srt (Bef lt) d 0 n := by
  by_cases h0 : n = 0
  · exact Srt.small (by omega)
  · have := (h 0 (Nat.dvd_zero s) (Nat.le_refl _) (by omega) (by omega)).srt
    rwa [Nat.min_eq_right (by omega)] at this
end

set_option maxRecDepth 100000 in
set_option maxHeartbeats 4000000 in
theorem stable_any (A : Nat → Option Addr) (L C : Nat → Nat) (n cap g F : Nat) (bv : Value) (c : Nat → Nat → Int) (w : World) (hc : CmpOk A L C F [bv] c g w) (O : Swo (ltc c)) (hR : Rw A L C n g w fun k => k) (hn : n ≤ 1000000) :
    Calls Tryd.prog 30 #[.slice (some ⟨g, 0, none⟩) n cap, .int .i64 n, .func (.func F) #[] #[bv]] w fun e w' => e = .returned (.tuple #[]) ∧ w.grownBy w' (some g) ∧ ∃ d', Rw A L C n g w' d' ∧ Shuf (fun k => k) d' 0 n ∧ Srt (Bef (ltc c)) d' 0 n := by
  have HR := Lib.hid hR
  have HO := Lib.hid O
  have HC := Lib.hid hc
  clear hR O hc
  go_enter Tryd.func30, Tryd.ntmps30
  go_wp2_with fail
  go_loopw [7, 8] (fun av bv' wr => ∃ (a : Nat) (d : Nat → Nat), av = .int .i64 a ∧ bv' = .int .i64 ((a : Int) + 20) ∧ a ≤ n ∧ Hid (20 ∣ a) ∧ w.grownBy wr (some g) ∧ Rw A L C n g wr d ∧ Shuf (fun k => k) d 0 n ∧ Blks (ltc c) d n 20 0 a ∧ (∀ k, a ≤ k → k < n → d k = k)) (fun av _ _ => n - (intOf av).toNat)
  case atStart => exact ⟨0, _, rfl, rfl, Nat.zero_le _, Nat.dvd_zero _, gr_refl _ _, HR.out, Shuf.refl _ _ _, fun lo _ _ h => by omega, fun k _ _ => rfl⟩
  case round =>
    obtain ⟨a, d, rfl, rfl, han, HD, hgr, hrw, hsh, hbl, hid⟩ := hrel
    have HG := Lib.hid hgr
    have HW := Lib.hid hrw
    have HS := Lib.hid hsh
    have HB := Lib.hid hbl
    have HI := Lib.hid hid
    clear hgr hrw hsh hbl hid HR
    by_cases hlt : a + 20 ≤ n
    · have hcl := insertion_any A L C n cap g a (a + 20) F bv c d w wr HC.out HO.out HG.out HW.out (fun p q h1 h2 h3 => by rw [HI.out p h1 (by omega), HI.out q (by omega) (by omega)]; exact h2) (by omega) hlt hn
      rw [show ((a + 20 : Nat) : Int) = (a : Int) + 20 by omega] at hcl
      have HCL := Lib.hid hcl
      clear hcl
      go_wp2_with fail
      refine HCL.out.mono ?_
      rintro e w1 ⟨rfl, hg1, d1, hr1, hs1, ho1⟩
      have HG1 := Lib.hid (HG.out.trans hg1)
      have HR1 := Lib.hid hr1
      have HS1 := Lib.hid (HS.out.trans (hs1.wide (Nat.zero_le _) hlt))
      have hmn : min (a + 20) n = a + 20 := Nat.min_eq_left hlt
      have HB1 := Lib.hid (HB.out.ins HI.out HD.out (by rw [hmn]; exact hs1) (by rw [hmn]; exact ho1) (by omega))
      clear hg1 hr1 hs1 ho1 hmn
      go_wp2_with fail
      go_roundw
      case rel => exact ⟨a + 20, d1, by go_num, by go_num, hlt, Nat.dvd_add HD.out (Nat.dvd_refl 20), HG1.out, HR1.out, HS1.out, HB1.out.1, HB1.out.2⟩
      case measure => simp [intOf]; omega
    · have HCL := Lib.hid (insertion_any A L C n cap g a n F bv c d w wr HC.out HO.out HG.out HW.out (fun p q h1 h2 h3 => by rw [HI.out p h1 (by omega), HI.out q (by omega) (by omega)]; exact h2) (by omega) (Nat.le_refl _) hn)
      go_wp2_with fail
      refine HCL.out.mono ?_
      rintro e w1 ⟨rfl, hg1, d1, hr1, hs1, ho1⟩
      have HG1 := Lib.hid (HG.out.trans hg1)
      have HR1 := Lib.hid hr1
      have HS1 := Lib.hid (HS.out.trans (hs1.wide (Nat.zero_le _) (Nat.le_refl _)))
      have hmn : min (a + 20) n = n := Nat.min_eq_right (by omega)
      have HB1 := Lib.hid ((HB.out.ins HI.out HD.out (by rw [hmn]; exact hs1) (by rw [hmn]; exact ho1) (by omega)).1.all (by omega))
      clear hg1 hr1 hs1 ho1 hmn HG HW HS HB HI HCL
      go_wp2_with fail
      go_loopw [6] (fun sv wr => ∃ (s : Nat) (d : Nat → Nat), sv = .int .i64 s ∧ 20 ≤ s ∧ s ≤ 2 * n + 20 ∧ w.grownBy wr (some g) ∧ Rw A L C n g wr d ∧ Shuf (fun k => k) d 0 n ∧ Blks (ltc c) d n s 0 n) (fun sv _ => n - (intOf sv).toNat)
      case atStart => exact ⟨20, d1, rfl, Nat.le_refl _, by omega, HG1.out, HR1.out, HS1.out, HB1.out⟩
      case round =>
        obtain ⟨s, d, rfl, hs20, hsn, hgr, hrw, hsh, hbl⟩ := hrel
        obtain ⟨wo, hwo⟩ : ∃ wo : World, wo = wr := ⟨_, rfl⟩
        subst hwo
        have HG := Lib.hid hgr
        have HW := Lib.hid hrw
        have HS := Lib.hid hsh
        have HB := Lib.hid hbl
        clear hgr hrw hsh hbl HG1 HR1 HS1 HB1
        by_cases hsl : s < n
        rotate_left
        · have HE := Lib.hid (HB.out.end (by omega))
          go_wp2_with fail
          go_end0
          exact ⟨rfl, HG.out, d, HW.out, HS.out, HE.out⟩
        go_wp2_with fail
        go_loopw [7, 8] (fun av bv' wr => ∃ (a : Nat) (d : Nat → Nat), av = .int .i64 a ∧ bv' = .int .i64 ((a : Int) + 2 * (s : Int)) ∧ a ≤ n ∧ Hid (2 * s ∣ a) ∧ w.grownBy wr (some g) ∧ Rw A L C n g wr d ∧ Shuf (fun k => k) d 0 n ∧ Blks (ltc c) d n (2 * s) 0 a ∧ Blks (ltc c) d n s a n) (fun av _ _ => n - (intOf av).toNat)
        case atStart => exact ⟨0, d, rfl, by go_num, Nat.zero_le _, Nat.dvd_zero _, HG.out, HW.out, HS.out, fun lo _ _ h => by omega, HB.out⟩
        case round =>
          obtain ⟨a, d, rfl, rfl, han, HD, hgr, hrw, hsh, hbl, hbl2⟩ := hrel
          clear HG HW HS HB
          have HG := Lib.hid hgr
          have HW := Lib.hid hrw
          have HS := Lib.hid hsh
          have HB := Lib.hid hbl
          have HB2 := Lib.hid hbl2
          clear hgr hrw hsh hbl hbl2
          by_cases hlt : a + 2 * s ≤ n
          · have HT := HB2.out.two HD.out (by omega)
            have hmn : min (a + 2 * s) n = a + 2 * s := Nat.min_eq_left hlt
            rw [hmn] at HT
            have hcl := symMerge_any A L C n cap g F bv c w HC.out HO.out hn (2 * s) a (a + s) (a + 2 * s) d wr (by omega) (by omega) (by omega) hlt HG.out HW.out HT
            rw [show ((a + s : Nat) : Int) = (a : Int) + (s : Int) by omega, show ((a + 2 * s : Nat) : Int) = (a : Int) + 2 * (s : Int) by omega] at hcl
            have HCL := Lib.hid hcl
            clear hcl HT
            go_wp2_with fail
            refine HCL.out.mono ?_
            rintro e w1 ⟨rfl, hg1, d1, hr1, hs1, ho1⟩
            have HG1 := Lib.hid (HG.out.trans hg1)
            have HR1 := Lib.hid hr1
            have HS1 := Lib.hid (HS.out.trans (hs1.wide (Nat.zero_le _) hlt))
            have HB1 := Lib.hid (HB.out.merge HB2.out HD.out (by omega) (by rw [hmn]; exact hs1) (by rw [hmn]; exact ho1) (by omega))
            clear hg1 hr1 hs1 ho1 hmn
            go_wp2_with fail
            go_roundw
            case rel => exact ⟨a + 2 * s, d1, by go_num, by go_num, hlt, Nat.dvd_add HD.out (Nat.dvd_refl _), HG1.out, HR1.out, HS1.out, HB1.out.1, HB1.out.2⟩
            case measure => simp [intOf]; omega
          · by_cases hm : a + s < n
            · have HT := HB2.out.two HD.out hm
              have hmn : min (a + 2 * s) n = n := Nat.min_eq_right (by omega)
              rw [hmn] at HT
              have hcl := symMerge_any A L C n cap g F bv c w HC.out HO.out hn (2 * s) a (a + s) n d wr (by omega) (by omega) (by omega) (Nat.le_refl _) HG.out HW.out HT
              rw [show ((a + s : Nat) : Int) = (a : Int) + (s : Int) by omega] at hcl
              have HCL := Lib.hid hcl
              clear hcl HT
              go_wp2_with fail
              refine HCL.out.mono ?_
              rintro e w1 ⟨rfl, hg1, d1, hr1, hs1, ho1⟩
              have HG1 := Lib.hid (HG.out.trans hg1)
              have HR1 := Lib.hid hr1
              have HS1 := Lib.hid (HS.out.trans (hs1.wide (Nat.zero_le _) (Nat.le_refl _)))
              have HB1 := Lib.hid ((HB.out.merge HB2.out HD.out (by omega) (by rw [hmn]; exact hs1) (by rw [hmn]; exact ho1) (by omega)).1.all (by omega))
              clear hg1 hr1 hs1 ho1 hmn
              go_wp2_with fail
              go_roundw
              case rel => exact ⟨2 * s, d1, by go_num, by omega, by omega, HG1.out, HR1.out, HS1.out, HB1.out⟩
              case measure => simp [intOf]; omega
            · have HB1 := Lib.hid (HB.out.rest HB2.out HD.out hm (by omega))
              go_wp2_with fail
              go_roundw
              case rel => exact ⟨2 * s, d, by go_num, by omega, by omega, HG.out, HW.out, HS.out, HB1.out⟩
              case measure => simp [intOf]; omega

set_option maxRecDepth 100000 in
set_option maxHeartbeats 1000000 in
/-- **slices.SortStableFunc over rows: what the block held, in the order of 'cmp', equals as they stood.** -/
theorem sortStable_any (A : Nat → Option Addr) (L C : Nat → Nat) (n cap g F : Nat) (bv : Value) (c : Nat → Nat → Int) (w : World) (hc : CmpOk A L C F [bv] c g w) (O : Swo (ltc c)) (hR : Rw A L C n g w fun k => k) (hn : n ≤ 1000000) :
    Calls Tryd.prog 18 #[.slice (some ⟨g, 0, none⟩) n cap, .func (.func F) #[] #[bv]] w fun e w' => e = .returned (.tuple #[]) ∧ w.grownBy w' (some g) ∧ ∃ d', Rw A L C n g w' d' ∧ Shuf (fun k => k) d' 0 n ∧ Srt (Bef (ltc c)) d' 0 n := by
  have HCL := Lib.hid (stable_any A L C n cap g F bv c w hc O hR hn)
  clear hc O hR
  go_enter Tryd.func18, Tryd.ntmps18
  go_wp2_with fail
  refine HCL.out.mono ?_
  rintro e w1 ⟨rfl, hg1, d1, hr1, hs1, ho1⟩
  have HF := Lib.hid (And.intro hg1 (And.intro hr1 (And.intro hs1 ho1)))
  clear hg1 hr1 hs1 ho1
  go_wp2_with fail
  go_end0
  exact ⟨rfl, HF.out.1, d1, HF.out.2⟩

/-! no row: nothing is asked of the slice -/
set_option maxRecDepth 100000 in
set_option maxHeartbeats 1000000 in
theorem insertion_none (v cv : Value) (w : World) :
    Calls Tryd.prog 46 #[v, .int .i64 0, .int .i64 0, cv] w fun e w' => e = .returned (.tuple #[]) ∧ w = w' := by
  go_enter Tryd.func46, Tryd.ntmps46
  go_wp2_with fail
  go_loopw [8] (fun i wr => i = .int .i64 1 ∧ wr = w) (fun _ _ => 0)
  case atStart => exact ⟨rfl, rfl⟩
  case round =>
    obtain ⟨rfl, rfl⟩ := hrel
    go_wp2_with fail
    go_end0
    exact ⟨rfl, rfl⟩
set_option maxRecDepth 100000 in
set_option maxHeartbeats 1000000 in
theorem stable_none (v cv : Value) (w : World) :
    Calls Tryd.prog 30 #[v, .int .i64 0, cv] w fun e w' => e = .returned (.tuple #[]) ∧ w = w' := by
  go_enter Tryd.func30, Tryd.ntmps30
  go_wp2_with fail
  go_loopw [7, 8] (fun i j wr => i = .int .i64 0 ∧ j = .int .i64 20 ∧ wr = w) (fun _ _ _ => 0)
  case atStart => exact ⟨rfl, rfl, rfl⟩
  case round =>
    obtain ⟨rfl, rfl, rfl⟩ := hrel
    go_wp2_with fail
    refine (insertion_none _ _ _).mono ?_
    rintro e w1 ⟨rfl, rfl⟩
    go_wp2_with fail
    go_loopw [6] (fun i w1 => i = .int .i64 20 ∧ w1 = wr) (fun _ _ => 0)
    case atStart => exact ⟨rfl, rfl⟩
    case round =>
      obtain ⟨rfl, rfl⟩ := hrel
      go_wp2_with fail
      go_end0
      exact ⟨rfl, rfl⟩
set_option maxRecDepth 100000 in
set_option maxHeartbeats 1000000 in
theorem sortStable_none (cv : Value) (w : World) :
    Calls Tryd.prog 18 #[.slice none 0 0, cv] w fun e w' => e = .returned (.tuple #[]) ∧ w = w' := by
  go_enter Tryd.func18, Tryd.ntmps18
  go_wp2_with fail
  refine (stable_none _ _ _).mono ?_
  rintro e w1 ⟨rfl, rfl⟩
  go_wp2_with fail
  go_end0
  exact ⟨rfl, rfl⟩
end Go.Proofs.YtlhmencjhhpacaaDoor
