/- cahierref20.Pick. -/
import Derived.Test.YtlhmencjhhpacaaBefore
import Derived.Test.YtlhmencjhhpacaaPlanOver
import Derived.Deep.RegionHeld3
import Derived.Deep.Cut
import Derived.Deep.CutRange
namespace Go.Proofs.Ytlhmencjhhpacaa
open Go.RowKit
attribute [local go_sem ↓] Go.wp_at_zero Go.wp_at_succ

/-- in the midst of an insertion -/
def insN {α : Type} (lt : α → α → Bool) (x : α) (l : List α) : List α := if l.any (lt x) = true then insB lt x l else l
section
variable {α : Type} {lt : α → α → Bool} {x y : α} {l : List α}
theorem insB_cons (z : α) (zs : List α) : insB lt x (z :: zs) = if lt x z = true then x :: z :: zs else z :: insB lt x zs := rfl
theorem insB_app (h : l.any (lt x) = true) : insB lt x (l ++ [y]) = insB lt x l ++ [y] := by
  induction l with
  | nil => cases h
  | cons z zs ih =>
    rw [List.cons_append, insB_cons, insB_cons]
    by_cases e : lt x z = true
    · rw [if_pos e, if_pos e]; rfl
    · rw [if_neg e, if_neg e]
      simp only [List.any_cons, Bool.or_eq_true] at h
      rw [ih (h.resolve_left e)]; rfl
theorem insB_none (h : l.any (lt x) = false) : insB lt x l = l ++ [x] := by
  induction l with
  | nil => rfl
  | cons z zs ih =>
    simp only [List.any_cons, Bool.or_eq_false_iff] at h
    rw [insB_cons, if_neg (by rw [h.1]; simp), ih h.2]; rfl
theorem insB_here (h : l.any (lt x) = false) (h2 : lt x y = true) : insB lt x (l ++ [y]) = l ++ [x, y] := by
  induction l with
  | nil => rw [List.nil_append, insB_cons, if_pos h2]; rfl
  | cons z zs ih =>
    simp only [List.any_cons, Bool.or_eq_false_iff] at h
    rw [List.cons_append, insB_cons, if_neg (by rw [h.1]; simp), ih h.2]; rfl
theorem insN_yes (h : l.any (lt x) = true) : insN lt x (l ++ [y]) = insN lt x l ++ [y] := by
  have h' : (l ++ [y]).any (lt x) = true := by rw [List.any_append, h]; rfl
  unfold insN
  rw [if_pos h, if_pos h', insB_app h]
theorem insN_now (h : l.any (lt x) = false) (h2 : lt x y = true) : insN lt x (l ++ [y]) = insN lt x l ++ [x] ++ [y] := by
  have h' : (l ++ [y]).any (lt x) = true := by rw [List.any_append, List.any_cons, h2]; simp
  have h3 : ¬ l.any (lt x) = true := by rw [h]; simp
  unfold insN
  rw [if_neg h3, if_pos h', insB_here h h2, List.append_assoc]; rfl
theorem insN_not (h : l.any (lt x) = false) (h2 : lt x y = false) : insN lt x (l ++ [y]) = insN lt x l ++ [y] := by
  have h' : ¬ (l ++ [y]).any (lt x) = true := by rw [List.any_append, List.any_cons, h, h2]; simp
  have h3 : ¬ l.any (lt x) = true := by rw [h]; simp
  unfold insN
  rw [if_neg h3, if_neg h']
theorem insN_end (h : l.any (lt x) = true) : insN lt x l = insB lt x l := by unfold insN; rw [if_pos h]
theorem insN_end' (h : l.any (lt x) = false) : insN lt x l ++ [x] = insB lt x l := by unfold insN; rw [if_neg (by rw [h]; simp), insB_none h]
theorem insN_len : (insN lt x l).length ≤ l.length + 1 := by unfold insN; split; (rw [insB_len]; omega); omega
end
def ltP (ord : Int) (down : Bool) (p q : Rr) : Bool := ltR ord down p.row q.row
theorem isort_mem {α : Type} {lt : α → α → Bool} (xs : List α) : ∀ z, z ∈ isort lt xs → z ∈ xs := by
  suffices h : ∀ (xs acc : List α) (z : α), z ∈ xs.foldl (fun a x => insB lt x a) acc → z ∈ acc ∨ z ∈ xs from fun z hz => by
    rcases h xs [] z hz with h | h
    · cases h
    · exact h
  intro xs
  induction xs with
  | nil => intro acc z hz; exact .inl hz
  | cons x xs ih =>
    intro acc z hz
    rcases ih _ z hz with h | h
    · rcases insB_mem.1 h with rfl | h
      · exact .inr (List.mem_cons_self ..)
      · exact .inl h
    · exact .inr (List.mem_cons_of_mem _ h)

theorem Own.lower {α : Type} {f : α → List Value} {size : Nat} {e : TypeId} {base : Nat} {w : World} {v : Value} {xs : List α} (h : Own f size e base w v xs) : Own f size e 0 w v xs := by
  refine ⟨h.1, ?_⟩
  rcases h.2 with h2 | ⟨g, cap, cur, h1, h2, h3⟩
  · exact .inl h2
  · exact .inr ⟨g, cap, cur, h1, Nat.zero_le _, h3⟩
theorem any_take {α : Type} {f : α → Bool} {S : List α} {j : Nat} (h : j < S.length) : (S.take (j + 1)).any f = ((S.take j).any f || f S[j]) := by
  rw [List.take_succ_eq_append_getElem h, List.any_append]; simp

set_option maxRecDepth 100000 in
set_option maxHeartbeats 4000000 in
theorem pickR_any (t : Int) (cv lv rv : Value) (conds : List Cnd) (cs : List Int) (ord : Int) (down : Bool) (lim : Int) (R : List Rr) (m : Nat) (w : World) (hcv : Sl Cnd.cells 5 w cv conds) (hlv : Sl iCells 1 w lv cs) (hrv : Sl Rr.cells 1 w rv R) (hL : Lies w R) (hE : Even (R.map Rr.row) m)
    (hcs : ∀ x ∈ conds, x.v.s.size ≤ maxLen) (hcl : conds.length ≤ 1000) (hsl : cs.length ≤ 1000) (hrl : R.length ≤ 1000) :
    Calls Try.prog 39 #[.agg #[.int .i64 t, cv, lv, .int .i64 ord, .bool down, .int .i64 lim], rv] w fun e w' => ∃ v Q, e = .returned v ∧ Sl Rr.cells 1 w' v Q ∧ Lies w' Q ∧ Q.map Rr.row = pickB ord down lim conds cs (R.map Rr.row) ∧ Below w.heap.size w w' := by
  obtain ⟨Ac, cc, rfl⟩ := Sl.len' hcv
  obtain ⟨Al, cl, rfl⟩ := Sl.len' hlv
  obtain ⟨Ar, cr, rfl⟩ := Sl.len' hrv
  have HCV := Lib.hid hcv
  have HLV := Lib.hid hlv
  have HRV := Lib.hid hrv
  have HL := Lib.hid hL
  have HE := Lib.hid hE
  have HCS := Lib.hid hcs
  clear hcv hlv hrv hL hE hcs
  go_enter Try.func39, Try.ntmps39
  go_upto_region 3 with fail
  have HO0 := Lib.hid (show Own Rr.cells 1 36 0 ((w.alloc (.cells #[.int .i64 t, .slice Ac conds.length cc, .slice Al cs.length cl, .int .i64 ord, .bool down, .int .i64 lim] 50)).alloc (.cells #[] 36)) (.slice (some ⟨w.heap.size + 1, 0, none⟩) 0 0) ([] : List Rr) from by
    have := World.ownsRow_lit (w.alloc (.cells #[.int .i64 t, .slice Ac conds.length cc, .slice Al cs.length cl, .int .i64 ord, .bool down, .int .i64 lim] 50)) (base := 0) (e := 36) (size := 1) #[] 0 (Nat.zero_le _) (by simp [maxLen]) (by simp)
    rw [World.size_alloc] at this
    exact this)
  have HQ1 := Lib.hid (blk_alloc (blk_new (w0 := w) (g := w.heap.size) (o := .cells #[.int .i64 t, .slice Ac conds.length cc, .slice Al cs.length cl, .int .i64 ord, .bool down, .int .i64 lim] 50) rfl) (.cells #[] 36))
  have HB1 := Lib.hid (((Below.refl w.heap.size w).alloc (Nat.le_refl _) (.cells #[.int .i64 t, .slice Ac conds.length cc, .slice Al cs.length cl, .int .i64 ord, .bool down, .int .i64 lim] 50)).alloc (by simp) (.cells #[] 36))
  have HZ1 := Lib.hid (show w.heap.size + 1 + 1 ≤ ((w.alloc (.cells #[.int .i64 t, .slice Ac conds.length cc, .slice Al cs.length cl, .int .i64 ord, .bool down, .int .i64 lim] 50)).alloc (.cells #[] 36)).heap.size by simp)
  generalize (w.alloc (.cells #[.int .i64 t, .slice Ac conds.length cc, .slice Al cs.length cl, .int .i64 ord, .bool down, .int .i64 lim] 50)).alloc (.cells #[] 36) = w1 at *
  go_loopw [5, 6] (fun v2 i wr => ∃ (k : Nat) (S : List Rr), k ≤ R.length ∧ i = .int .i64 k ∧ Own Rr.cells 1 36 0 wr v2 S ∧ S = isort (ltP ord down) ((R.take k).filter (mine conds)) ∧ Below w1.heap.size w1 wr) (fun _ i _ => R.length - (intOf i).toNat)
  case atStart => exact ⟨0, [], Nat.zero_le _, rfl, HO0.out, rfl, Below.refl _ _⟩
  case round =>
    obtain ⟨k, S, hk, rfl, ho, hS, hb⟩ := hrel
    obtain ⟨wo, hwo⟩ : ∃ wo : World, wo = wr := ⟨_, rfl⟩
    subst hwo
    obtain ⟨A5, c5, rfl⟩ := Sl.len' (ho.sl Rr.len)
    have HO := Lib.hid ho
    have HS := Lib.hid hS
    have HB2 := Lib.hid hb
    have HBW := Lib.hid (HB1.out.trans (hb.mono HB1.out.size))
    have HQ2 := Lib.hid (blk_keep HQ1.out hb)
    have hql := blk_lt HQ2.out
    have HSL := Lib.hid (show S.length ≤ 1000 by rw [hS, isort_len]; have := mineR_len R conds k; omega)
    have HSM := Lib.hid (show ∀ p ∈ S, p ∈ R from fun p hp => by
      rw [hS] at hp
      exact List.mem_of_mem_take (List.mem_filter.1 (isort_mem _ p hp)).1)
    clear ho hS hb HO0
    by_cases hkl : k < R.length
    · rcases (HRV.out.keep HBW.out).cases with ⟨A, c, he, hnil⟩ | ⟨b, off, c, he, -, hbl, hsl'⟩
      · rw [hnil] at hkl; simp at hkl
      injection he with he1 he2 he3
      subst he1 he3
      obtain ⟨-, hcells⟩ := hsl'.cells hkl
      have e0 : wo.cell? ⟨b, off + k, none⟩ = some R[k].hd := by
        have := hcells 0 _ rfl
        simp only [Nat.mul_one, Nat.add_zero] at this
        exact this
      have hmem := List.getElem_mem hkl
      have HPW := Lib.hid (HL.out _ hmem)
      have HPS := Lib.hid (HE.out.size _ (List.mem_map.2 ⟨_, hmem, rfl⟩))
      have HPM := Lib.hid (HE.out.len _ (List.mem_map.2 ⟨_, hmem, rfl⟩))
      have HPL := Lib.hid (show R[k].row.length ≤ 1000000 by rw [HE.out.len _ (List.mem_map.2 ⟨_, hmem, rfl⟩)]; exact HE.out.small)
      have HY := Lib.hid (mineR_yes (conds := conds) hkl)
      have HN := Lib.hid (mineR_no (conds := conds) hkl)
      have hk0 : (0 : Int) ≤ (k : Int) := by omega
      have hk1 : (k : Int) < (R.length : Int) := by omega
      clear hcells hsl' hmem
      generalize R[k] = p at *
      obtain ⟨pa, pc, pr⟩ := p
      simp only [Rr.hd] at e0 HPW
      simp only at HPS HPL HPM HY HN
      have HP := Lib.hid (HPW.out.keep HBW.out)
      have u0 := up_at e0 hbl
      have uq : ∀ (y : Up wo) (o : Nat), y.w.cell? ⟨w.heap.size, o, none⟩ = (#[.int .i64 t, .slice Ac conds.length cc, .slice Al cs.length cl, .int .i64 ord, .bool down, .int .i64 lim] : Array Value)[o]? := fun y o => (y.cell _ _ hql).trans (blk_cell HQ2.out o)
      have HE0 := Lib.hid e0
      clear e0
      have HCP := Lib.hid (fun (y : Up wo) => matchR_any _ _ pr conds y.w (HP.out.keep y.h) (HCV.out.keep (HBW.out.trans (y.h.mono HBW.out.size))) HPS.out HCS.out (by omega) (by have := HPL.out; omega))
      rcases Bool.eq_false_or_eq_true (matchB pr conds) with hm | hm
      rotate_left
      · have HX := Lib.hid (HN.out hm)
        rw [hm] at HCP
        go_wp2_with fail
        refine wp_region_up (by kernel_rfl) (by kernel_rfl) ?_
        repeat (go_big_quiet_step (first
          | (go_at_call 36; exact up_call (HCP.out _))))
        refine wpQuiet_nil ?_
        rintro w' ⟨⟨w2, hb2⟩, rfl⟩
        have HO2 := Lib.hid (HO.out.below hb2)
        have HB3 := Lib.hid (HB2.out.trans (hb2.mono HB2.out.size))
        clear hb2 u0 uq hm
        go_wp2_with fail
        go_roundw
        case rel => exact ⟨k + 1, S, by omega, by go_num, HO2.out, by rw [HX.out]; exact HS.out, HB3.out⟩
        case measure => simp [intOf]; omega
      have HX := Lib.hid (HY.out hm)
      rw [hm] at HCP
      go_wp2_with fail
      refine wp_region_up (by kernel_rfl) (by kernel_rfl) ?_
      repeat (go_big_quiet_step (first
        | (go_at_call 36; exact up_call (HCP.out _))))
      refine wpQuiet_nil ?_
      rintro w' ⟨⟨w2, hb2⟩, rfl⟩
      have HO2 := Lib.hid (HO.out.below hb2)
      have HB3 := Lib.hid (HB2.out.trans (hb2.mono HB2.out.size))
      have HBW3 := Lib.hid (HBW.out.trans (hb2.mono HBW.out.size))
      have hbw' := Nat.lt_of_lt_of_le hbl hb2.size
      have HE1 := Lib.hid ((hb2.cell (p := ⟨b, off + k, none⟩) hbl).trans HE0.out)
      have HQ3 := Lib.hid (blk_keep HQ2.out hb2)
      clear hb2 u0 uq hm HCP hbl HE0 HQ2 hql
      go_upto_region 9 with fail
      have HNI := Lib.hid (show Own Rr.cells 1 36 w'.heap.size (w'.alloc (.cells #[] 36)) (.slice (some ⟨w'.heap.size, 0, none⟩) 0 0) ([] : List Rr) from World.ownsRow_lit w' #[] 0 (Nat.le_refl _) (by simp [maxLen]) (by simp))
      have HBI := Lib.hid ((Below.refl w'.heap.size w').alloc (Nat.le_refl _) (.cells #[] 36))
      generalize w'.alloc (.cells #[] 36) = wi at *
      have hsl5 := HSL.out
      go_loopw [7, 8, 9] (fun nv pv kv wr => ∃ j : Nat, j ≤ S.length ∧ kv = .int .i64 j ∧ pv = .bool ((S.take j).any (ltP ord down ⟨pa, pc, pr⟩)) ∧ Own Rr.cells 1 36 w'.heap.size wr nv (insN (ltP ord down) ⟨pa, pc, pr⟩ (S.take j)) ∧ Below w'.heap.size w' wr) (fun _ _ kv _ => S.length - (intOf kv).toNat)
      case atStart => exact ⟨0, Nat.zero_le _, rfl, rfl, HNI.out, HBI.out⟩
      case round =>
        obtain ⟨j, hj, rfl, rfl, hon, hbn⟩ := hrel
        have HON := Lib.hid hon
        have HBN := Lib.hid hbn
        clear hon hbn HNI HBI
        by_cases hjl : j < S.length
        rotate_left
        · have hje : S.take j = S := List.take_of_length_le (by omega)
          rw [hje] at HON ⊢
          have HXE := Lib.hid (show isort (ltP ord down) ((R.take (k + 1)).filter (mine conds)) = insB (ltP ord down) ⟨pa, pc, pr⟩ S by rw [HX.out, isort_snoc, ← HS.out])
          have HBF := Lib.hid (HB3.out.trans (HBN.out.mono HB3.out.size))
          rcases Bool.eq_false_or_eq_true (S.any (ltP ord down ⟨pa, pc, pr⟩)) with hp | hp
          · have HFN := Lib.hid (insN_end hp)
            rw [hp]
            go_wp2_with fail
            go_roundw
            case rel => exact ⟨k + 1, _, by omega, by go_num, Own.lower HON.out, by rw [HXE.out, HFN.out], HBF.out⟩
            case measure => simp [intOf]; omega
          · have HFN := Lib.hid (insN_end' hp)
            rw [hp]
            have e0 := (HBN.out.cell (p := ⟨b, off + k, none⟩) hbw').trans HE1.out
            have hbr := Nat.lt_of_lt_of_le hbw' HBN.out.size
            have HLN := Lib.hid (insN_len (lt := ltP ord down) (x := (⟨pa, pc, pr⟩ : Rr)) (l := S))
            go_wp2_with (at_builtin; refine Hid.out ?_)
            refine Lib.hid ?_
            refine wpList_append_sl rfl rfl elR rfl rfl (HON.out.alloc _) (Sl.one (⟨pa, pc, pr⟩ : Rr) (by simp) Rr.len rfl) (by have := HLN.out; simp [maxLen]; omega) (by have := HLN.out; simp; omega) (by have := HBN.out.size; simp; omega) ?_
            intro v2' w4 ho2 hg2 hat2
            have HO4 := Lib.hid ho2
            have hw1 := HBN.out.size
            have HB4 := Lib.hid (below_app (HBN.out.alloc HBN.out.size _) hg2 (by simp; omega) (fun k hk => (HON.out.lt k hk).1))
            clear ho2 hg2 hat2 hw1
            have HBF2 := Lib.hid (HB3.out.trans (HB4.out.mono HB3.out.size))
            clear e0 hbr
            go_wp2_with fail
            go_roundw
            case rel => exact ⟨k + 1, _, by omega, by go_num, Own.lower HO4.out, by rw [HXE.out, HFN.out], HBF2.out⟩
            case measure => simp [intOf]; omega
        have HAT := Lib.hid (any_take (f := ltP ord down ⟨pa, pc, pr⟩) hjl)
        have HTK := Lib.hid (List.take_succ_eq_append_getElem hjl)
        have hmS := HSM.out _ (List.getElem_mem hjl)
        have HYP := Lib.hid (HL.out _ hmS)
        have HYS := Lib.hid (HE.out.size _ (List.mem_map.2 ⟨_, hmS, rfl⟩))
        have HYM := Lib.hid (HE.out.len _ (List.mem_map.2 ⟨_, hmS, rfl⟩))
        have HLN := Lib.hid (insN_len (lt := ltP ord down) (x := (⟨pa, pc, pr⟩ : Rr)) (l := S.take j))
        have HLT := Lib.hid (show (S.take j).length ≤ 1000 by rw [List.length_take]; omega)
        rcases (HO2.out.sl Rr.len).cases with ⟨A, c, he, hnil⟩ | ⟨b5, o5, c, he, -, hb5, hs5⟩
        · rw [hnil] at hjl; simp at hjl
        injection he with he1 he2 he3
        subst he1 he3
        obtain ⟨-, e5⟩ := hs5.cells hjl
        have HE5 := Lib.hid (show w'.cell? ⟨b5, o5 + j, none⟩ = some S[j].hd by
          have := e5 0 _ rfl
          simp only [Nat.mul_one, Nat.add_zero] at this
          exact this)
        clear e5 hs5 hmS
        generalize S[j] = y at *
        obtain ⟨ya, yc, yr⟩ := y
        simp only [Rr.hd] at HE5 HYP
        simp only at HYS HYM HTK
        have hj0 : (0 : Int) ≤ (j : Int) := by omega
        have hj1 : (j : Int) < (S.length : Int) := by omega
        have hbr := Nat.lt_of_lt_of_le hbw' HBN.out.size
        have hbr5 := Nat.lt_of_lt_of_le hb5 HBN.out.size
        generalize hany : (S.take j).any (ltP ord down ⟨pa, pc, pr⟩) = B at *
        cases B with
        | true =>
          have HNX := Lib.hid (show insN (ltP ord down) ⟨pa, pc, pr⟩ (S.take (j + 1)) = insN (ltP ord down) ⟨pa, pc, pr⟩ (S.take j) ++ [⟨ya, yc, yr⟩] by rw [HTK.out, insN_yes hany])
          have HAX := Lib.hid (show (S.take (j + 1)).any (ltP ord down ⟨pa, pc, pr⟩) = true by rw [HAT.out]; rfl)
          clear hany
          go_wp2_with fail
          refine wp_region_up (by kernel_rfl) (by kernel_rfl) ?_
          repeat (go_big_quiet_step (fail))
          refine wpQuiet_nil ?_
          rintro w'' ⟨⟨w2, hb2⟩, rfl⟩
          have HON2 := Lib.hid (HON.out.below hb2)
          have HBN2 := Lib.hid (HBN.out.trans (hb2.mono HBN.out.size))
          have e5 := (HBN2.out.cell (p := ⟨b5, o5 + j, none⟩) hb5).trans HE5.out
          have hbr5' := Nat.lt_of_lt_of_le hbr5 hb2.size
          clear hb2
          have HLN2 := Lib.hid (show (insN (ltP ord down) ⟨pa, pc, pr⟩ (S.take j)).length ≤ 1001 by have := HLN.out; have := HLT.out; omega)
          go_wp2_with (at_builtin; refine Hid.out ?_)
          refine Lib.hid ?_
          refine wpList_append_sl rfl rfl elR rfl rfl (HON2.out.alloc _) (Sl.one (⟨ya, yc, yr⟩ : Rr) (by simp) Rr.len rfl) (by have := HLN2.out; simp [maxLen]; omega) (by have := HLN2.out; simp; omega) (by have := HBN2.out.size; simp; omega) ?_
          intro v2' w4 ho2 hg2 hat2
          have HO4 := Lib.hid ho2
          have hw1 := HBN2.out.size
          have HB4 := Lib.hid (below_app (HBN2.out.alloc HBN2.out.size _) hg2 (by simp; omega) (fun k hk => (HON2.out.lt k hk).1))
          clear ho2 hg2 hat2 hw1
          clear e5 hbr5'
          go_wp2_with fail
          go_roundw
          case rel => exact ⟨j + 1, by omega, by go_num, by rw [HAX.out], by rw [HNX.out]; exact HO4.out, HB4.out⟩
          case measure => simp [intOf]; omega
        | false =>
          have uq : ∀ (y : Up wr) (o : Nat), y.w.cell? ⟨w.heap.size, o, none⟩ = (#[.int .i64 t, .slice Ac conds.length cc, .slice Al cs.length cl, .int .i64 ord, .bool down, .int .i64 lim] : Array Value)[o]? := fun y o => (y.cell _ _ (Nat.lt_of_lt_of_le (blk_lt HQ3.out) HBN.out.size)).trans (((HBN.out.cell (p := ⟨w.heap.size, o, none⟩) (blk_lt HQ3.out))).trans (blk_cell HQ3.out o))
          have hqr := Nat.lt_of_lt_of_le (blk_lt HQ3.out) HBN.out.size
          have u0 := up_at ((HBN.out.cell (p := ⟨b, off + k, none⟩) hbw').trans HE1.out) hbr
          have u5 := up_at ((HBN.out.cell (p := ⟨b5, o5 + j, none⟩) hb5).trans HE5.out) hbr5
          have HBR := Lib.hid (HBW3.out.trans (HBN.out.mono HBW3.out.size))
          have HCB := Lib.hid (fun (q : Up wr) => before_any t (.slice Ac conds.length cc) (.slice Al cs.length cl) ord down lim (.slice pa pr.length pc) (.slice ya yr.length yc) pr yr q.w (HPW.out.keep (HBR.out.trans (q.h.mono HBR.out.size))) (HYP.out.keep (HBR.out.trans (q.h.mono HBR.out.size))) (by rw [HYM.out, HPM.out]) HPS.out HYS.out HPL.out)
          have hlp : ltP ord down ⟨pa, pc, pr⟩ ⟨ya, yc, yr⟩ = ltR ord down pr yr := rfl
          rcases Bool.eq_false_or_eq_true (ltR ord down pr yr) with hD | hD
          · have HNX := Lib.hid (show insN (ltP ord down) ⟨pa, pc, pr⟩ (S.take (j + 1)) = insN (ltP ord down) ⟨pa, pc, pr⟩ (S.take j) ++ [⟨pa, pc, pr⟩] ++ [⟨ya, yc, yr⟩] by rw [HTK.out, insN_now hany (hlp.trans hD)])
            have HAX := Lib.hid (show (S.take (j + 1)).any (ltP ord down ⟨pa, pc, pr⟩) = true by rw [HAT.out, hlp, hD]; rfl)
            rw [hD] at HCB
            clear hany hlp hD
            go_wp2_with fail
            refine wp_region_up (by kernel_rfl) (by kernel_rfl) ?_
            repeat (go_big_quiet_step (first
              | (go_at_call 68; exact up_call (HCB.out _))))
            refine wpQuiet_nil ?_
            rintro w'' ⟨⟨w2, hb2⟩, rfl⟩
            have HON2 := Lib.hid (HON.out.below hb2)
            have HBN2 := Lib.hid (HBN.out.trans (hb2.mono HBN.out.size))
            have e0 := (HBN2.out.cell (p := ⟨b, off + k, none⟩) hbw').trans HE1.out
            have hbr' := Nat.lt_of_lt_of_le hbr hb2.size
            clear hb2 uq u0 u5 HCB
            have HLN2 := Lib.hid (show (insN (ltP ord down) ⟨pa, pc, pr⟩ (S.take j)).length ≤ 1001 by have := HLN.out; have := HLT.out; omega)
            go_wp2_with (at_builtin; refine Hid.out ?_)
            refine Lib.hid ?_
            refine wpList_append_sl rfl rfl elR rfl rfl (HON2.out.alloc _) (Sl.one (⟨pa, pc, pr⟩ : Rr) (by simp) Rr.len rfl) (by have := HLN2.out; simp [maxLen]; omega) (by have := HLN2.out; simp; omega) (by have := HBN2.out.size; simp; omega) ?_
            intro v2' w4 ho2 hg2 hat2
            have HO4 := Lib.hid ho2
            have hw1 := HBN2.out.size
            have HB4 := Lib.hid (below_app (HBN2.out.alloc HBN2.out.size _) hg2 (by simp; omega) (fun k hk => (HON2.out.lt k hk).1))
            clear ho2 hg2 hat2 hw1
            clear e0 hbr'
            have e5 := (HB4.out.cell (p := ⟨b5, o5 + j, none⟩) hb5).trans HE5.out
            have hbr5' := Nat.lt_of_lt_of_le hb5 HB4.out.size
            have HLN3 := Lib.hid (show (insN (ltP ord down) (⟨pa, pc, pr⟩ : Rr) (S.take j)).length + 1 ≤ 1002 by have := HLN2.out; omega)
            go_wp2_with (at_builtin; refine Hid.out ?_)
            refine Lib.hid ?_
            refine wpList_append_sl rfl rfl elR rfl rfl (HO4.out.alloc _) (Sl.one (⟨ya, yc, yr⟩ : Rr) (by simp) Rr.len rfl) (by have := HLN3.out; simp [maxLen]; omega) (by have := HLN3.out; simp; omega) (by have := HB4.out.size; simp; omega) ?_
            intro v2' w4 ho2 hg2 hat2
            have HO5 := Lib.hid ho2
            have hw1 := HB4.out.size
            have HB5 := Lib.hid (below_app (HB4.out.alloc HB4.out.size _) hg2 (by simp; omega) (fun k hk => (HO4.out.lt k hk).1))
            clear ho2 hg2 hat2 hw1
            clear e5 hbr5'
            go_wp2_with fail
            go_roundw
            case rel => exact ⟨j + 1, by omega, by go_num, by rw [HAX.out], by rw [HNX.out]; exact HO5.out, HB5.out⟩
            case measure => simp [intOf]; omega
          · have HNX := Lib.hid (show insN (ltP ord down) ⟨pa, pc, pr⟩ (S.take (j + 1)) = insN (ltP ord down) ⟨pa, pc, pr⟩ (S.take j) ++ [⟨ya, yc, yr⟩] by rw [HTK.out, insN_not hany (hlp.trans hD)])
            have HAX := Lib.hid (show (S.take (j + 1)).any (ltP ord down ⟨pa, pc, pr⟩) = false by rw [HAT.out, hlp, hD]; rfl)
            rw [hD] at HCB
            clear hany hlp hD
            go_wp2_with fail
            refine wp_region_up (by kernel_rfl) (by kernel_rfl) ?_
            repeat (go_big_quiet_step (first
              | (go_at_call 68; exact up_call (HCB.out _))))
            refine wpQuiet_nil ?_
            rintro w'' ⟨⟨w2, hb2⟩, rfl⟩
            have HON2 := Lib.hid (HON.out.below hb2)
            have HBN2 := Lib.hid (HBN.out.trans (hb2.mono HBN.out.size))
            have e5 := (HBN2.out.cell (p := ⟨b5, o5 + j, none⟩) hb5).trans HE5.out
            have hbr5' := Nat.lt_of_lt_of_le hbr5 hb2.size
            clear hb2 uq u0 u5 HCB
            have HLN2 := Lib.hid (show (insN (ltP ord down) ⟨pa, pc, pr⟩ (S.take j)).length ≤ 1001 by have := HLN.out; have := HLT.out; omega)
            go_wp2_with (at_builtin; refine Hid.out ?_)
            refine Lib.hid ?_
            refine wpList_append_sl rfl rfl elR rfl rfl (HON2.out.alloc _) (Sl.one (⟨ya, yc, yr⟩ : Rr) (by simp) Rr.len rfl) (by have := HLN2.out; simp [maxLen]; omega) (by have := HLN2.out; simp; omega) (by have := HBN2.out.size; simp; omega) ?_
            intro v2' w4 ho2 hg2 hat2
            have HO4 := Lib.hid ho2
            have hw1 := HBN2.out.size
            have HB4 := Lib.hid (below_app (HBN2.out.alloc HBN2.out.size _) hg2 (by simp; omega) (fun k hk => (HON2.out.lt k hk).1))
            clear ho2 hg2 hat2 hw1
            clear e5 hbr5'
            go_wp2_with fail
            go_roundw
            case rel => exact ⟨j + 1, by omega, by go_num, by rw [HAX.out], by rw [HNX.out]; exact HO4.out, HB4.out⟩
            case measure => simp [intOf]; omega
    · have hke : k = R.length := by omega
      subst hke
      rw [List.take_length] at HS
      have hcap : S.length ≤ c5 := by
        rcases HO.out.2 with ⟨hv, h0⟩ | ⟨g, cap, cur, hv, -, -, hcap, -⟩
        · omega
        · injection hv with e1 e2 e3
          subst e3; exact hcap
      have hq := blk_cell HQ2.out
      have hsl5 := HSL.out
      go_upto_region 18 with fail
      go_cut [83] from 74 to 83 (fun v wc => ∃ B : Bool, v = .bool B ∧ Hid (B = true ↔ (0 ≤ lim ∧ lim < S.length)) ∧ wo = wc)
      case first =>
        by_cases q1 : 0 ≤ lim
        · by_cases q2 : lim < S.length
          · go_wp2_with fail
            go_meet
            case rel => exact ⟨true, rfl, ⟨fun _ => ⟨q1, q2⟩, fun _ => rfl⟩, rfl⟩
          · go_wp2_with fail
            go_meet
            case rel => exact ⟨false, rfl, ⟨fun h => (by cases h), fun h => absurd h.2 (by omega)⟩, rfl⟩
        · go_wp2_with fail
          go_meet
          case rel => exact ⟨false, rfl, ⟨fun h => (by cases h), fun h => absurd h.1 (by omega)⟩, rfl⟩
      case rest =>
      obtain ⟨B, rfl, HBB, rfl⟩ := hcut
      go_upto_if 83 with fail
      go_cut [5] from 83 to 87 (fun v wc => v = .slice A5 (cutB lim S).length c5 ∧ wo = wc)
      case first =>
        cases B with
        | true =>
          obtain ⟨q1, q2⟩ := HBB.out.1 rfl
          obtain ⟨ln, rfl⟩ : ∃ ln : Nat, lim = (ln : Int) := ⟨lim.toNat, by omega⟩
          have HM6 := Lib.hid (show (cutB (ln : Int) S).length = ln by rw [cutB_len, if_pos q1]; omega)
          have hm8 : (ln : Int) ≤ (c5 : Int) := by omega
          go_wp2_with fail
          go_meet
          case rel => exact ⟨by rw [HM6.out], rfl⟩
        | false =>
          have HM6 := Lib.hid (show (cutB lim S).length = S.length by
            have hno : ¬ (0 ≤ lim ∧ lim < S.length) := fun h => by have := HBB.out.2 h; cases this
            rw [cutB_len]; split <;> omega)
          go_wp2_with fail
          go_meet
          case rel => exact ⟨by rw [HM6.out], rfl⟩
      case rest =>
      obtain ⟨rfl, rfl⟩ := hcut
      have HT := Lib.hid ((HO.out.sl Rr.len).cut lim)
      have HTR := Lib.hid (show (cutB lim S).map Rr.row = cutB lim (isort (ltR ord down) ((R.map Rr.row).filter fun r => matchB r conds)) by
        rw [← mineR_map, isort_map, ← cutB_map, HS.out]; rfl)
      have HTM := Lib.hid (fun p (hp : p ∈ cutB lim S) => HSM.out p (cutB_mem hp))
      have htl : (cutB lim S).length ≤ 1000 := by rw [cutB_len]; have := HSL.out; split <;> omega
      clear HO HS HSM HSL HBB hcap hsl5
      generalize cutB lim S = T at *
      go_upto_region 22 with fail
      have HNI := Lib.hid (show Own Rr.cells 1 36 wo.heap.size (wo.alloc (.cells #[] 36)) (.slice (some ⟨wo.heap.size, 0, none⟩) 0 0) ([] : List Rr) from World.ownsRow_lit wo #[] 0 (Nat.le_refl _) (by simp [maxLen]) (by simp))
      have HBI := Lib.hid ((Below.refl wo.heap.size wo).alloc (Nat.le_refl _) (.cells #[] 36))
      generalize wo.alloc (.cells #[] 36) = wi at *
      go_loopw [10, 11] (fun v2 i wr => ∃ (k : Nat) (Q : List Rr), k ≤ T.length ∧ i = .int .i64 k ∧ Own Rr.cells 1 36 wo.heap.size wr v2 Q ∧ Lies wr Q ∧ Apart Q v2 ∧ Q.length = k ∧ Q.map Rr.row = (T.take k).map (fun p => showB cs p.row) ∧ Below wo.heap.size wo wr) (fun _ i _ => T.length - (intOf i).toNat)
      case atStart => exact ⟨0, [], Nat.zero_le _, rfl, HNI.out, fun p hp => (by cases hp), fun p hp => (by cases hp), rfl, rfl, HBI.out⟩
      case round =>
        obtain ⟨k, Q, hk, rfl, ho, hli, hap, hQl, hQr, hb⟩ := hrel
        obtain ⟨wx, hwx⟩ : ∃ wx : World, wx = wr := ⟨_, rfl⟩
        subst hwx
        have HO := Lib.hid ho
        have HLI := Lib.hid hli
        have HAP := Lib.hid hap
        have HQL := Lib.hid hQl
        have HQR := Lib.hid hQr
        have HB := Lib.hid hb
        have HBWX := Lib.hid (HBW.out.trans (hb.mono HBW.out.size))
        have HQ4 := Lib.hid (blk_keep HQ2.out hb)
        clear ho hli hap hQl hQr hb HNI HBI hq hql
        by_cases hkl : k < T.length
        rotate_left
        · have hke : k = T.length := by omega
          subst hke
          have HF := Lib.hid (show Q.map Rr.row = pickB ord down lim conds cs (R.map Rr.row) by rw [HQR.out, List.take_length]; unfold pickB; rw [← HTR.out, List.map_map]; rfl)
          have HSF := Lib.hid (HO.out.sl Rr.len)
          go_wp2_with fail
          go_ret
          exact ⟨_, Q, rfl, HSF.out, HLI.out, HF.out, HBWX.out⟩
        rcases (HT.out.keep HB.out).cases with ⟨A, c, he, hnil⟩ | ⟨b, off, c, he, -, hbl, hsl'⟩
        · rw [hnil] at hkl; simp at hkl
        injection he with he1 he2 he3
        subst he1 he3
        obtain ⟨-, hcells⟩ := hsl'.cells hkl
        have e0 : wx.cell? ⟨b, off + k, none⟩ = some T[k].hd := by
          have := hcells 0 _ rfl
          simp only [Nat.mul_one, Nat.add_zero] at this
          exact this
        have hmem := HTM.out _ (List.getElem_mem hkl)
        have HP := Lib.hid ((HL.out _ hmem).keep HBWX.out)
        have HPL := Lib.hid (show T[k].row.length ≤ 1000000 by rw [HE.out.len _ (List.mem_map.2 ⟨_, hmem, rfl⟩)]; exact HE.out.small)
        have HTK := Lib.hid (show (T.take (k + 1)).map (fun p => showB cs p.row) = (T.take k).map (fun p => showB cs p.row) ++ [showB cs T[k].row] by rw [List.take_succ_eq_append_getElem hkl, List.map_append]; rfl)
        have hk0 : (0 : Int) ≤ (k : Int) := by omega
        have hk1 : (k : Int) < (T.length : Int) := by omega
        clear hcells hsl' hmem
        generalize T[k] = p at *
        obtain ⟨pa, pc, pr⟩ := p
        simp only [Rr.hd] at e0 HP
        simp only at HPL HTK
        have HE0 := Lib.hid e0
        go_wp2_with (at_builtin; refine Hid.out ?_)
        refine Lib.hid ?_
        have hown0 : Own V.cells 3 44 wx.heap.size (wx.alloc (.cells #[] 44)) (.slice (some ⟨wx.heap.size, 0, none⟩) 0 0) ([] : List V) := World.ownsRow_lit wx #[] 0 (Nat.le_refl _) (by simp [maxLen]) (by simp)
        refine wpList_append_sl (xs := ([] : List V)) rfl rfl elV rfl rfl hown0 (HP.out.alloc _) (by have := HPL.out; simp [maxLen]; omega) (by have := HPL.out; simp only [List.length_nil]; omega) (by simp) ?_
        intro v2' w4 ho2 hg2 hat2
        have HR4 := Lib.hid ho2
        have HB4 := Lib.hid (show Below wx.heap.size wx w4 from below_app ((Below.refl wx.heap.size wx).alloc (Nat.le_refl _) _) hg2 (by simp) (fun k hk => (hown0.lt k hk).1))
        clear ho2 hg2 hat2 hown0 e0
        rw [List.nil_append] at HR4
        have hq := blk_cell (blk_keep HQ4.out HB4.out)
        have hql := blk_lt (blk_keep HQ4.out HB4.out)
        go_upto_if 104 with fail
        go_cut [12] from 101 to 146 (fun v wc => ∃ ua uc, v = .slice ua (showB cs pr).length uc ∧ Sl V.cells 3 wc v (showB cs pr) ∧ New wx v ∧ Below wx.heap.size wx wc)
        case first =>
          by_cases h0 : cs = []
          · have hc0 : cs.length = 0 := by rw [h0]; rfl
            have hd0 : decide ((cs.length : Int) > 0) = false := decide_eq_false (by omega)
            have HSH := Lib.hid (show showB cs pr = pr by unfold showB; rw [if_pos h0])
            obtain ⟨ua, uc, rfl⟩ := Sl.len' (HR4.out.sl V.len)
            clear h0
            go_wp2_with fail
            go_meet
            case rel => exact ⟨ua, uc, by rw [HSH.out], by rw [HSH.out]; exact HR4.out.sl V.len, fun g hg => (HR4.out.lt g hg).1, HB4.out⟩
          · rcases (HLV.out.keep (HBWX.out.trans (HB4.out.mono HBWX.out.size))).cases with ⟨A, c, he, hnil⟩ | ⟨bc, oc, c, he, -, hbc, hsc⟩
            · exact absurd hnil h0
            injection he with he1 he2 he3
            subst he1 he3
            have hlen : 0 < cs.length := List.length_pos_iff.2 h0
            have hd0 : decide ((cs.length : Int) > 0) = true := decide_eq_true (by omega)
            have HSH := Lib.hid (show showB cs pr = selV cs pr by unfold showB; rw [if_neg h0]; rfl)
            have HSC := Lib.hid hsc
            clear h0 hsc
            go_upto_region 28 with fail
            have HNJ := Lib.hid (show Own V.cells 3 44 w4.heap.size (w4.alloc (.cells #[] 44)) (.slice (some ⟨w4.heap.size, 0, none⟩) 0 0) ([] : List V) from World.ownsRow_lit w4 #[] 0 (Nat.le_refl _) (by simp [maxLen]) (by simp))
            have HBJ := Lib.hid ((Below.refl w4.heap.size w4).alloc (Nat.le_refl _) (.cells #[] 44))
            generalize w4.alloc (.cells #[] 44) = wj at *
            go_loopw [12, 13] (fun v2 i wr => ∃ j : Nat, j ≤ cs.length ∧ i = .int .i64 j ∧ Own V.cells 3 44 w4.heap.size wr v2 (selV (cs.take j) pr) ∧ Below w4.heap.size w4 wr) (fun _ i _ => cs.length - (intOf i).toNat)
            case atStart => exact ⟨0, Nat.zero_le _, rfl, HNJ.out, HBJ.out⟩
            case round =>
              obtain ⟨j, hj, rfl, ho, hb⟩ := hrel
              clear HNJ HBJ hq hql
              have HO2 := Lib.hid ho
              have HBK := Lib.hid hb
              have HB5 := Lib.hid (HB4.out.trans (hb.mono HB4.out.size))
              have HQ5 := Lib.hid (blk_keep (blk_keep HQ4.out HB4.out) hb)
              have hq := blk_cell HQ5.out
              have hql := blk_lt HQ5.out
              have HS2 := Lib.hid (HSC.out.keep hb)
              have hbc2 := Nat.lt_of_lt_of_le hbc hb.size
              have HE5 := Lib.hid ((HB5.out.cell (p := ⟨b, off + k, none⟩) hbl).trans HE0.out)
              have hbl2 := Nat.lt_of_lt_of_le hbl HB5.out.size
              have HP2 := Lib.hid (HP.out.keep HB5.out)
              clear ho hb
              by_cases hjl : j < cs.length
              rotate_left
              · have hje : j = cs.length := by omega
                subst hje
                rw [List.take_length] at HO2
                obtain ⟨ua, uc, rfl⟩ := Sl.len' (HO2.out.sl V.len)
                go_wp2_with fail
                go_meet
                case rel => exact ⟨ua, uc, by rw [HSH.out], by rw [HSH.out]; exact HO2.out.sl V.len, fun g hg => Nat.le_trans HB4.out.size (HO2.out.lt g hg).1, HB5.out⟩
              obtain ⟨-, hcells⟩ := HS2.out.cells hjl
              have ec : wr.cell? ⟨bc, oc + j, none⟩ = some (.int .i64 cs[j]) := by
                have := hcells 0 _ rfl
                simp only [Nat.mul_one, Nat.add_zero] at this
                exact this
              have HEC4 := Lib.hid (show w4.cell? ⟨bc, oc + j, none⟩ = some (.int .i64 cs[j]) by
                have := (HSC.out.cells hjl).2 0 _ rfl
                simp only [Nat.mul_one, Nat.add_zero] at this
                exact this)
              clear hcells
              have HIN := Lib.hid (sel_in (r := pr) hjl)
              have HOUT := Lib.hid (sel_out (r := pr) hjl)
              have HLN := Lib.hid (sel_len cs pr j)
              have hj0 : (0 : Int) ≤ (j : Int) := by omega
              have hj1 : (j : Int) < (cs.length : Int) := by omega
              generalize cs[j] = n at *
              have HEC := Lib.hid ec
              have uc0 := up_at ec hbc2
              have ue := up_at HE5.out hbl2
              have uq : ∀ (y : Up wr) (o : Nat), y.w.cell? ⟨w.heap.size, o, none⟩ = (#[.int .i64 t, .slice Ac conds.length cc, .slice (some ⟨bc, oc, none⟩) cs.length cl, .int .i64 ord, .bool down, .int .i64 lim] : Array Value)[o]? := fun y o => (y.cell _ _ hql).trans (blk_cell HQ5.out o)
              clear ec
              by_cases hn1 : 1 ≤ n
              rotate_left
              · have HX2 := Lib.hid (HOUT.out fun h => hn1 h.1)
                have hdn : decide (n ≥ 1) = false := decide_eq_false (by omega)
                go_wp2_with fail
                refine wp_region_up (by kernel_rfl) (by kernel_rfl) ?_
                repeat (go_big_quiet_step (fail))
                refine wpQuiet_nil ?_
                rintro w'' ⟨⟨w2, hb2⟩, rfl⟩
                have HO3 := Lib.hid (HO2.out.below hb2)
                have HBK2 := Lib.hid (HBK.out.trans (hb2.mono HBK.out.size))
                clear hb2 uc0 ue uq
                go_wp2_with fail
                go_roundw
                case rel => exact ⟨j + 1, by omega, by go_num, by rw [HX2.out]; exact HO3.out, HBK2.out⟩
                case measure => simp [intOf]; omega
              have hdn : decide (n ≥ 1) = true := decide_eq_true (by omega)
              by_cases hn2 : n ≤ pr.length
              rotate_left
              · have HX2 := Lib.hid (HOUT.out fun h => hn2 h.2)
                have hdn2 : decide (n ≤ (pr.length : Int)) = false := decide_eq_false (by omega)
                go_wp2_with fail
                refine wp_region_up (by kernel_rfl) (by kernel_rfl) ?_
                repeat (go_big_quiet_step (fail))
                refine wpQuiet_nil ?_
                rintro w'' ⟨⟨w2, hb2⟩, rfl⟩
                have HO3 := Lib.hid (HO2.out.below hb2)
                have HBK2 := Lib.hid (HBK.out.trans (hb2.mono HBK.out.size))
                clear hb2 uc0 ue uq
                go_wp2_with fail
                go_roundw
                case rel => exact ⟨j + 1, by omega, by go_num, by rw [HX2.out]; exact HO3.out, HBK2.out⟩
                case measure => simp [intOf]; omega
              have hdn2 : decide (n ≤ (pr.length : Int)) = true := decide_eq_true (by omega)
              have HX2 := Lib.hid (HIN.out ⟨hn1, hn2⟩)
              clear HIN HOUT
              go_wp2_with fail
              refine wp_region_up (by kernel_rfl) (by kernel_rfl) ?_
              repeat (go_big_quiet_step (fail))
              refine wpQuiet_nil ?_
              rintro w'' ⟨⟨w2, hb2⟩, rfl⟩
              have HO3 := Lib.hid (HO2.out.below hb2)
              have HBK2 := Lib.hid (HBK.out.trans (hb2.mono HBK.out.size))
              have HP3 := Lib.hid (HP2.out.keep hb2)
              have HEC2 := Lib.hid ((hb2.cell (p := ⟨bc, oc + j, none⟩) hbc2).trans HEC.out)
              have HE6 := Lib.hid ((hb2.cell (p := ⟨b, off + k, none⟩) hbl2).trans HE5.out)
              have HQ6 := Lib.hid (blk_keep HQ5.out hb2)
              have HB6 := Lib.hid hb2
              clear hb2 uc0 ue uq hdn hdn2 hq hql
              obtain ⟨i, rfl⟩ : ∃ i : Nat, n = (i : Int) + 1 := ⟨(n - 1).toNat, by omega⟩
              have hir : i < pr.length := by omega
              rw [show ((i : Int) + 1 - 1).toNat = i by omega, show pr.getD i vZero = pr[i] by simp [hir]] at HX2
              rcases (HP.out.keep HB4.out).cases with ⟨A, c, he, hnil⟩ | ⟨br, orr, c, he, -, hbr, hsr⟩
              · rw [hnil] at hir; simp at hir
              injection he with he1 he2 he3
              subst he1 he3
              obtain ⟨-, er⟩ := hsr.cells hir
              obtain ⟨er0, er1, er2⟩ := V.row er
              clear er hsr
              generalize pr[i] = x at *
              obtain ⟨xk, xn, xs⟩ := x
              simp only at er0 er1 er2
              have k1 := (HB4.out.cell (p := ⟨b, off + k, none⟩) hbl).trans HE0.out
              have hbl4 := Nat.lt_of_lt_of_le hbl HB4.out.size
              have HQW4 := Lib.hid (blk_keep HQ4.out HB4.out)
              have HMK := Lib.hid (show ∀ wn, Below w4.heap.size w4 wn → (Below w4.heap.size w4 wn ∧ wn.cell? ⟨b, off + k, none⟩ = some (.slice (some ⟨br, orr, none⟩) pr.length pc) ∧ wn.cell? ⟨w.heap.size, 2, none⟩ = some (.slice (some ⟨bc, oc, none⟩) cs.length cl) ∧ wn.cell? ⟨bc, oc + j, none⟩ = some (.int .i64 ((i : Int) + 1)) ∧ wn.cell? ⟨br, orr + i * 3, none⟩ = some (.int .i64 xk) ∧ wn.cell? ⟨br, orr + i * 3 + 1, none⟩ = some (.int .i64 xn) ∧ wn.cell? ⟨br, orr + i * 3 + 2, none⟩ = some (.string xs)) from
                fun wn h => ⟨h, (h.cell (p := ⟨b, off + k, none⟩) hbl4).trans k1, blk_cell (blk_keep HQW4.out h) 2, (h.cell (p := ⟨bc, oc + j, none⟩) hbc).trans HEC4.out, (h.cell (p := ⟨br, orr + i * 3, none⟩) hbr).trans er0, (h.cell (p := ⟨br, orr + i * 3 + 1, none⟩) hbr).trans er1, (h.cell (p := ⟨br, orr + i * 3 + 2, none⟩) hbr).trans er2⟩)
              have hi0 : (0 : Int) ≤ (i : Int) := by omega
              have hi1 : (i : Int) < (pr.length : Int) := by omega
              have hprl := HPL.out
              have hw2 : IntKind.i64.wrap (i : Int) = (i : Int) := by rw [IntKind.wrap_i64]; omega
              have hw3 : IntKind.i64.wrap ((i : Int) + 1 - 1) = (i : Int) := by rw [show (i : Int) + 1 - 1 = (i : Int) by omega]; exact hw2
              have hbk := HBK2.out
              have hszk := HBK2.out.size
              clear er0 er1 er2 k1
              go_wp2_with fail
              go_region_held3 (fun wn => Below w4.heap.size w4 wn ∧ wn.cell? ⟨b, off + k, none⟩ = some (.slice (some ⟨br, orr, none⟩) pr.length pc) ∧ wn.cell? ⟨w.heap.size, 2, none⟩ = some (.slice (some ⟨bc, oc, none⟩) cs.length cl) ∧ wn.cell? ⟨bc, oc + j, none⟩ = some (.int .i64 ((i : Int) + 1)) ∧ wn.cell? ⟨br, orr + i * 3, none⟩ = some (.int .i64 xk) ∧ wn.cell? ⟨br, orr + i * 3 + 1, none⟩ = some (.int .i64 xn) ∧ wn.cell? ⟨br, orr + i * 3 + 2, none⟩ = some (.string xs))
                ((refine HMK.out _ ?_; first | exact below_app (by go_grown) hg2 (by simp; omega) (fun k hk => (HO3.out.lt k hk).1) | go_grown))
                (first
                  | (refine step_append_sl (by rfl) (by rfl) elV (by rfl) (by rfl) (World.ownsRow.drew (HO3.out.alloc _)) ((Sl.one (⟨xk, xn, xs⟩ : V) (by simp) V.len (by rfl)).keep ((Below.refl _ _).drew)) (by have := HLN.out; simp [maxLen]; omega) (by have := HLN.out; simp; omega) (by have := HBK2.out.size; simp; omega) ?_; intro v2' w5 ho2 hg2 hat2))
              have HO5 := Lib.hid ho2
              have HBK5 := Lib.hid (show Below w4.heap.size w4 w5 from below_app (by go_grown) hg2 (by simp; omega) (fun k hk => (HO3.out.lt k hk).1))
              clear ho2 hg2 hat2 hbk hszk hw2 hw3 hprl
              go_wp2_with fail
              go_roundw
              case rel => exact ⟨j + 1, by omega, by go_num, by rw [HX2.out]; exact HO5.out, HBK5.out⟩
              case measure => simp [intOf]; omega
        case rest =>
        obtain ⟨ua, uc, rfl, hs, hnw, hb3⟩ := hcut
        have HU := Lib.hid hs
        have HB6 := Lib.hid (HB.out.trans (hb3.mono HB.out.size))
        have HO3 := Lib.hid (HO.out.below hb3)
        have HLI3 := Lib.hid (HLI.out.keep hb3)
        have HUD := Lib.hid (hnw.dis HO.out)
        clear hs hnw hb3 hq hql HR4 HB4
        go_wp2_with (at_builtin; refine Hid.out ?_)
        refine Lib.hid ?_
        refine wpList_append_sl rfl rfl elR rfl rfl (HO3.out.alloc _) (Sl.one (⟨ua, uc, showB cs pr⟩ : Rr) (by simp) Rr.len rfl) (by have := HQL.out; simp [maxLen]; omega) (by have := HQL.out; simp; omega) (by have := HB6.out.size; simp; omega) ?_
        intro v2' w4 ho2 hg2 hat2
        have HO4 := Lib.hid ho2
        have hw1 := HB6.out.size
        have HB4 := Lib.hid (below_app (HB6.out.alloc HB6.out.size _) hg2 (by simp; omega) (fun k hk => (HO3.out.lt k hk).1))
        have HAP2 := Lib.hid (show Apart (Q ++ [⟨ua, uc, showB cs pr⟩]) v2' from fun p hp hne => by
          rcases List.mem_append.1 hp with hp | hp
          · exact (HAP.out p hp hne).appR hat2 ((HLI3.out p hp).alloc _) hne
          · simp only [List.mem_cons, List.mem_nil_iff, or_false] at hp
            subst hp
            exact HUD.out.appR hat2 (HU.out.alloc _) hne)
        have HLI4 := Lib.hid (show Lies w4 (Q ++ [⟨ua, uc, showB cs pr⟩]) from lies_app (fun p hp => by
          rcases List.mem_append.1 hp with hp | hp
          · exact (HLI3.out p hp).alloc _
          · simp only [List.mem_cons, List.mem_nil_iff, or_false] at hp
            subst hp
            exact HU.out.alloc _) (fun p hp hne => by
          rcases List.mem_append.1 hp with hp | hp
          · exact HAP.out p hp hne
          · simp only [List.mem_cons, List.mem_nil_iff, or_false] at hp
            subst hp
            exact HUD.out) hg2)
        clear ho2 hg2 hat2 hw1
        go_wp2_with fail
        go_roundw
        case rel => exact ⟨k + 1, Q ++ [⟨ua, uc, showB cs pr⟩], by omega, by go_num, HO4.out, HLI4.out, HAP2.out, by rw [List.length_append, HQL.out]; rfl, by rw [HTK.out, List.map_append, HQR.out]; rfl, HB4.out⟩
        case measure => simp [intOf]; omega
end Go.Proofs.Ytlhmencjhhpacaa
