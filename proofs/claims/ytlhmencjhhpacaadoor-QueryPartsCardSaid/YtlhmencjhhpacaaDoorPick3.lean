/- query.Pick. -/
import Derived.Test.YtlhmencjhhpacaaDoorPick2
import Derived.Deep.Cut
import Derived.Deep.CutRange
namespace Go.Proofs.YtlhmencjhhpacaaDoor
open Go.RowKit

def cutB {α : Type} (lim : Int) (l : List α) : List α := if 0 ≤ lim then l.take lim.toNat else l
/-- the rows that a query picks -/
def pickB (ord : Int) (down : Bool) (lim : Int) (conds : List Cnd) (cs : List Int) (rows : List (List V)) : List (List V) :=
  (cutB lim (isort (ltR ord down) (rows.filter fun r => matchB r conds))).map (showB cs)
def mine (conds : List Cnd) (p : Rr) : Bool := matchB p.row conds
theorem mineR_yes {R : List Rr} {conds : List Cnd} {k : Nat} (hk : k < R.length) (h : matchB R[k].row conds = true) : (R.take (k + 1)).filter (mine conds) = (R.take k).filter (mine conds) ++ [R[k]] := by
  rw [List.take_succ_eq_append_getElem hk, List.filter_append]; simp [mine, h]
theorem mineR_no {R : List Rr} {conds : List Cnd} {k : Nat} (hk : k < R.length) (h : matchB R[k].row conds = false) : (R.take (k + 1)).filter (mine conds) = (R.take k).filter (mine conds) := by
  rw [List.take_succ_eq_append_getElem hk, List.filter_append]; simp [mine, h]
theorem mineR_len (R : List Rr) (conds : List Cnd) (k : Nat) : ((R.take k).filter (mine conds)).length ≤ R.length := by
  have h1 := List.length_filter_le (mine conds) (R.take k)
  have h2 : (R.take k).length ≤ R.length := List.length_take_le' ..
  omega
theorem mineR_map (R : List Rr) (conds : List Cnd) : (R.filter (mine conds)).map Rr.row = (R.map Rr.row).filter fun r => matchB r conds := by
  rw [List.filter_map]; rfl
theorem Even.sub {R R' : List Rr} {m : Nat} (h : Even (R.map Rr.row) m) (hs : ∀ p ∈ R', p ∈ R) : Even (R'.map Rr.row) m := by
  have hm : ∀ r ∈ R'.map Rr.row, r ∈ R.map Rr.row := fun r hr => by
    obtain ⟨p, hp, rfl⟩ := List.mem_map.1 hr
    exact List.mem_map.2 ⟨p, hs p hp, rfl⟩
  exact ⟨fun r hr => h.len r (hm r hr), fun r hr => h.good r (hm r hr), fun r hr => h.size r (hm r hr), h.small⟩

theorem cutB_len {α : Type} (lim : Int) (l : List α) : (cutB lim l).length = if 0 ≤ lim then min lim.toNat l.length else l.length := by
  unfold cutB; split <;> simp
theorem cutB_map {α β : Type} (lim : Int) (f : α → β) (l : List α) : cutB lim (l.map f) = (cutB lim l).map f := by
  unfold cutB; split
  · rw [List.map_take]
  · rfl
theorem cutB_mem {α : Type} {lim : Int} {l : List α} {x : α} (h : x ∈ cutB lim l) : x ∈ l := by
  unfold cutB at h; split at h
  · exact List.mem_of_mem_take h
  · exact h
theorem cutB_at {α : Type} {lim : Int} {l : List α} {i : Nat} {x : α} (h : (cutB lim l)[i]? = some x) : l[i]? = some x := by
  unfold cutB at h; split at h
  · rw [List.getElem?_take] at h
    split at h
    · exact h
    · cases h
  · exact h
theorem Sl.cut {α : Type} {f : α → List Value} {size : Nat} {w : World} {A : Option Addr} {n c : Nat} {xs : List α} (h : Sl f size w (.slice A n c) xs) (lim : Int) : Sl f size w (.slice A (cutB lim xs).length c) (cutB lim xs) := by
  obtain ⟨A', c', he, h⟩ := h
  injection he with e1 e2 e3
  subst e1 e3
  refine ⟨A, c, rfl, fun hne => ?_⟩
  obtain ⟨b, off, hb, hlt, hc⟩ := h (fun e => hne (by subst e; unfold cutB; split <;> simp))
  exact ⟨b, off, hb, hlt, fun i x hx => hc i x (cutB_at hx)⟩
/-- the rows that are laid so far stay as they are where the list of them grows -/
def Apart (Q : List Rr) (v : Value) : Prop := ∀ p ∈ Q, p.row ≠ [] → Dis p.hd v
theorem lies_app {w w' : World} {Q : List Rr} {v : Value} (h : Lies w Q) (hd : Apart Q v) (hg : w.grownBy w' v.ownBlock) : Lies w' Q := fun p hp => by
  by_cases e : p.row = []
  · exact ⟨_, _, rfl, fun hne => absurd e hne⟩
  · exact (h p hp).dis hg (hd p hp e)

set_option maxRecDepth 100000 in
set_option maxHeartbeats 4000000 in
theorem pick_any (t : Int) (cv lv rv : Value) (conds : List Cnd) (cs : List Int) (ord : Int) (down : Bool) (lim : Int) (R : List Rr) (m : Nat) (w : World) (hcv : Sl Cnd.cells 5 w cv conds) (hlv : Sl iCells 1 w lv cs) (hrv : Sl Rr.cells 1 w rv R) (hL : Lies w R) (hE : Even (R.map Rr.row) m)
    (hcs : ∀ x ∈ conds, x.v.s.size ≤ maxLen) (hcl : conds.length ≤ 1000) (hsl : cs.length ≤ 1000) (hrl : R.length ≤ 1000) :
    Calls Tryd.prog 10 #[.agg #[.int .i64 t, cv, lv, .int .i64 ord, .bool down, .int .i64 lim], rv] w fun e w' => ∃ v Q, e = .returned v ∧ Sl Rr.cells 1 w' v Q ∧ Lies w' Q ∧ Q.map Rr.row = pickB ord down lim conds cs (R.map Rr.row) ∧ Below w.heap.size w w' := by
  obtain ⟨Ac, cc, rfl⟩ := Sl.len' hcv
  obtain ⟨Al, cl, rfl⟩ := Sl.len' hlv
  obtain ⟨Ar, cr, rfl⟩ := Sl.len' hrv
  have HCV := Lib.hid hcv
  have HLV := Lib.hid hlv
  have HRV := Lib.hid hrv
  have HL := Lib.hid hL
  have HE := Lib.hid hE
  have HCS := Lib.hid hcs
  clear hcv hlv hrv hL hE hcs
  go_enter Tryd.func10, Tryd.ntmps10
  go_wp2_with fail
  have HQ1 := Lib.hid (blk_new (w0 := w) (g := w.heap.size) (o := .cells #[.int .i64 t, .slice Ac conds.length cc, .slice Al cs.length cl, .int .i64 ord, .bool down, .int .i64 lim] 40) rfl)
  have HB1 := Lib.hid ((Below.refl w.heap.size w).alloc (Nat.le_refl _) (.cells #[.int .i64 t, .slice Ac conds.length cc, .slice Al cs.length cl, .int .i64 ord, .bool down, .int .i64 lim] 40))
  have hz1 : w.heap.size + 1 ≤ (w.alloc (.cells #[.int .i64 t, .slice Ac conds.length cc, .slice Al cs.length cl, .int .i64 ord, .bool down, .int .i64 lim] 40)).heap.size := by simp
  generalize w.alloc (.cells #[.int .i64 t, .slice Ac conds.length cc, .slice Al cs.length cl, .int .i64 ord, .bool down, .int .i64 lim] 40) = w1 at *
  have HZ1 := Lib.hid hz1
  clear hz1
  go_loopw [5, 13] (fun v2 i wr => ∃ k : Nat, k ≤ R.length ∧ i = .int .i64 k ∧ Own Rr.cells 1 34 w1.heap.size wr v2 ((R.take k).filter (mine conds)) ∧ Below w1.heap.size w1 wr) (fun _ i _ => R.length - (intOf i).toNat)
  case atStart => exact ⟨0, Nat.zero_le _, rfl, Own.nil (f := Rr.cells), Below.refl _ _⟩
  case round =>
    obtain ⟨k, hk, rfl, ho, hb⟩ := hrel
    have HO2 := Lib.hid ho
    have HB2 := Lib.hid hb
    have HBW := Lib.hid (HB1.out.trans (hb.mono HB1.out.size))
    have HQ2 := Lib.hid (blk_keep HQ1.out hb)
    have hq := blk_cell HQ2.out
    have hql := blk_lt HQ2.out
    clear ho hb
    by_cases hkl : k < R.length
    · rcases (HRV.out.keep HBW.out).cases with ⟨A, c, he, hnil⟩ | ⟨b, off, c, he, -, hbl, hsl'⟩
      · rw [hnil] at hkl; simp at hkl
      injection he with he1 he2 he3
      subst he1 he3
      obtain ⟨-, hcells⟩ := hsl'.cells hkl
      have e0 : wr.cell? ⟨b, off + k, none⟩ = some R[k].hd := by
        have := hcells 0 _ rfl
        simp only [Nat.mul_one, Nat.add_zero] at this
        exact this
      have hmem := List.getElem_mem hkl
      have HP := Lib.hid ((HL.out _ hmem).keep HBW.out)
      have HPS := Lib.hid (HE.out.size _ (List.mem_map.2 ⟨_, hmem, rfl⟩))
      have HPL := Lib.hid (show R[k].row.length ≤ 1000000 by rw [HE.out.len _ (List.mem_map.2 ⟨_, hmem, rfl⟩)]; exact HE.out.small)
      have HY := Lib.hid (mineR_yes (conds := conds) hkl)
      have HN := Lib.hid (mineR_no (conds := conds) hkl)
      have HLN := Lib.hid (mineR_len R conds k)
      have hk0 : (0 : Int) ≤ (k : Int) := by omega
      clear hcells hsl' hmem
      generalize R[k] = p at *
      obtain ⟨pa, pc, pr⟩ := p
      simp only [Rr.hd] at e0 HP
      simp only at HPS HPL HY HN
      go_wp2_with fail
      refine (match_any _ _ pr conds _ HP.out (HCV.out.keep HBW.out) HPS.out HCS.out (by omega) (by have := HPL.out; omega)).mono ?_
      rintro e w2 ⟨rfl, hb2⟩
      have HB3 := Lib.hid (HB2.out.trans (hb2.mono HB2.out.size))
      have HO3 := Lib.hid (HO2.out.below hb2)
      clear hb2 hq hql e0
      rcases Bool.eq_false_or_eq_true (matchB pr conds) with hm | hm
      · have HX := Lib.hid (HY.out hm)
        rw [hm]
        go_wp2_with (at_builtin; refine Hid.out ?_)
        refine Lib.hid ?_
        refine wpList_append_sl rfl rfl elR rfl rfl (HO3.out.alloc _) (Sl.one (⟨pa, pc, pr⟩ : Rr) (by simp) Rr.len rfl) (by have := HLN.out; simp [maxLen]; omega) (by have := HLN.out; simp; omega) (by have := HB3.out.size; simp; omega) ?_
        intro v2' w4 ho2 hg2 hat2
        have HO4 := Lib.hid ho2
        have hw1 := HB3.out.size
        have HB4 := Lib.hid (below_app (HB3.out.alloc HB3.out.size _) hg2 (by simp; omega) (fun k hk => (HO3.out.lt k hk).1))
        clear ho2 hg2 hat2 hw1 hm
        go_wp2_with fail
        go_roundw
        case rel => exact ⟨k + 1, by omega, by go_num, by rw [HX.out]; exact HO4.out, HB4.out⟩
        case measure => simp [intOf]; omega
      · have HX := Lib.hid (HN.out hm)
        rw [hm]
        go_wp2_with fail
        go_roundw
        case rel => exact ⟨k + 1, by omega, by go_num, by rw [HX.out]; exact HO3.out, HB3.out⟩
        case measure => simp [intOf]; omega
    · have hke : k = R.length := by omega
      subst hke
      rw [List.take_length] at HO2
      have HLN := Lib.hid (show (R.filter (mine conds)).length ≤ 1000 by have := List.length_filter_le (mine conds) R; omega)
      have HS := Lib.hid (fun p (hp : p ∈ R.filter (mine conds)) => (List.mem_filter.1 hp).1)
      have hform : ∃ A cap, u5 = .slice A (R.filter (mine conds)).length cap ∧ (R.filter (mine conds)).length ≤ cap := by
        rcases HO2.out.2 with ⟨hv, h0⟩ | ⟨g, cap, cur, hv, -, -, hcap, -⟩
        · exact ⟨none, 0, by rw [hv, h0], by omega⟩
        · exact ⟨_, _, hv, hcap⟩
      obtain ⟨A5, cap5, rfl, hcap5⟩ := hform
      have HNE := Lib.hid (show (Value.slice A5 (R.filter (mine conds)).length cap5).ownBlock ≠ some wr.heap.size from fun e => by have := (HO2.out.lt _ e).2; omega)
      have HNE1 := Lib.hid (show (Value.slice A5 (R.filter (mine conds)).length cap5).ownBlock ≠ some w.heap.size from fun e => by have := (HO2.out.lt _ e).1; have := HZ1.out; omega)
      have HSORT := Lib.hid (sortRows_any t (.slice Ac conds.length cc) (.slice Al cs.length cl) ord down lim wr.heap.size w1.heap.size m (R.filter (mine conds)) _ w (wr.alloc (.cells #[.int .i64 t, .slice Ac conds.length cc, .slice Al cs.length cl, .int .i64 ord, .bool down, .int .i64 lim] 40)) (HO2.out.alloc _) (blk_new rfl) HNE.out (fun p hp => HL.out p (HS.out p hp)) (HBW.out.alloc HBW.out.size _) HB1.out.size (HE.out.sub HS.out) (by have := HLN.out; omega))
      have HOL := Lib.hid HO2.out.lt
      clear HO2 HNE
      rw [mineR_map] at HSORT
      generalize R.filter (mine conds) = M at *
      go_wp2_with (first
        | (go_at_call 19; refine (order_any _ _ _ _ _ _ _).mono ?_; rintro e w2 ⟨rfl, rfl⟩))
      refine HSORT.out.mono ?_
      rintro e w2 ⟨rfl, S, hS, hSl, hSm, hSr, hgr⟩
      have HQ3 := Lib.hid ((hgr.block _ (blk_lt (blk_alloc HQ2.out _)) (fun e => HNE1.out e.symm)).trans (blk_alloc HQ2.out _))
      have HB3 := Lib.hid (below_app (HB2.out.alloc HB2.out.size _) hgr (by have := HB2.out.size; simp only [World.size_alloc]; omega) (fun k hk => (HOL.out k hk).1))
      have HSS := Lib.hid hS
      have HSM := Lib.hid hSm
      have HSR := Lib.hid hSr
      have HSL := Lib.hid hSl
      clear hS hSl hSm hSr hgr hq hql HSORT HNE1 HOL HB2 HQ2 HBW
      have hq := blk_cell HQ3.out
      have hql := blk_lt HQ3.out
      go_upto_if 32 with fail
      go_cut [5] from 33 to 39 (fun v wc => v = .slice A5 (cutB lim S).length cap5 ∧ w2 = wc)
      case first =>
        by_cases hlim : 0 ≤ lim
        · obtain ⟨m5, hm5⟩ : ∃ m5 : Nat, m5 = min lim.toNat S.length := ⟨_, rfl⟩
          have hm6 : (cutB lim S).length = m5 := by rw [cutB_len, if_pos hlim, hm5]
          have hm7 : min lim (M.length : Int) = (m5 : Int) := by have := HSL.out; omega
          have hm8 : (m5 : Int) ≤ (cap5 : Int) := by have := HSL.out; omega
          have HM6 := Lib.hid hm6
          clear hm5 hm6
          go_wp2_with fail
          go_meet
          case rel => exact ⟨by rw [HM6.out], rfl⟩
        · have hm6 : (cutB lim S).length = M.length := by rw [cutB_len, if_neg hlim, HSL.out]
          have HM6 := Lib.hid hm6
          clear hm6
          go_wp2_with fail
          go_meet
          case rel => exact ⟨by rw [HM6.out], rfl⟩
      case rest =>
      obtain ⟨rfl, rfl⟩ := hcut
      have HT := Lib.hid (HSS.out.cut lim)
      have HTR := Lib.hid (show (cutB lim S).map Rr.row = cutB lim (isort (ltR ord down) ((R.map Rr.row).filter fun r => matchB r conds)) by rw [← cutB_map, HSR.out])
      have HTM := Lib.hid (fun p (hp : p ∈ cutB lim S) => HS.out p (HSM.out p (cutB_mem hp)))
      have htl : (cutB lim S).length ≤ 1000 := by rw [cutB_len, HSL.out]; have := HLN.out; split <;> omega
      clear HSS HSR HSM HSL HLN HS
      generalize cutB lim S = T at *
      have HB5 := Lib.hid (HB1.out.trans (HB3.out.mono HB1.out.size))
      go_wp2_with fail
      go_loopw [8, 42] (fun v2 i wr => ∃ (k : Nat) (Q : List Rr), k ≤ T.length ∧ i = .int .i64 k ∧ Own Rr.cells 1 34 w2.heap.size wr v2 Q ∧ Lies wr Q ∧ Apart Q v2 ∧ Q.length = k ∧ Q.map Rr.row = (T.take k).map (fun p => showB cs p.row) ∧ Below w2.heap.size w2 wr) (fun _ i _ => T.length - (intOf i).toNat)
      case atStart => exact ⟨0, [], Nat.zero_le _, rfl, Own.nil (f := Rr.cells), fun p hp => (by cases hp), fun p hp => (by cases hp), rfl, rfl, Below.refl _ _⟩
      case round =>
        obtain ⟨k, Q, hk, rfl, ho, hli, hap, hQl, hQr, hb⟩ := hrel
        have HO := Lib.hid ho
        have HLI := Lib.hid hli
        have HAP := Lib.hid hap
        have HQL := Lib.hid hQl
        have HQR := Lib.hid hQr
        have HB := Lib.hid hb
        have HBW := Lib.hid (HB5.out.trans (hb.mono HB5.out.size))
        have HQ4 := Lib.hid (blk_keep HQ3.out hb)
        have hq := blk_cell HQ4.out
        have hql := blk_lt HQ4.out
        clear ho hli hap hQl hQr hb
        by_cases hkl : k < T.length
        rotate_left
        · have hke : k = T.length := by omega
          subst hke
          have HF := Lib.hid (show Q.map Rr.row = pickB ord down lim conds cs (R.map Rr.row) by rw [HQR.out, List.take_length]; unfold pickB; rw [← HTR.out, List.map_map]; rfl)
          have HSF := Lib.hid (HO.out.sl Rr.len)
          go_wp2_with fail
          go_ret
          exact ⟨_, Q, rfl, HSF.out, HLI.out, HF.out, HBW.out⟩
        rcases (HT.out.keep HB.out).cases with ⟨A, c, he, hnil⟩ | ⟨b, off, c, he, -, hbl, hsl'⟩
        · rw [hnil] at hkl; simp at hkl
        injection he with he1 he2 he3
        subst he1 he3
        obtain ⟨-, hcells⟩ := hsl'.cells hkl
        have e0 : wr.cell? ⟨b, off + k, none⟩ = some T[k].hd := by
          have := hcells 0 _ rfl
          simp only [Nat.mul_one, Nat.add_zero] at this
          exact this
        have hmem := HTM.out _ (List.getElem_mem hkl)
        have HP := Lib.hid ((HL.out _ hmem).keep HBW.out)
        have HPL := Lib.hid (show T[k].row.length ≤ 1000000 by rw [HE.out.len _ (List.mem_map.2 ⟨_, hmem, rfl⟩)]; exact HE.out.small)
        have HTK := Lib.hid (show (T.take (k + 1)).map (fun p => showB cs p.row) = (T.take k).map (fun p => showB cs p.row) ++ [showB cs T[k].row] by rw [List.take_succ_eq_append_getElem hkl, List.map_append]; rfl)
        have hk0 : (0 : Int) ≤ (k : Int) := by omega
        clear hcells hsl' hmem
        generalize T[k] = p at *
        obtain ⟨pa, pc, pr⟩ := p
        simp only [Rr.hd] at e0 HP
        simp only at HPL HTK
        go_wp2_with fail
        refine (shown_any t _ _ _ cs pr ord down lim _ (HLV.out.keep HBW.out) HP.out HPL.out hsl).mono ?_
        rintro e w3 ⟨u, rfl, hs, hnw, hb3⟩
        obtain ⟨ua, uc, rfl⟩ := Sl.len' hs
        have HU := Lib.hid hs
        have HNW := Lib.hid hnw
        have HB6 := Lib.hid (HB.out.trans (hb3.mono HB.out.size))
        have HO3 := Lib.hid (HO.out.below hb3)
        have HLI3 := Lib.hid (HLI.out.keep hb3)
        have HUD := Lib.hid (hnw.dis HO.out)
        clear hs hnw hb3 hq hql e0
        go_wp2_with (at_builtin; refine Hid.out ?_)
        refine Lib.hid ?_
        refine wpList_append_sl rfl rfl elR rfl rfl (HO3.out.alloc _) (Sl.one (⟨ua, uc, showB cs pr⟩ : Rr) (by simp) Rr.len rfl) (by have := HQL.out; simp [maxLen]; omega) (by have := HQL.out; simp; omega) (by have := HB6.out.size; simp; omega) ?_
        intro v2' w4 ho2 hg2 hat2
        have HO4 := Lib.hid ho2
        have hw1 := HB6.out.size
        have HB4 := Lib.hid (below_app (HB6.out.alloc HB6.out.size _) hg2 (by simp; omega) (fun k hk => (HO3.out.lt k hk).1))
        have HAP2 := Lib.hid (show Apart (Q ++ [⟨ua, uc, showB cs pr⟩]) v2' from fun p hp hne => by
          rcases List.mem_append.1 hp with hp | hp
          · exact (HAP.out p hp hne).appR hat2 ((HLI3.out p hp).alloc _) hne
          · simp only [List.mem_cons, List.mem_nil_iff, or_false] at hp
            subst hp
            exact HUD.out.appR hat2 (HU.out.alloc _) hne)
        have HLI4 := Lib.hid (show Lies w4 (Q ++ [⟨ua, uc, showB cs pr⟩]) from lies_app (fun p hp => by
          rcases List.mem_append.1 hp with hp | hp
          · exact (HLI3.out p hp).alloc _
          · simp only [List.mem_cons, List.mem_nil_iff, or_false] at hp
            subst hp
            exact HU.out.alloc _) (fun p hp hne => by
          rcases List.mem_append.1 hp with hp | hp
          · exact HAP.out p hp hne
          · simp only [List.mem_cons, List.mem_nil_iff, or_false] at hp
            subst hp
            exact HUD.out) hg2)
        clear ho2 hg2 hat2 hw1
        go_wp2_with fail
        go_roundw
        case rel => exact ⟨k + 1, Q ++ [⟨ua, uc, showB cs pr⟩], by omega, by go_num, HO4.out, HLI4.out, HAP2.out, by rw [List.length_append, HQL.out]; rfl, by rw [HTK.out, List.map_append, HQR.out]; rfl, HB4.out⟩
        case measure => simp [intOf]; omega
end Go.Proofs.YtlhmencjhhpacaaDoor
