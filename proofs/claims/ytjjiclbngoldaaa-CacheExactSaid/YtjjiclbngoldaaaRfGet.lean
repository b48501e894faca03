/- The reference's cache: Get, Forget, Clean. -/
import Derived.Test.YtjjiclbngoldaaaRf
namespace Go.Proofs.Ytjjiclbngoldaaa
open Go.RowKit

/-- the block gu is a reference's cache of so many pages that holds L, its rows at lv -/
structure Rf (w : World) (gu : Nat) (lv : Value) (size : Int) (L : List On) : Prop where
  blk : w.heap[gu]? = some (rfB size lv)
  sl : Sl oC 3 w lv L
  lt : ∀ k, lv.ownBlock = some k → k < w.heap.size ∧ k ≠ gu
theorem Rf.keep {S : Nat → Prop} {w w' : World} {gu : Nat} {lv : Value} {size : Int} {L : List On} (h : Rf w gu lv size L) (hc : Ch S w w') (h1 : ¬ S gu) (h2 : ∀ k, lv.ownBlock = some k → ¬ S k) : Rf w' gu lv size L :=
  ⟨hc.keep h.blk h1, sl_ch h.sl hc h2, fun k hk => ⟨Nat.lt_of_lt_of_le (h.lt k hk).1 hc.size, (h.lt k hk).2⟩⟩
theorem Rf.below {w w' : World} {gu : Nat} {lv : Value} {size : Int} {L : List On} (h : Rf w gu lv size L) (hb : Below w.heap.size w w') : Rf w' gu lv size L := h.keep (Ch.of_below (S := fun _ => False) hb) id (fun _ _ => id)
theorem rf_set {w : World} {g : Nat} {size : Int} {lv : Value} (h : w.heap[g]? = some (rfB size lv)) (v : Value) : (w.setCell ⟨g, 1, none⟩ v).heap[g]? = some (rfB size v) := by
  simp [World.setCell, Array.getElem?_modify, h, rfB]
/-- the rows are turned to others, that lie in newer memory -/
theorem Rf.set {w w1 : World} {gu : Nat} {lv v : Value} {size : Int} {L L2 : List On} (h : Rf w gu lv size L) (hb : Below w.heap.size w w1) (hs : Sl oC 3 w1 v L2) (hn : New w v) (hl : ∀ k, v.ownBlock = some k → k < w1.heap.size) :
    Rf (w1.setCell ⟨gu, 1, none⟩ v) gu v size L2 ∧ Ch (fun k => k = gu) w (w1.setCell ⟨gu, 1, none⟩ v) := by
  have hg := lt_of_heap h.blk
  have hc : Ch (fun k => k = gu) w1 (w1.setCell ⟨gu, 1, none⟩ v) := (Ch.refl (fun k => k = gu) w1).setCell (p := ⟨gu, 1, none⟩) rfl v
  refine ⟨⟨rf_set (blk_keep h.blk hb) v, sl_ch hs hc (fun k hk e => ?_), fun k hk => ⟨Nat.lt_of_lt_of_le (hl k hk) hc.size, fun e => ?_⟩⟩, (Ch.of_below (S := fun k => k = gu) hb).trans hc⟩
  · have := hn k hk; omega
  · have := hn k hk; omega
theorem Own.new {α : Type} {f : α → List Value} {size : Nat} {e : TypeId} {w w' : World} {v : Value} {xs : List α} (h : Own f size e w.heap.size w' v xs) : New w v := fun k hk => (h.lt k hk).1

set_option maxRecDepth 100000 in
set_option maxHeartbeats 1000000 in
theorem refForget_any (n : Int) (gu : Nat) (lv : Value) (size : Int) (L : List On) (w : World) (h : Rf w gu lv size L) (hl : L.length ≤ 256) :
    Calls Try.prog 20 #[.pointer (some ⟨gu, 0, none⟩), .int .i64 n] w fun e w' => ∃ lv', e = .returned (.tuple #[]) ∧ Rf w' gu lv' size (without n L) ∧ New w lv' ∧ Ch (fun k => k = gu) w w' := by
  obtain ⟨Al, cl, rfl⟩ := Sl.len' h.sl
  have H := Lib.hid h
  clear h
  go_enter Try.func20, Try.ntmps20
  go_wp2_with fail
  refine (without_any n gu size _ L w H.out.blk H.out.sl hl).mono ?_
  rintro e w1 ⟨v, rfl, ho, hb⟩
  obtain ⟨Av, cv, rfl⟩ := Sl.len' (ho.sl oC_len)
  have HO := Lib.hid ho
  have HB := Lib.hid hb
  clear ho hb
  unfold oneV
  generalize lastW n L = x at *
  obtain ⟨a0, a1, a2, a3⟩ := rf_cells (blk_keep H.out.blk HB.out)
  go_wp2_with fail
  refine bodyPost_end (results_none rfl _ _ _) rfl ?_
  obtain ⟨h1, h2⟩ := H.out.set HB.out (HO.out.sl oC_len) HO.out.new (fun k hk => (HO.out.lt k hk).2)
  exact ⟨_, rfl, h1.below ((Below.refl _ _).alloc (Nat.le_refl _) _), HO.out.new, h2.alloc _⟩

set_option maxRecDepth 100000 in
set_option maxHeartbeats 1000000 in
theorem refGet_any (n : Int) (gu : Nat) (lv : Value) (size : Int) (L : List On) (w : World) (h : Rf w gu lv size L) (hl : L.length ≤ 256) :
    Calls Try.prog 14 #[.pointer (some ⟨gu, 0, none⟩), .int .i64 n] w fun e w' => ∃ lv', e = .returned (.tuple #[.string (if hitW n L then (lastW n L).2.1 else ⟨#[]⟩), .bool (hitW n L)]) ∧
      Rf w' gu lv' size (if hitW n L then without n L ++ [lastW n L] else L) ∧ (lv' = lv ∨ New w lv') ∧ Ch (fun k => k = gu) w w' := by
  obtain ⟨Al, cl, rfl⟩ := Sl.len' h.sl
  have H := Lib.hid h
  clear h
  go_enter Try.func14, Try.ntmps14
  go_wp2_with fail
  refine (without_any n gu size _ L w H.out.blk H.out.sl hl).mono ?_
  rintro e w1 ⟨v, rfl, ho, hb⟩
  obtain ⟨Av, cv, rfl⟩ := Sl.len' (ho.sl oC_len)
  have HO := Lib.hid ho
  have HB := Lib.hid hb
  clear ho hb
  unfold oneV
  have HWL := Lib.hid (show (without n L).length ≤ 256 by unfold without; exact Nat.le_trans (List.length_filter_le _ _) hl)
  obtain ⟨x, hxe⟩ : ∃ x, x = lastW n L := ⟨_, rfl⟩
  rw [← hxe]
  have HXE := Lib.hid hxe
  clear hxe
  obtain ⟨a0, a1, a2, a3⟩ := rf_cells (blk_keep H.out.blk HB.out)
  cases hh : hitW n L
  · go_wp2_with fail
    all_goals
      go_ret2
      exact ⟨rfl, _, H.out.below (HB.out.alloc HB.out.size _), .inl rfl, Ch.of_below (HB.out.alloc HB.out.size _)⟩
  · go_wp2_with (at_builtin; refine Hid.out ?_)
    refine Lib.hid ?_
    refine wpList_append_sl rfl rfl elO rfl rfl ((HO.out.alloc _).alloc _) (Sl.one (x : On) (by simp) oC_len rfl) (by have := HWL.out; simp [maxLen]; omega) (by have := HWL.out; simp; omega) (by have := HB.out.size; simp; omega) ?_
    intro v' w6 ho hg hat
    obtain ⟨A6, c6, h6⟩ := Sl.len' (ho.sl oC_len)
    simp only [List.length_append, List.length_cons, List.length_nil, Nat.zero_add] at h6
    subst h6
    have HO6 := Lib.hid ho
    have hlt6 : w1.heap.size < w6.heap.size := by have := hg.size; simp at this; omega
    have HBX := Lib.hid (show w6.heap[w1.heap.size]? = some (oneB x) from (hg.block _ (by simp; omega) (fun e => by have := (HO.out.lt _ e.symm).2; omega)).trans (by rw [Below.heap_alloc _ _ _ (by simp)]; exact heap_at_new rfl))
    have HB6 := Lib.hid (below_app ((HB.out.alloc HB.out.size _).alloc (by have := HB.out.size; simp; omega) _) hg (by have := HB.out.size; simp; omega) (fun k hk => (HO.out.lt k hk).1))
    have hgl := lt_of_heap H.out.blk
    have hg6 := HB6.out.size
    obtain ⟨a0, a1, a2, a3⟩ := rf_cells (blk_keep H.out.blk HB6.out)
    obtain ⟨b0, b1, b2, -⟩ := one_cells HBX.out
    have hne : w1.heap.size ≠ gu := by have := HB.out.size; omega
    clear ho hg hat
    go_wp2_with fail
    go_ret2
    obtain ⟨h1, h2⟩ := H.out.set HB6.out (HO6.out.sl oC_len) HO6.out.new (fun k hk => (HO6.out.lt k hk).2)
    rw [← HXE.out]
    exact ⟨rfl, _, h1, .inr HO6.out.new, h2⟩

theorem set_self (xs : List On) (k : Nat) (h : k < xs.length) : xs.set k xs[k] = xs := by simp
theorem flat_set3 (p : Bool) : ∀ (xs : List On) (k : Nat) (h : k < xs.length), (xs.set k (xs[k].1, xs[k].2.1, p)).flatMap oC = (xs.flatMap oC).set (k * 3 + 2) (.bool p)
  | [], _, h => absurd h (Nat.not_lt_zero _)
  | x :: xs, 0, _ => by simp [oC]
  | x :: xs, k + 1, h => by
    have ih := flat_set3 p xs k (by simpa using h)
    rw [List.set_cons_succ, List.flatMap_cons, List.flatMap_cons]
    simp only [List.getElem_cons_succ]
    rw [ih, show (k + 1) * 3 + 2 = k * 3 + 2 + 1 + 1 + 1 from by omega]
    simp [oC]
theorem Own.set3 {e : TypeId} {base : Nat} {w : World} {g n cap k : Nat} {xs : List On} (h : Own oC 3 e base w (.slice (some ⟨g, 0, none⟩) n cap) xs) (hk : k < xs.length) (p : Bool) :
    Own oC 3 e base (w.setCell ⟨g, k * 3 + 2, none⟩ (.bool p)) (.slice (some ⟨g, 0, none⟩) n cap) (xs.set k (xs[k].1, xs[k].2.1, p)) := by
  unfold Own at h ⊢
  rw [List.length_set, flat_set3 p xs k hk]
  refine ⟨by rw [List.length_set]; exact h.1, ?_⟩
  rcases h.2 with ⟨hv, h0⟩ | ⟨g', cap', cur, hv, hb, hg, hn, hm, hc, ht⟩
  · cases hv
  · cases hv
    refine .inr ⟨g, cap, cur.setIfInBounds (k * 3 + 2) (.bool p), rfl, hb, ?_, hn, hm, by simpa using hc, ?_⟩
    · simp [World.setCell, Array.getElem?_modify, hg]
    · rw [← ht]
      simp [List.take_set]
theorem Own.frozen {α : Type} {f : α → List Value} {size : Nat} {e : TypeId} {base : Nat} {w : World} {g n cap : Nat} {xs : List α} (h : Own f size e base w (.slice (some ⟨g, 0, none⟩) n cap) xs) (i : Nat) : w.frozen? ⟨g, i, none⟩ = false := by
  rcases h.2 with ⟨hv, h0⟩ | ⟨g', cap', cur, hv, hb, hg, hn, hm, hc, ht⟩
  · cases hv
  · cases hv
    exact blk_frozen hg i
set_option maxRecDepth 100000 in
set_option maxHeartbeats 1000000 in
theorem refClean_any (n : Int) (gu : Nat) (lv : Value) (size : Int) (L : List On) (w : World) (h : Rf w gu lv size L) (hl : L.length ≤ 256) :
    Calls Try.prog 18 #[.pointer (some ⟨gu, 0, none⟩), .int .i64 n] w fun e w' => ∃ lv', e = .returned (.tuple #[]) ∧ Rf w' gu lv' size (cleanL n L) ∧ New w lv' ∧ Ch (fun k => k = gu) w w' := by
  obtain ⟨Al, cl, rfl⟩ := Sl.len' h.sl
  have H := Lib.hid h
  clear h
  obtain ⟨a0, a1, a2, a3⟩ := rf_cells H.out.blk
  go_enter Try.func18, Try.ntmps18
  go_wp2_with (at_builtin; refine Hid.out ?_)
  refine Lib.hid ?_
  have hown0 : Own oC 3 65 w.heap.size (w.alloc (.cells #[] 65)) (.slice (some ⟨w.heap.size, 0, none⟩) 0 0) ([] : List On) := World.ownsRow_lit w #[] 0 (Nat.le_refl _) (by simp [maxLen]) (by simp)
  refine wpList_append_sl rfl rfl elO rfl rfl hown0 (H.out.sl.alloc _) (by simp [maxLen]; omega) (by simp; omega) (by simp) ?_
  intro v' w6 ho hg hat
  rw [List.nil_append] at ho
  obtain ⟨A6, c6, h6⟩ := Sl.len' (ho.sl oC_len)
  subst h6
  have HO6 := Lib.hid ho
  have HB6 := Lib.hid (below_app ((Below.refl _ w).alloc (Nat.le_refl _) _) hg (by simp) (fun k hk => (hown0.lt k hk).1))
  clear ho hg hat hown0 a0 a1 a2 a3
  go_wp2_with fail
  go_loopw [5] (fun kv wr => ∃ k : Nat, k ≤ L.length ∧ kv = .int .i64 k ∧ Own oC 3 65 w.heap.size wr (.slice A6 L.length c6) (cleanL n (L.take k) ++ L.drop k) ∧ Below w.heap.size w wr) (fun kv _ => L.length - (intOf kv).toNat)
  case atStart => exact ⟨0, Nat.zero_le _, rfl, HO6.out, HB6.out⟩
  case round =>
    obtain ⟨k, hk, rfl, hown, hbel⟩ := hrel
    have HOWN := Lib.hid hown
    have HBEL := Lib.hid hbel
    obtain ⟨a0, a1, a2, a3⟩ := rf_cells (blk_keep H.out.blk hbel)
    clear hown hbel
    by_cases hlt : k < L.length
    · have hll : (cleanL n (L.take k) ++ L.drop k).length = L.length := by unfold cleanL; simp; omega
      have hat : (cleanL n (L.take k) ++ L.drop k)[k]'(by omega) = L[k] := by
        rw [List.getElem_append_right (by unfold cleanL; simp; omega)]
        simp [cleanL, Nat.min_eq_left (Nat.le_of_lt hlt)]
      have hst : cleanL n (L.take (k + 1)) ++ L.drop (k + 1) = (cleanL n (L.take k) ++ L.drop k).set k (if L[k].1 == n then (L[k].1, L[k].2.1, false) else L[k]) := by
        have e1 : (cleanL n (L.take k)).length = k := by unfold cleanL; simp; omega
        rw [List.take_succ_eq_append_getElem hlt, List.drop_eq_getElem_cons hlt, List.set_append_right _ _ (by omega), e1, Nat.sub_self, List.set_cons_zero]
        unfold cleanL
        rw [List.map_append, List.append_assoc]
        rfl
      have hse : (cleanL n (L.take k) ++ L.drop k).set k L[k] = cleanL n (L.take k) ++ L.drop k := by
        have := set_self (cleanL n (L.take k) ++ L.drop k) k (by omega)
        rw [hat] at this
        exact this
      have HSE := Lib.hid hse
      clear hse
      have hg : ∃ g, A6 = some ⟨g, 0, none⟩ := by
        rcases HOWN.out.2 with ⟨hv, h0⟩ | ⟨g, cap, cur, hv, _⟩
        · omega
        · injection hv with hv; exact ⟨_, hv⟩
      obtain ⟨g, rfl⟩ := hg
      obtain ⟨b, off, c, he, -, hbl, hsl⟩ := ((HOWN.out.sl oC_len).cases).resolve_left (fun ⟨A, c, _, h⟩ => by rw [h] at hll; simp at hll; omega)
      injection he with he1 he2 he3
      injection he1 with he1
      injection he1 with he4 he5 he6
      subst he4 he5 he3
      obtain ⟨-, hcells⟩ := hsl.cells (k := k) (by omega)
      rw [Nat.zero_add] at hcells
      rw [hat] at hcells
      have e0 : wr.cell? ⟨g, k * 3, none⟩ = some (.int .i64 L[k].1) := by simpa using hcells 0 _ rfl
      have hk0 : (0 : Int) ≤ (k : Int) := by omega
      have hk1 : (k : Int) < (L.length : Int) := by omega
      have e2 : wr.cell? ⟨g, k * 3 + 2, none⟩ = some (.bool L[k].2.2) := by simpa using hcells 2 _ rfl
      have f2 := HOWN.out.frozen (k * 3 + 2)
      have HST := Lib.hid hst
      have HS3 := Lib.hid (HOWN.out.set3 (k := k) (by omega) false)
      rw [hat] at HS3
      have hgw : w.heap.size ≤ g := (HOWN.out.lt g rfl).1
      have hgu := lt_of_heap H.out.blk
      clear hcells hsl hst hat hll he2
      generalize L[k] = x at *
      obtain ⟨xn, xs, xd⟩ := x
      simp only at e0 e2 HST HS3 HSE
      cases hx : (xn == n)
      · have HS4 := Lib.hid (show cleanL n (L.take (k + 1)) ++ L.drop (k + 1) = cleanL n (L.take k) ++ L.drop k by rw [HST.out, if_neg (by simp [hx])]; exact HSE.out)
        go_wp2_with fail
        refine ⟨⟨k + 1, by omega, by go_num, by rw [HS4.out]; exact HOWN.out, HBEL.out⟩, ?_⟩
        simp [intOf]
        omega
      · have HS4 := Lib.hid (show cleanL n (L.take (k + 1)) ++ L.drop (k + 1) = (cleanL n (L.take k) ++ L.drop k).set k (xn, xs, false) by rw [HST.out, if_pos (by simp [hx])])
        go_wp2_with fail
        refine ⟨⟨k + 1, by omega, by go_num, by rw [HS4.out]; exact HS3.out, HBEL.out.trans (((Ch.refl (fun j => j = g) wr).setCell (p := ⟨g, k * 3 + 2, none⟩) rfl _).below HBEL.out.size (fun j e => by omega))⟩, ?_⟩
        simp [intOf]
        omega
    · have HTK := Lib.hid (show cleanL n (L.take k) ++ L.drop k = cleanL n L by rw [List.take_of_length_le (by omega), List.drop_of_length_le (by omega), List.append_nil])
      go_wp2_with fail
      refine bodyPost_end (results_none rfl _ _ _) rfl ?_
      rw [HTK.out] at HOWN
      obtain ⟨h1, h2⟩ := H.out.set HBEL.out (HOWN.out.sl oC_len) HOWN.out.new (fun k hk => (HOWN.out.lt k hk).2)
      exact ⟨_, rfl, h1, HOWN.out.new, h2⟩
end Go.Proofs.Ytjjiclbngoldaaa
