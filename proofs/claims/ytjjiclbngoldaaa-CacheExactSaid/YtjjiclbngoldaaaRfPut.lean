/- The reference's cache: Put. -/
import Derived.Test.YtjjiclbngoldaaaRfGet
namespace Go.Proofs.Ytjjiclbngoldaaa
open Go.RowKit

/-- the round of Put: k have gone -/
structure PutI (w6 : World) (v6 : Value) (M : List On) (k : Nat) (sv ov : Value) (wr : World) : Prop where
  at_ : ∃ A c, sv = .slice A (M.drop k).length c ∧ (M.drop k).length ≤ c
  sl : Sl oC 3 w6 sv (M.drop k)
  own : Own Pg.cells 2 29 w6.heap.size wr ov (((M.take k).filter fun x => x.2.2).map pgOf)
  below : Below w6.heap.size w6 wr
  ob : sv.ownBlock = v6.ownBlock
theorem Own.cap {α : Type} {f : α → List Value} {size : Nat} {e : TypeId} {base : Nat} {w : World} {A : Option Addr} {n c : Nat} {xs : List α} (h : Own f size e base w (.slice A n c) xs) : n ≤ c := by
  rcases h.2 with ⟨hv, h0⟩ | ⟨g', cap', cur, hv, hb, hg, hn, hm, hc, ht⟩
  · injection hv with h1 h2 h3; omega
  · injection hv with h1 h2 h3; omega
theorem pgs_snoc (M : List On) (k : Nat) (h : k < M.length) : ((M.take (k + 1)).filter fun x => x.2.2).map pgOf = if M[k].2.2 then ((M.take k).filter fun x => x.2.2).map pgOf ++ [pgOf M[k]] else ((M.take k).filter fun x => x.2.2).map pgOf := by
  rw [List.take_succ_eq_append_getElem h, List.filter_append, List.map_append]
  cases hd : M[k].2.2 <;> simp [hd]
theorem Sl.tail {α : Type} {f : α → List Value} {size : Nat} {w : World} {b off n c : Nat} {xs : List α} (h : Sl f size w (.slice (some ⟨b, off, none⟩) n c) xs) (hne : xs ≠ []) (c' : Nat) : Sl f size w (.slice (some ⟨b, off + size, none⟩) (n - 1) c') xs.tail := by
  obtain ⟨A, c0, he, h⟩ := h
  obtain ⟨b', off', rfl, hlt, hc⟩ := h hne
  injection he with e1 e2 e3
  injection e1 with e1
  injection e1 with e4 e5 e6
  subst e4 e5 e2
  refine ⟨_, c', by rw [List.length_tail], fun _ => ⟨_, _, rfl, hlt, fun i x hx j u hu => ?_⟩⟩
  have := hc (i + 1) x (by rw [← hx]; simp) j u hu
  rw [show off + size + i * size + j = off + (i + 1) * size + j by rw [Nat.succ_mul]; omega]
  exact this
attribute [local go_sem ↓] app_eq
def slLen : Value → Nat
  | .slice _ n _ => n
  | _ => 0

set_option maxRecDepth 100000 in
set_option maxHeartbeats 1000000 in
theorem refPut_any (n : Int) (s : ByteArray) (d : Bool) (gu : Nat) (lv : Value) (size : Int) (L : List On) (w : World) (h : Rf w gu lv size L) (hl : L.length ≤ 256) (hz : 1 ≤ size) (hz2 : size ≤ 256) :
    Calls Try.prog 16 #[.pointer (some ⟨gu, 0, none⟩), .int .i64 n, .string s, .bool d] w fun e w' => ∃ lv' r, e = .returned r ∧ Rf w' gu lv' size (putL size n s d L).1 ∧ Sl Pg.cells 2 w' r (putL size n s d L).2 ∧ New w lv' ∧ New w r ∧ Ch (fun k => k = gu) w w' := by
  obtain ⟨Al, cl, rfl⟩ := Sl.len' h.sl
  have H := Lib.hid h
  clear h
  go_enter Try.func16, Try.ntmps16
  go_wp2_with fail
  refine (without_any n gu size _ L w H.out.blk H.out.sl hl).mono ?_
  rintro e w1 ⟨v, rfl, ho, hb⟩
  obtain ⟨Av, cv, rfl⟩ := Sl.len' (ho.sl oC_len)
  have HO := Lib.hid ho
  have HB := Lib.hid hb
  clear ho hb
  unfold oneV
  have HWL := Lib.hid (show (without n L).length ≤ 256 by unfold without; exact Nat.le_trans (List.length_filter_le _ _) hl)
  obtain ⟨x, hxe⟩ : ∃ x, x = lastW n L := ⟨_, rfl⟩
  rw [← hxe]
  clear hxe
  go_wp2_with (at_builtin; refine Hid.out ?_)
  refine Lib.hid ?_
  refine wpList_append_sl rfl rfl elO rfl rfl ((HO.out.alloc _).alloc _) (Sl.one ((n, s, d) : On) (by simp) oC_len rfl) (by have := HWL.out; simp [maxLen]; omega) (by have := HWL.out; simp; omega) (by have := HB.out.size; simp; omega) ?_
  intro v' w6 ho hg hat
  obtain ⟨A6, c6, h6⟩ := Sl.len' (ho.sl oC_len)
  have HPE := Lib.hid (show putL size n s d L = ((without n L ++ [(n, s, d)]).drop ((without n L ++ [(n, s, d)]).length - size.toNat), (((without n L ++ [(n, s, d)]).take ((without n L ++ [(n, s, d)]).length - size.toNat)).filter fun x => x.2.2).map pgOf) from rfl)
  have HML := Lib.hid (show (without n L ++ [(n, s, d)]).length ≤ 257 by have := HWL.out; simp; omega)
  have HB6 := Lib.hid (below_app ((HB.out.alloc HB.out.size _).alloc (by have := HB.out.size; simp; omega) _) hg (by have := HB.out.size; simp; omega) (fun k hk => (HO.out.lt k hk).1))
  clear hg hat
  generalize without n L ++ [(n, s, d)] = M at *
  subst h6
  have HO6 := Lib.hid ho
  clear ho
  obtain ⟨a0, a1, a2, a3⟩ := rf_cells (blk_keep H.out.blk HB6.out)
  go_wp2_with fail
  have HI := Lib.hid (show PutI w6 (.slice A6 M.length c6) M 0 (.slice A6 M.length c6) (.slice (some ⟨w6.heap.size, 0, none⟩) 0 0) (w6.alloc (.cells #[] 29)) from
    ⟨⟨A6, c6, rfl, HO6.out.cap⟩, HO6.out.sl oC_len, World.ownsRow_lit w6 #[] 0 (Nat.le_refl _) (by simp [maxLen]) (by simp), (Below.refl _ _).alloc (Nat.le_refl _) _, rfl⟩)
  clear a0 a1 a2 a3
  go_loopw [9, 12] (fun sv ov wr => ∃ k : Nat, k ≤ M.length - size.toNat ∧ PutI w6 (.slice A6 M.length c6) M k sv ov wr) (fun sv _ _ => slLen sv)
  case atStart => exact ⟨0, Nat.zero_le _, HI.out⟩
  case round =>
    obtain ⟨k, hk, ⟨A, c, rfl, hcap⟩, hsl, hown, hbel, hob⟩ := hrel
    obtain ⟨T, hT⟩ : ∃ T, T = M.drop k := ⟨_, rfl⟩
    rw [← hT] at hcap hsl hob ⊢
    have HSL := Lib.hid hsl
    have HOWN := Lib.hid hown
    have HBEL := Lib.hid hbel
    obtain ⟨a0, a1, a2, a3⟩ := rf_cells (blk_keep (blk_keep H.out.blk HB6.out) hbel)
    obtain ⟨P, hP⟩ : ∃ P, P = ((M.take k).filter fun x => x.2.2).map pgOf := ⟨_, rfl⟩
    have hPl : P.length ≤ 257 := by rw [hP, List.length_map]; exact Nat.le_trans (List.length_filter_le _ _) (by rw [List.length_take]; have := HML.out; omega)
    rw [← hP] at hown HOWN
    have HPP := Lib.hid hP
    clear hP
    obtain ⟨Ao, co, hov⟩ := Sl.len' (hown.sl Pg.len)
    subst hov
    have HTL := Lib.hid (show T.length = M.length - k by rw [hT]; simp)
    have HTT := Lib.hid hT
    have HOB := Lib.hid hob
    clear hsl hown hbel hT hob
    by_cases hlt : size < (T.length : Int)
    · have hlk : k < M.length := by have := HTL.out; omega
      have HPS := Lib.hid (pgs_snoc M k hlk)
      obtain ⟨b, off, c', he, -, hbl, hs2⟩ := ((HSL.out.keep HBEL.out).cases).resolve_left (fun ⟨A, c, _, h⟩ => by rw [h] at hlt; simp at hlt; omega)
      injection he with he1 he2 he3
      subst he1 he3
      obtain ⟨-, hcells⟩ := hs2.cells (k := 0) (by rw [HTL.out]; omega)
      have h0 : T[0]'(by rw [HTL.out]; omega) = M[k] := by
        have hT := HTT.out
        subst hT
        simp
      rw [h0] at hcells
      have e0 : wr.cell? ⟨b, off, none⟩ = some (.int .i64 M[k].1) := by simpa using hcells 0 _ rfl
      have e1 : wr.cell? ⟨b, off + 1, none⟩ = some (.string M[k].2.1) := by simpa using hcells 1 _ rfl
      have e2 : wr.cell? ⟨b, off + 2, none⟩ = some (.bool M[k].2.2) := by simpa using hcells 2 _ rfl
      have hT1 : (1 : Int) ≤ (T.length : Int) := by have := HTL.out; omega
      have hT0 : (0 : Int) < (T.length : Int) := by omega
      have hTc : (T.length : Int) ≤ (c : Int) := by omega
      have HTA := Lib.hid (show ∀ ov wx, Own Pg.cells 2 29 w6.heap.size wx ov (((M.take (k + 1)).filter fun x => x.2.2).map pgOf) → Below w6.heap.size w6 wx → PutI w6 (.slice A6 M.length c6) M (k + 1) (.slice (some ⟨b, off + 3, none⟩) (T.length - 1) (c - 1)) ov wx from fun ov wx h1 h2 =>
        ⟨⟨_, c - 1, by rw [List.length_drop, HTL.out]; rw [Nat.sub_sub], by have := HTL.out; rw [List.length_drop]; omega⟩, by have := HSL.out.tail (fun h => by rw [h] at hT1; simp at hT1) (c - 1); rw [HTT.out, List.tail_drop] at this; rw [HTT.out]; exact this, h1, h2, HOB.out⟩)
      clear hcells hs2 h0
      generalize M[k] = x at *
      obtain ⟨xn, xs, xd⟩ := x
      simp only at e0 e1 e2 HPS
      cases xd
      · have HP2 := Lib.hid (show ((M.take (k + 1)).filter fun x => x.2.2).map pgOf = P from by have := HPS.out; simp only [Bool.false_eq_true, if_false] at this; rw [this]; exact HPP.out.symm)
        go_wp2_with fail
        refine ⟨⟨k + 1, by have := HTL.out; omega, HTA.out _ _ (by rw [HP2.out]; exact HOWN.out) HBEL.out⟩, ?_⟩
        simp [slLen]
        have := HTL.out
        omega
      · have HP2 := Lib.hid (show ((M.take (k + 1)).filter fun x => x.2.2).map pgOf = P ++ [⟨xn, xs⟩] from by have := HPS.out; simp only [if_true] at this; rw [this, ← HPP.out]; rfl)
        obtain ⟨v', w7, hr, ho, hg, hat⟩ := run_append_sl (P := Try.prog) elP 22 (World.ownsRow.drew (HOWN.out.alloc (.cells #[.int .i64 xn, .string xs] 29)) : Own Pg.cells 2 29 w6.heap.size ((wr.alloc (.cells #[.int .i64 xn, .string xs] 29)).drew) _ P)
          ((Sl.one (⟨xn, xs⟩ : Pg) (c := 1) rfl Pg.len rfl).keep ((Below.refl _ _).drew)) (by simp [maxLen]; omega) (by simp; omega) (by have := HBEL.out.size; simp; omega)
        have hr' : (appSem #[22, 22] 22 #[.slice Ao P.length co, .slice (some ⟨wr.heap.size, 0, none⟩) 1 1]).run Try.prog ((wr.alloc (.cells #[.int .i64 xn, .string xs] 29)).drew) = .ok v' w7 := hr
        clear hr
        have hg' : (wr.alloc (.cells #[.int .i64 xn, .string xs] 29)).grownBy w7 (Value.slice Ao P.length co).ownBlock := ⟨hg.os, hg.tape, hg.output, hg.size, hg.block⟩
        have HB7 := Lib.hid (below_app (HBEL.out.alloc HBEL.out.size _) hg' (by have := HBEL.out.size; simp; omega) (fun k hk => (HOWN.out.lt k hk).1))
        have HO7 := Lib.hid ho
        have hmx : Try.prog.follows .mixedOrders = true := by kernel_rfl
        clear ho hg hat hg'
        go_wp2_with fail
        go_region_with (fail)
        all_goals
          go_wp2_with fail
          refine ⟨⟨k + 1, by have := HTL.out; omega, HTA.out _ _ (by rw [HP2.out]; exact HO7.out) HB7.out⟩, ?_⟩
          simp [slLen]
          have := HTL.out
          omega
    · have hke : k = M.length - size.toNat := by have := HTL.out; omega
      have HKE := Lib.hid hke
      have HLT := Lib.hid hlt
      clear hke
      go_wp2_with fail
      go_ret
      have hcw : Ch (fun j => j = gu) wr (wr.setCell ⟨gu, 1, none⟩ (.slice A T.length c)) := (Ch.refl (fun j => j = gu) wr).setCell (p := ⟨gu, 1, none⟩) rfl _
      have hnw : New w (.slice A T.length c) := fun j hj => HO6.out.new j (HOB.out ▸ hj)
      obtain ⟨h1, h2⟩ := H.out.set (HB6.out.trans (HBEL.out.mono HB6.out.size)) (HSL.out.keep HBEL.out) hnw (fun j hj => Nat.lt_of_lt_of_le (HO6.out.lt j (HOB.out ▸ hj)).2 HBEL.out.size)
      have hgl := lt_of_heap H.out.blk
      refine ⟨_, _, rfl, ?_, ?_, hnw, fun j hj => Nat.le_trans HB6.out.size (HOWN.out.lt j hj).1, h2⟩
      · rw [HPE.out, ← HKE.out, ← HTT.out]
        exact h1
      · rw [HPE.out, ← HKE.out, ← HPP.out]
        exact sl_ch (HOWN.out.sl Pg.len) hcw (fun j hj e => by have := (HOWN.out.lt j hj).1; have := HB6.out.size; omega)
end Go.Proofs.Ytjjiclbngoldaaa
