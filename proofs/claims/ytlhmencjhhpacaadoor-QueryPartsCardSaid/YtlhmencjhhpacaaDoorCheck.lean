/- query.Check and cahierref20.Check answer the same: whether a query can be asked. -/
import Derived.Test.YtlhmencjhhpacaaDoorChk
namespace Go.Proofs.YtlhmencjhhpacaaDoor
open Go.RowKit

def condErr (t : Int) (c : Cnd) : Int :=
  if noneB (cols t).length c.col = true then 41 else if (decide (c.op < 1) || decide (8 < c.op)) = true then 1 else if isRightB c.op c.v.k c.v.n c.v.s (colGet t c.col).kind = false then 42 else 0
def checkE (t : Int) (conds : List Cnd) (cs : List Int) (ord : Int) : Int :=
  if (cols t).length = 0 then 41 else if 8 < conds.length ∨ 16 < cs.length then 47
  else if firstErr (conds.map (condErr t)) = 0 then (if (cs.any (noneB (cols t).length) || (ord != 0 && noneB (cols t).length ord)) = true then 41 else 0) else firstErr (conds.map (condErr t))
def condsOk (t : Int) (conds : List Cnd) (k : Nat) : Prop := ∀ j (h : j < conds.length), j < k → condErr t conds[j] = 0
theorem condsOk_up {t : Int} {conds : List Cnd} {k : Nat} (h : condsOk t conds k) (hk : k < conds.length) (h0 : condErr t conds[k] = 0) : condsOk t conds (k + 1) := by
  intro j hj hlt
  by_cases e : j = k
  · subst e; exact h0
  · exact h j hj (by omega)
theorem check_bad {t : Int} {conds : List Cnd} {cs : List Int} {ord : Int} {k : Nat} {e : Int} (h0 : ¬ (cols t).length = 0) (h1 : ¬ (8 < conds.length ∨ 16 < cs.length)) (hk : k < conds.length) (he : condErr t conds[k] = e) (hne : ¬ e = 0) (ha : condsOk t conds k) : checkE t conds cs ord = e := by
  unfold checkE
  have hf : firstErr (conds.map (condErr t)) = e := by
    rw [firstErr_at (conds.map (condErr t)) k (by simpa using hk) (by simp only [List.getElem_map]; rw [he]; exact hne) (fun j hj hlt => by simp only [List.getElem_map]; exact ha j (by simpa using hj) hlt)]
    simp only [List.getElem_map]
    exact he
  rw [if_neg h0, if_neg h1, hf, if_neg hne]
theorem check_end {t : Int} {conds : List Cnd} {cs : List Int} {ord : Int} {k : Nat} (h0 : ¬ (cols t).length = 0) (h1 : ¬ (8 < conds.length ∨ 16 < cs.length)) (hk : ¬ k < conds.length) (ha : condsOk t conds k) :
    checkE t conds cs ord = if (cs.any (noneB (cols t).length) || (ord != 0 && noneB (cols t).length ord)) = true then 41 else 0 := by
  unfold checkE
  rw [if_neg h0, if_neg h1, if_pos (firstErr_none _ fun j hj => by simp only [List.getElem_map]; exact ha j (by simpa using hj) (by simp at hj; omega))]
theorem noneB_in {n : Nat} {x : Int} (h : 1 ≤ x ∧ x ≤ n) : noneB n x = false := by unfold noneB; rw [decide_eq_false (by omega), decide_eq_false (by omega)]; rfl
theorem noneB_out {n : Nat} {x : Int} (h : ¬ (1 ≤ x ∧ x ≤ n)) : noneB n x = true := by
  unfold noneB
  by_cases h1 : x < 1
  · rw [decide_eq_true h1]; rfl
  · rw [decide_eq_true (show (n : Int) < x by omega)]; simp

set_option maxRecDepth 100000 in
set_option maxHeartbeats 1000000 in
theorem check_any (t : Int) (cv lv : Value) (conds : List Cnd) (cs : List Int) (ord : Int) (down : Bool) (lim : Int) (w : World) (hcv : Sl Cnd.cells 5 w cv conds) (hlv : Sl iCells 1 w lv cs) (hcs : ∀ x ∈ conds, x.v.s.size ≤ maxLen) :
    Calls Tryd.prog 12 #[.agg #[.int .i64 t, cv, lv, .int .i64 ord, .bool down, .int .i64 lim]] w fun e w' => e = .returned (.int .i64 (checkE t conds cs ord)) ∧ Below w.heap.size w w' := by
  have hcl := cols_len t
  obtain ⟨Ac, cc, rfl⟩ := Sl.len' hcv
  obtain ⟨Al, cl, rfl⟩ := Sl.len' hlv
  have HCV := Lib.hid hcv
  have HLV := Lib.hid hlv
  have HCS := Lib.hid hcs
  clear hcv hlv hcs
  go_enter Tryd.func12, Tryd.ntmps12
  go_wp2_with fail
  refine (cols_any _ _).mono ?_
  rintro e w1 ⟨v, rfl, hsl, -, hb1⟩
  obtain ⟨Av, cv, rfl⟩ := Sl.len' hsl
  have hQ := blk_keep (blk_new (w0 := w) (g := w.heap.size) rfl) hb1
  have hz1 : w.heap.size < w1.heap.size := by have := hb1.size; simp only [World.size_alloc] at this; omega
  have hcq := blk_cell hQ
  have HW1 := Lib.hid (((Below.refl _ w).alloc (Nat.le_refl _) _).trans (hb1.mono (by simp)))
  have HQ := Lib.hid hQ
  have HSL := Lib.hid hsl
  clear hb1 hQ hsl
  by_cases h0 : (cols t).length = 0
  · have hr : checkE t conds cs ord = 41 := by unfold checkE; rw [if_pos h0]
    have HR := Lib.hid hr
    clear hr
    have e0 : (((cols t).length : Int) == 0) = true := by simpa using h0
    have H0 := Lib.hid h0
    clear h0
    go_wp2_with fail
    go_ret
    exact ⟨ret_i HR.out.symm, HW1.out.alloc HW1.out.size _⟩
  have e0 : (((cols t).length : Int) == 0) = false := by simpa using h0
  have H0 := Lib.hid h0
  clear h0
  by_cases h1 : 8 < conds.length ∨ 16 < cs.length
  · have hr : checkE t conds cs ord = 47 := by unfold checkE; rw [if_neg H0.out, if_pos h1]
    have HR := Lib.hid hr
    have H1 := Lib.hid h1
    clear hr h1
    by_cases h8 : (8 : Int) < conds.length
    · go_wp2_with fail
      go_ret
      exact ⟨ret_i HR.out.symm, HW1.out.alloc HW1.out.size _⟩
    · have h16 : (16 : Int) < cs.length := by have := H1.out; omega
      go_wp2_with fail
      go_ret
      exact ⟨ret_i HR.out.symm, HW1.out.alloc HW1.out.size _⟩
  have h8 : ¬ (8 : Int) < conds.length := by omega
  have h16 : ¬ (16 : Int) < cs.length := by omega
  have H1 := Lib.hid h1
  clear h1
  have HCV1 := Lib.hid ((HCV.out.keep HW1.out).alloc (.cells #[.slice Av (cols t).length cv] 63))
  have HLV1 := Lib.hid ((HLV.out.keep HW1.out).alloc (.cells #[.slice Av (cols t).length cv] 63))
  have HSL1 := Lib.hid (HSL.out.alloc (.cells #[.slice Av (cols t).length cv] 63))
  have HQ1 := Lib.hid ((Below.heap_alloc w1 (.cells #[.slice Av (cols t).length cv] 63) _ hz1).trans HQ.out)
  have HG1 := Lib.hid (blk_new (w0 := w1) (g := w1.heap.size) (o := .cells #[.slice Av (cols t).length cv] 63) rfl)
  have HWa := Lib.hid (HW1.out.alloc HW1.out.size (.cells #[.slice Av (cols t).length cv] 63))
  clear HCV HLV HSL HQ HW1
  go_wp2_with fail
  clear hcq
  go_loopw [29] (fun i wr => ∃ k : Nat, k ≤ conds.length ∧ i = .int .i64 k ∧ Below w.heap.size w wr ∧ condsOk t conds k ∧ Sl Cnd.cells 5 wr (.slice Ac conds.length cc) conds ∧ Sl iCells 1 wr (.slice Al cs.length cl) cs ∧ Sl C.cells 5 wr (.slice Av (cols t).length cv) (cols t) ∧
    wr.heap[w.heap.size]? = some (.cells #[.int .i64 t, .slice Ac conds.length cc, .slice Al cs.length cl, .int .i64 ord, .bool down, .int .i64 lim] 40 (0, 0)) ∧ wr.heap[w1.heap.size]? = some (.cells #[.slice Av (cols t).length cv] 63 (0, 0))) (fun i _ => conds.length - (intOf i).toNat)
  case atStart => exact ⟨0, Nat.zero_le _, rfl, HWa.out, fun j _ h => absurd h (by omega), HCV1.out, HLV1.out, HSL1.out, HQ1.out, HG1.out⟩
  case round =>
    obtain ⟨k, hk, rfl, hb, hok, hcv, hlv, hsl, hQ, hG⟩ := hrel
    clear HWa HCV1 HLV1 HSL1 HQ1 HG1
    have HW := Lib.hid hb
    have HK := Lib.hid hok
    have HCV := Lib.hid hcv
    have HLV := Lib.hid hlv
    have HSL := Lib.hid hsl
    have HQ := Lib.hid hQ
    have HG := Lib.hid hG
    have hzq : w.heap.size < wr.heap.size := by
      rcases Nat.lt_or_ge w.heap.size wr.heap.size with h | h
      · exact h
      · rw [Array.getElem?_eq_none h] at hQ; cases hQ
    have hzg : w1.heap.size < wr.heap.size := by
      rcases Nat.lt_or_ge w1.heap.size wr.heap.size with h | h
      · exact h
      · rw [Array.getElem?_eq_none h] at hG; cases hG
    have hcq := blk_cell hQ
    have hcg := blk_cell hG
    clear hb hok hcv hlv hsl hQ hG
    by_cases hkl : k < conds.length
    rotate_left
    · have HE := Lib.hid (check_end (cs := cs) (ord := ord) H0.out H1.out hkl HK.out)
      go_wp2_with fail
      refine (containsNone_any cs _ w1.heap.size Av (cols t).length cv wr (by simpa using hcg 0) HLV.out (by omega)).mono ?_
      rintro e w3 ⟨rfl, rfl⟩
      rcases Bool.eq_false_or_eq_true (cs.any (noneB (cols t).length)) with ha | ha
      · go_wp2_with fail
        go_ret
        exact ⟨ret_i (by rw [HE.out, ha]; rfl), HW.out⟩
      rcases Bool.eq_false_or_eq_true (ord != 0) with ho | ho
      rotate_left
      · go_wp2_with fail
        go_ret
        exact ⟨ret_i (by rw [HE.out, ha, ho]; rfl), HW.out⟩
      go_wp2_with fail
      refine (none_any ord w1.heap.size Av (cols t).length cv wr (by simpa using hcg 0)).mono ?_
      rintro e w3 ⟨rfl, rfl⟩
      rcases Bool.eq_false_or_eq_true (noneB (cols t).length ord) with hno | hno
      · go_wp2_with fail
        go_ret
        exact ⟨ret_i (by rw [HE.out, ha, ho, hno]; rfl), HW.out⟩
      · go_wp2_with fail
        go_ret
        exact ⟨ret_i (by rw [HE.out, ha, ho, hno]; rfl), HW.out⟩
    rcases HCV.out.cases with ⟨A, c, he, rfl⟩ | ⟨b, off, c, he, -, hbl, hcv'⟩
    · simp at hkl
    injection he with he1 he2 he3
    subst he1 he3
    obtain ⟨-, hcells⟩ := hcv'.cells hkl
    obtain ⟨e1, e2, e3, e4, e5⟩ := Cnd.row hcells
    have hsz : conds[k].v.s.size ≤ maxLen := HCS.out _ (List.getElem_mem hkl)
    have HBAD := Lib.hid (fun (e : Int) (he : condErr t conds[k] = e) (hne : ¬ e = 0) => check_bad (cs := cs) (ord := ord) H0.out H1.out hkl he hne HK.out)
    have HUP := Lib.hid (fun h => condsOk_up HK.out hkl h)
    have HC0 := Lib.hid (show condErr t conds[k] = condErr t conds[k] from rfl)
    clear hcells hcv'
    generalize hx : conds[k] = x at *
    clear hx
    obtain ⟨xc, xo, ⟨xk, xn, xs⟩⟩ := x
    simp only at e1 e2 e3 e4 e5 hsz
    go_wp2_with fail
    refine (none_any xc w1.heap.size Av (cols t).length cv _ ((World.cell?_alloc_lt wr _ ⟨w1.heap.size, 0, none⟩ hzg).trans (by simpa using hcg 0))).mono ?_
    rintro e w3 ⟨rfl, rfl⟩
    by_cases hin : 1 ≤ xc ∧ xc ≤ (cols t).length
    rotate_left
    · have hn := noneB_out hin
      have hE := Lib.hid (HBAD.out 41 (by unfold condErr; rw [if_pos hn]) (by omega))
      clear hin
      go_wp2_with fail
      go_ret
      exact ⟨ret_i hE.out.symm, HW.out.alloc HW.out.size _⟩
    have hn := noneB_in hin
    rcases Bool.eq_false_or_eq_true (decide (xo < 1) || decide (8 < xo)) with ho | ho
    · have hE := Lib.hid (HBAD.out 1 (by unfold condErr; rw [if_neg (by rw [hn]; simp), if_pos ho]) (by omega))
      by_cases ho1 : xo < 1
      · go_wp2_with fail
        go_ret
        exact ⟨ret_i hE.out.symm, HW.out.alloc HW.out.size _⟩
      · have ho8 : 8 < xo := by simpa [ho1] using ho
        clear ho
        go_wp2_with fail
        go_ret
        exact ⟨ret_i hE.out.symm, HW.out.alloc HW.out.size _⟩
    have ho1 : ¬ xo < 1 := fun h => by simp [h] at ho
    have ho8 : ¬ 8 < xo := fun h => by simp [h] at ho
    obtain ⟨j, rfl⟩ : ∃ j : Nat, xc = j + 1 := ⟨(xc - 1).toNat, by omega⟩
    have hjl : j < (cols t).length := by omega
    have hget : colGet t ((j : Int) + 1) = (cols t)[j] := by
      unfold colGet
      rw [if_pos (show colOk t ((j : Int) + 1) = true from decide_eq_true hin), show ((j : Int) + 1 - 1).toNat = j from by omega, List.getD_eq_getElem?_getD, List.getElem?_eq_getElem hjl]
      rfl
    have HCE := Lib.hid (show condErr t ⟨(j : Int) + 1, xo, ⟨xk, xn, xs⟩⟩ = if isRightB xo xk xn xs (cols t)[j].kind = false then 42 else 0 by
      unfold condErr; rw [if_neg (by rw [hn]; simp), if_neg (by rw [ho]; simp), hget])
    rcases HSL.out.cases with ⟨A, c', he, hnil⟩ | ⟨bc, offc, c', he, -, hblc, hsl'⟩
    · rw [hnil] at hjl; simp at hjl
    injection he with he1 he2 he3
    subst he1 he3
    obtain ⟨-, hcells⟩ := hsl'.cells hjl
    obtain ⟨g0, g1, g2, g3, g4⟩ := C.row hcells
    have hnew := @up_new wr #[.int .i64 ((j : Int) + 1), .int .i64 xo, .int .i64 xk, .int .i64 xn, .string xs] 27
    have f0 := up_alloc (O := .cells #[.int .i64 ((j : Int) + 1), .int .i64 xo, .int .i64 xk, .int .i64 xn, .string xs] 27) g0 hblc
    have f1 := up_alloc (O := .cells #[.int .i64 ((j : Int) + 1), .int .i64 xo, .int .i64 xk, .int .i64 xn, .string xs] 27) g1 hblc
    have f2 := up_alloc (O := .cells #[.int .i64 ((j : Int) + 1), .int .i64 xo, .int .i64 xk, .int .i64 xn, .string xs] 27) g2 hblc
    have f3 := up_alloc (O := .cells #[.int .i64 ((j : Int) + 1), .int .i64 xo, .int .i64 xk, .int .i64 xn, .string xs] 27) g3 hblc
    have f4 := up_alloc (O := .cells #[.int .i64 ((j : Int) + 1), .int .i64 xo, .int .i64 xk, .int .i64 xn, .string xs] 27) g4 hblc
    have fg := up_alloc (O := .cells #[.int .i64 ((j : Int) + 1), .int .i64 xo, .int .i64 xk, .int .i64 xn, .string xs] 27) (show wr.cell? ⟨w1.heap.size, 0, none⟩ = some (.slice (some ⟨bc, offc, none⟩) (cols t).length cv) by simpa using hcg 0) hzg
    clear hcells g0 g1 g2 g3 g4 hsl' hin ho hget
    go_wp2_with fail
    refine wp_region_up (by kernel_rfl) (by kernel_rfl) ?_
    repeat (go_big_quiet_step (first | (go_at_call 26; exact up_call (isRight_any ⟨_, _, ⟨_, _, _⟩⟩ (cols t)[j] _ hsz))))
    refine wpQuiet_nil ?_
    rintro w' ⟨⟨w2, hb2⟩, rfl⟩
    have hba := HW.out.alloc HW.out.size (.cells #[.int .i64 ((j : Int) + 1), .int .i64 xo, .int .i64 xk, .int .i64 xn, .string xs] 27)
    have HB2 := Lib.hid (hba.trans (hb2.mono hba.size))
    have HCV2 := Lib.hid ((HCV.out.alloc _).keep hb2)
    have HLV2 := Lib.hid ((HLV.out.alloc _).keep hb2)
    have HSL2 := Lib.hid ((HSL.out.alloc _).keep hb2)
    have HQ2 := Lib.hid (blk_keep (blk_alloc HQ.out _) hb2)
    have HG2 := Lib.hid (blk_keep (blk_alloc HG.out _) hb2)
    clear hb2 hba f0 f1 f2 f3 f4 fg hnew e1 e2 e3 e4 e5 hcq hcg HQ HG HCV HLV HSL
    go_wp2_with fail
    · go_ret
      refine ⟨ret_i (HBAD.out 42 ?_ (by omega)).symm, HB2.out⟩
      rw [HCE.out, if_pos (not_t ‹_›)]
    · go_roundw
      case rel => exact ⟨k + 1, by omega, by go_num, HB2.out, HUP.out (by rw [HCE.out]; exact if_neg (fun h => by have h2 := not_f (b := isRightB xo xk xn xs (cols t)[j].kind) ‹_›; rw [h2] at h; cases h)), HCV2.out, HLV2.out, HSL2.out, HQ2.out, HG2.out⟩
      case measure => simp [intOf]; omega
theorem right_ways (op k n : Int) (s : ByteArray) (ck : Int) : (goodB k n s = false ∧ isRightB op k n s ck = false) ∨ (goodB k n s = true ∧ (k != 0) = false ∧ isRightB op k n s ck = true) ∨
    (goodB k n s = true ∧ (k != 0) = true ∧ decide (6 < op) = true ∧ isRightB op k n s ck = false) ∨ (goodB k n s = true ∧ (k != 0) = true ∧ decide (6 < op) = false ∧ isRightB op k n s ck = (k == kindOf ck)) := by
  unfold isRightB
  rcases Bool.eq_false_or_eq_true (goodB k n s) with hg | hg
  · rw [hg]
    by_cases h0 : k = 0
    · exact .inr (.inl ⟨rfl, by simp [h0], by simp [h0]⟩)
    · by_cases h6 : 6 < op
      · exact .inr (.inr (.inl ⟨rfl, by simp [h0], decide_eq_true h6, by simp [h0]; omega⟩))
      · exact .inr (.inr (.inr ⟨rfl, by simp [h0], decide_eq_false h6, by simp [h0]; omega⟩))
  · rw [hg]; exact .inl ⟨rfl, rfl⟩

end Go.Proofs.YtlhmencjhhpacaaDoor
