/- schema.Row and cahierref18.Row: whether a row can stand in a table. -/
import Derived.Test.YtlhmencjhhpacaaName
namespace Go.Proofs.Ytlhmencjhhpacaa
open Go.RowKit

/-- the first number that isn't 0 -/
def firstErr : List Int → Int
  | [] => 0
  | e :: es => if e = 0 then firstErr es else e
theorem firstErr_none : ∀ (l : List Int), (∀ (j : Nat) (h : j < l.length), l[j] = 0) → firstErr l = 0
  | [], _ => rfl
  | e :: es, h => by
    have h0 : e = 0 := h 0 (by simp)
    rw [firstErr, if_pos h0]
    exact firstErr_none es fun j hj => h (j + 1) (by simp; omega)
theorem firstErr_at : ∀ (l : List Int) (k : Nat) (hk : k < l.length), l[k] ≠ 0 → (∀ (j : Nat) (h : j < l.length), j < k → l[j] = 0) → firstErr l = l[k]
  | [], k, hk, _, _ => by simp at hk
  | e :: es, 0, hk, hne, _ => by
    rw [firstErr, if_neg (by simpa using hne)]; rfl
  | e :: es, k + 1, hk, hne, hall => by
    have h0 : e = 0 := hall 0 (by simp) (by omega)
    rw [firstErr, if_pos h0]
    exact firstErr_at es k (by simp at hk; omega) (by simpa using hne) fun j hj hlt => hall (j + 1) (by simp; omega) (by omega)
def fitsAt (t : Int) (xs : List V) : List Int := xs.mapIdx fun i x => fitsE t ((i : Int) + 1) x.k x.n x.s
def rowE (t : Int) (xs : List V) : Int := if (cols t).length = 0 then 41 else if xs.length ≠ (cols t).length then 42 else firstErr (fitsAt t xs)
theorem fitsAt_len (t : Int) (xs : List V) : (fitsAt t xs).length = xs.length := by simp [fitsAt]
theorem fitsAt_get (t : Int) (xs : List V) (k : Nat) (h : k < (fitsAt t xs).length) : (fitsAt t xs)[k] = fitsE t ((k : Int) + 1) (xs[k]'(by simpa [fitsAt] using h)).k (xs[k]'(by simpa [fitsAt] using h)).n (xs[k]'(by simpa [fitsAt] using h)).s := by
  simp [fitsAt]
def allFit (t : Int) (xs : List V) (k : Nat) : Prop := ∀ j (h : j < xs.length), j < k → fitsE t ((j : Int) + 1) xs[j].k xs[j].n xs[j].s = 0
theorem rowE_bad {t : Int} {xs : List V} {k : Nat} (hn : xs.length = (cols t).length) (hk : k < xs.length) (h : (fitsE t ((k : Int) + 1) xs[k].k xs[k].n xs[k].s != 0) = true) (hall : allFit t xs k) : rowE t xs = fitsE t ((k : Int) + 1) xs[k].k xs[k].n xs[k].s := by
  unfold rowE
  rw [if_neg (by omega), if_neg (by omega)]
  have hk' : k < (fitsAt t xs).length := by rw [fitsAt_len]; exact hk
  rw [firstErr_at (fitsAt t xs) k hk' (by rw [fitsAt_get]; simpa using h) (fun j hj hlt => by rw [fitsAt_get]; exact hall j (by simpa [fitsAt_len] using hj) hlt), fitsAt_get]
theorem rowE_ok {t : Int} {xs : List V} {k : Nat} (hn : xs.length = (cols t).length) (h0 : (cols t).length ≠ 0) (hk : ¬ k < xs.length) (hall : allFit t xs k) : rowE t xs = 0 := by
  unfold rowE
  rw [if_neg h0, if_neg (by omega)]
  exact firstErr_none _ fun j hj => by rw [fitsAt_get]; exact hall j (by simpa [fitsAt_len] using hj) (by rw [fitsAt_len] at hj; omega)
theorem allFit_up {t : Int} {xs : List V} {k : Nat} (h : allFit t xs k) (hk : k < xs.length) (hf : (fitsE t ((k : Int) + 1) xs[k].k xs[k].n xs[k].s != 0) = false) : allFit t xs (k + 1) := by
  intro j hj hlt
  by_cases e : j = k
  · subst e; simpa using hf
  · exact h j hj (by omega)

theorem row_any (t : Int) (v : Value) (xs : List V) (w : World) (hv : Sl V.cells 3 w v xs) (hl : xs.length ≤ 1073741824) (hs : ∀ x ∈ xs, x.s.size ≤ maxLen) :
    Calls Try.prog 21 #[.int .i64 t, v] w fun e w' => e = .returned (.int .i64 (rowE t xs)) ∧ Below w.heap.size w w' := by
  have hcl := cols_len t
  by_cases h0 : (cols t).length = 0
  · have hret : rowE t xs = 41 := by unfold rowE; rw [if_pos h0]
    rw [hret]
    clear hret
    obtain ⟨A, c, rfl⟩ := Sl.len' hv
    clear hv hs
    go_enter Try.func21, Try.ntmps21
    go_wp2_with fail
    refine (cols_any _ _).mono ?_
    rintro e w1 ⟨v1, rfl, hsl, -, hb⟩
    obtain ⟨A1, c1, rfl⟩ := Sl.len' hsl
    clear hsl
    go_wp2_with fail
    go_ret
    exact ⟨rfl, hb⟩
  by_cases hn : xs.length = (cols t).length
  rotate_left
  · have hret : rowE t xs = 42 := by unfold rowE; rw [if_neg h0, if_pos hn]
    rw [hret]
    clear hret
    obtain ⟨A, c, rfl⟩ := Sl.len' hv
    clear hv hs
    have e0 : (((cols t).length : Int) == 0) = false := by simpa using h0
    have e1 : ((xs.length : Int) != ((cols t).length : Int)) = true := by simp; omega
    go_enter Try.func21, Try.ntmps21
    go_wp2_with fail
    refine (cols_any _ _).mono ?_
    rintro e w1 ⟨v1, rfl, hsl, -, hb⟩
    obtain ⟨A1, c1, rfl⟩ := Sl.len' hsl
    clear hsl
    go_wp2_with fail
    go_ret
    exact ⟨rfl, hb⟩
  rcases hv.cases with ⟨A, c, rfl, rfl⟩ | ⟨b, off, c, rfl, hne, hbl, hv'⟩
  · exact absurd hn (by simp; omega)
  have HV := Lib.hid hv'
  have HS := Lib.hid hs
  have HN := Lib.hid hn
  have H0 := Lib.hid h0
  have e0 : (((cols t).length : Int) == 0) = false := by simpa using h0
  have e1 : ((xs.length : Int) != ((cols t).length : Int)) = false := by simp; omega
  have e2 : ¬ (((cols t).length : Int) = 0) := by simpa using h0
  clear hv hs hne hv' hn h0
  go_enter Try.func21, Try.ntmps21
  go_wp2_with fail
  refine (cols_any _ _).mono ?_
  rintro e w1 ⟨v1, rfl, hsl, -, hb⟩
  obtain ⟨A1, c1, rfl⟩ := Sl.len' hsl
  have HB := Lib.hid hb
  clear hsl hb
  go_wp2_with fail
  go_loopw [22] (fun i wr => ∃ k : Nat, k ≤ xs.length ∧ i = .int .i64 k ∧ Below w.heap.size w wr ∧ allFit t xs k) (fun i _ => xs.length - (intOf i).toNat)
  case atStart => exact ⟨0, Nat.zero_le _, rfl, HB.out, fun j _ h => absurd h (by omega)⟩
  case round =>
    obtain ⟨k, hk, rfl, hb, hall⟩ := hrel
    have HA := Lib.hid hall
    have HBr := Lib.hid hb
    by_cases hkl : k < xs.length
    · obtain ⟨hbl', hcells⟩ := (HV.out.keep hb).cells hkl
      obtain ⟨f0, f1, f2⟩ := V.row hcells
      have hsk : xs[k].s.size ≤ maxLen := HS.out _ (List.getElem_mem hkl)
      have HK := Lib.hid hkl
      clear hb hall hcells hbl'
      go_wp2_with fail
      refine (fits_any _ _ _ _ _ _ hsk).mono ?_
      rintro e w2 ⟨rfl, hb2⟩
      have HB2 := Lib.hid ((HBr.out.alloc HBr.out.size _).trans (hb2.mono ((HBr.out.alloc HBr.out.size _).size)))
      clear hb2
      go_wp2_with fail
      · go_ret
        exact ⟨ret_i (rowE_bad HN.out HK.out ‹_› HA.out).symm, HB2.out⟩
      · go_roundw
        case rel => exact ⟨k + 1, by omega, by go_num, HB2.out, allFit_up HA.out HK.out ‹_›⟩
        case measure => simp [intOf]; omega
    · have HK := Lib.hid hkl
      clear hb hall
      go_wp2_with fail
      go_ret
      exact ⟨ret_i (rowE_ok HN.out H0.out HK.out HA.out).symm, HBr.out⟩
theorem rowR_any (t : Int) (v : Value) (xs : List V) (w : World) (hv : Sl V.cells 3 w v xs) (hl : xs.length ≤ 1073741824) (hs : ∀ x ∈ xs, x.s.size ≤ maxLen) :
    Calls Try.prog 22 #[.int .i64 t, v] w fun e w' => e = .returned (.int .i64 (rowE t xs)) ∧ Below w.heap.size w w' := by
  have hcl := cols_len t
  by_cases h0 : (cols t).length = 0
  · have hret : rowE t xs = 41 := by unfold rowE; rw [if_pos h0]
    rw [hret]
    clear hret
    obtain ⟨A, c, rfl⟩ := Sl.len' hv
    clear hv hs
    go_enter Try.func22, Try.ntmps22
    go_wp2_with fail
    refine (colsR_any _ _).mono ?_
    rintro e w1 ⟨v1, rfl, hsl, -, hb⟩
    obtain ⟨A1, c1, rfl⟩ := Sl.len' hsl
    clear hsl
    go_wp2_with fail
    go_ret
    exact ⟨rfl, hb⟩
  by_cases hn : xs.length = (cols t).length
  rotate_left
  · have hret : rowE t xs = 42 := by unfold rowE; rw [if_neg h0, if_pos hn]
    rw [hret]
    clear hret
    obtain ⟨A, c, rfl⟩ := Sl.len' hv
    clear hv hs
    have e0 : (((cols t).length : Int) == 0) = false := by simpa using h0
    have e1 : ((xs.length : Int) != ((cols t).length : Int)) = true := by simp; omega
    go_enter Try.func22, Try.ntmps22
    go_wp2_with fail
    refine (colsR_any _ _).mono ?_
    rintro e w1 ⟨v1, rfl, hsl, -, hb⟩
    obtain ⟨A1, c1, rfl⟩ := Sl.len' hsl
    clear hsl
    go_wp2_with fail
    go_ret
    exact ⟨rfl, hb⟩
  rcases hv.cases with ⟨A, c, rfl, rfl⟩ | ⟨b, off, c, rfl, hne, hbl, hv'⟩
  · exact absurd hn (by simp; omega)
  have HV := Lib.hid hv'
  have HS := Lib.hid hs
  have HN := Lib.hid hn
  have H0 := Lib.hid h0
  have e0 : (((cols t).length : Int) == 0) = false := by simpa using h0
  have e1 : ((xs.length : Int) != ((cols t).length : Int)) = false := by simp; omega
  have e2 : ¬ (((cols t).length : Int) = 0) := by simpa using h0
  clear hv hs hne hv' hn h0
  go_enter Try.func22, Try.ntmps22
  go_wp2_with fail
  refine (colsR_any _ _).mono ?_
  rintro e w1 ⟨v1, rfl, hsl, -, hb⟩
  obtain ⟨A1, c1, rfl⟩ := Sl.len' hsl
  have HB := Lib.hid hb
  clear hsl hb
  go_wp2_with fail
  go_loopw [6] (fun i wr => ∃ k : Nat, k ≤ xs.length ∧ i = .int .i64 k ∧ Below w.heap.size w wr ∧ allFit t xs k) (fun i _ => xs.length - (intOf i).toNat)
  case atStart => exact ⟨0, Nat.zero_le _, rfl, HB.out, fun j _ h => absurd h (by omega)⟩
  case round =>
    obtain ⟨k, hk, rfl, hb, hall⟩ := hrel
    have HA := Lib.hid hall
    have HBr := Lib.hid hb
    by_cases hkl : k < xs.length
    · obtain ⟨hbl', hcells⟩ := (HV.out.keep hb).cells hkl
      obtain ⟨f0, f1, f2⟩ := V.row hcells
      have hsk : xs[k].s.size ≤ maxLen := HS.out _ (List.getElem_mem hkl)
      have HK := Lib.hid hkl
      clear hb hall hcells hbl'
      go_wp2_with fail
      refine (fitsR_any _ _ _ _ _ _ hsk).mono ?_
      rintro e w2 ⟨rfl, hb2⟩
      have HB2 := Lib.hid (HBr.out.trans (hb2.mono (HBr.out.size)))
      clear hb2
      go_wp2_with fail
      · go_ret
        exact ⟨ret_i (rowE_bad HN.out HK.out ‹_› HA.out).symm, HB2.out⟩
      · go_roundw
        case rel => exact ⟨k + 1, by omega, by go_num, HB2.out, allFit_up HA.out HK.out ‹_›⟩
        case measure => simp [intOf]; omega
    · have HK := Lib.hid hkl
      clear hb hall
      go_wp2_with fail
      go_ret
      exact ⟨ret_i (rowE_ok HN.out H0.out HK.out HA.out).symm, HBr.out⟩
end Go.Proofs.Ytlhmencjhhpacaa
