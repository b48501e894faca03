/- cahierlaw20.QueryPlans answers true. -/
import Derived.Test.YtlhmencjhhpacaaPicks
import Derived.Test.YtlhmencjhhpacaaPlansLaw
import Derived.Deep.Cut
import Derived.Deep.CutRange
namespace Go.Proofs.Ytlhmencjhhpacaa
open Go.RowKit

theorem eqV_P {P : V → Prop} {conds : List Cnd} (h0 : P vZero) (h : ∀ x ∈ conds, P x.v) (col : Int) : P (eqV conds col) := by
  induction conds with
  | nil => exact h0
  | cons c cs ih =>
    unfold eqV
    split
    · exact h c (List.mem_cons_self ..)
    · exact ih fun x hx => h x (List.mem_cons_of_mem _ hx)
theorem spanV_P {P : V → Prop} {conds : List Cnd} (h : ∀ x ∈ conds, P x.v) (col : Int) : ∀ p : V × V, P p.1 → P p.2 → P (spanV conds col p).1 ∧ P (spanV conds col p).2 := by
  induction conds with
  | nil => exact fun p h1 h2 => ⟨h1, h2⟩
  | cons c cs ih =>
    intro p h1 h2
    have hc := h c (List.mem_cons_self ..)
    refine ih (fun x hx => h x (List.mem_cons_of_mem _ hx)) (spanS col c p) ?_ ?_ <;> unfold spanS orK <;> split <;> (try split) <;> (try split) <;> (try split) <;> first | assumption | exact hc
theorem plan_P {P : V → Prop} {t : Int} {conds : List Cnd} {list : List Ix} (h0 : P vZero) (h : ∀ x ∈ conds, P x.v) : P (planB t conds list).lo ∧ P (planB t conds list).hi := by
  unfold planB
  split
  · exact ⟨eqV_P h0 h 1, eqV_P h0 h 1⟩
  · rcases planE_spec conds (overI t list) (overI t list) with ⟨x, -, e, -⟩ | e
    · rw [e]; exact ⟨eqV_P h0 h _, eqV_P h0 h _⟩
    · rw [e]
      unfold planT
      split
      · exact spanV_P h 1 _ h0 h0
      · rcases planS_spec conds (overI t list) with ⟨x, -, e, -⟩ | e
        · rw [e]; exact spanV_P h x.col _ h0 h0
        · rw [e]; exact ⟨h0, h0⟩
theorem nmS_list : nmS.toList = [115, 116, 121, 108, 101, 115, 46, 110, 97, 109, 101] := by rw [ByteArray.toList_eq]; rfl
theorem nmP_list : nmP.toList = [112, 97, 114, 97, 115, 46, 112, 108, 97, 99, 101] := by rw [ByteArray.toList_eq]; rfl
theorem of_beq_false {a b : List UInt8} (h : (a == b) = false) : ¬ a = b := by simpa using h

set_option maxRecDepth 100000 in
set_option maxHeartbeats 4000000 in
theorem plans_any (t : Int) (cv lv rv iv : Value) (conds : List Cnd) (cs : List Int) (ord : Int) (down : Bool) (lim : Int) (R : List Rr) (list : List Ix) (w : World) (hcv : Sl Cnd.cells 5 w cv conds) (hlv : Sl iCells 1 w lv cs) (hrv : Sl Rr.cells 1 w rv R) (hiv : Sl Ix.cells 3 w iv list) (hL : Lies w R) (hcs : ∀ x ∈ conds, x.v.s.size ≤ maxLen) (hs : ∀ p ∈ R, ∀ x ∈ p.row, x.s.size ≤ maxLen) (hns : ∀ x ∈ list, x.name.size ≤ maxLen) :
    Calls Try.prog 9 #[.agg #[.int .i64 t, cv, lv, .int .i64 ord, .bool down, .int .i64 lim], rv, iv] w fun e w' => e = .returned (.bool true) ∧ Below w.heap.size w w' := by
  obtain ⟨Ac, cc, rfl⟩ := Sl.len' hcv
  obtain ⟨Al, cl, rfl⟩ := Sl.len' hlv
  obtain ⟨Ar, cr, rfl⟩ := Sl.len' hrv
  obtain ⟨Ai, ci, rfl⟩ := Sl.len' hiv
  have HCV := Lib.hid hcv
  have HLV := Lib.hid hlv
  have HRV := Lib.hid hrv
  have HIV := Lib.hid hiv
  have HL := Lib.hid hL
  have HCS := Lib.hid hcs
  have HS := Lib.hid hs
  have HNS := Lib.hid hns
  clear hcv hlv hrv hiv hL hcs hs hns
  go_enter Try.func9, Try.ntmps9
  go_wp2_with fail
  refine (awake20_any _).mono ?_
  rintro e w1 ⟨rfl, hb⟩
  have HQ := Lib.hid (blk_keep (blk_new (w0 := w) (g := w.heap.size) rfl) hb)
  have HB := Lib.hid (((Below.refl w.heap.size w).alloc (Nat.le_refl _) _).trans (hb.mono (by simp)))
  clear hb
  have hq := blk_cell HQ.out
  have hql := blk_lt HQ.out
  go_wp2_with fail
  refine (great_any t _ _ conds cs ord down lim _ (HCV.out.keep HB.out) (HLV.out.keep HB.out)).mono ?_
  rintro e w2 ⟨⟨b, rfl, hsm⟩, hb⟩
  have HQ2 := Lib.hid (blk_keep HQ.out hb)
  have HB2 := Lib.hid (HB.out.trans (hb.mono HB.out.size))
  clear hb hq hql HQ HB
  cases b with
  | true =>
    clear hsm
    go_wp2_with fail
    go_ret
    exact ⟨rfl, HB2.out⟩
  | false =>
    have HSM := Lib.hid (hsm rfl)
    clear hsm
    go_wp2_with fail
    refine (even_any _ R _ (HRV.out.keep HB2.out) (HL.out.keep HB2.out) HS.out).mono ?_
    rintro e w3 ⟨⟨b, rfl, hev⟩, hb⟩
    have HQ3 := Lib.hid (blk_keep HQ2.out hb)
    have HB3 := Lib.hid (HB2.out.trans (hb.mono HB2.out.size))
    clear hb HQ2 HB2
    cases b with
    | false =>
      clear hev
      go_wp2_with fail
      go_ret
      exact ⟨rfl, HB3.out⟩
    | true =>
      obtain ⟨h60, m, hm16, hev⟩ := hev rfl
      have HEV := Lib.hid (even_of hm16 hev HS.out)
      have H60 := Lib.hid h60
      clear hev hm16
      by_cases h20 : (20 : Int) < list.length
      · go_wp2_with fail
        go_ret
        exact ⟨rfl, HB3.out⟩
      have H20 := Lib.hid (show list.length ≤ 20 by omega)
      have hd20 : decide ((20 : Int) < (list.length : Int)) = false := decide_eq_false h20
      clear h20
      have hq := blk_cell HQ3.out
      have hql := blk_lt HQ3.out
      go_wp2_with fail
      refine (check_any t _ _ conds cs ord down lim _ (HCV.out.keep HB3.out) (HLV.out.keep HB3.out) HCS.out).mono ?_
      rintro e w4 ⟨rfl, hb⟩
      have HQ4 := Lib.hid (blk_keep HQ3.out hb)
      have HB4 := Lib.hid (HB3.out.trans (hb.mono HB3.out.size))
      clear hb hq hql HQ3 HB3
      generalize hce : checkE t conds cs ord = ce at *
      have HCE := Lib.hid hce
      clear hce
      by_cases hce0 : ce = 0
      rotate_left
      · have hd : (ce != 0) = true := by simpa using hce0
        go_wp2_with fail
        go_ret
        exact ⟨rfl, HB4.out⟩
      subst hce0
      go_wp2_with fail
      have h20' := H20.out
      go_loopw [7] (fun i wr => ∃ k : Nat, k ≤ list.length ∧ i = .int .i64 k ∧ Below w4.heap.size w4 wr ∧ (∀ x ∈ list.take k, indexE x.name x.table x.col = 0) ∧ (list.take k).Pairwise fun a b => a.name ≠ b.name) (fun i _ => list.length - (intOf i).toNat)
      case atStart => exact ⟨0, Nat.zero_le _, rfl, Below.refl _ _, fun x hx => (by cases hx), List.Pairwise.nil⟩
      case round =>
        obtain ⟨k, hk, rfl, hb, hix, hpw⟩ := hrel
        obtain ⟨wo, hwo⟩ : ∃ wo : World, wo = wr := ⟨_, rfl⟩
        subst hwo
        have HBK := Lib.hid hb
        have HBW := Lib.hid (HB4.out.trans (hb.mono HB4.out.size))
        have HIX := Lib.hid hix
        have HPW := Lib.hid hpw
        have HQ5 := Lib.hid (blk_keep HQ4.out hb)
        clear hb hix hpw
        by_cases hkl : k < list.length
        · rcases (HIV.out.keep HBW.out).cases with ⟨A, c, he, hnil⟩ | ⟨b, off, c, he, -, hbl, hsl'⟩
          · rw [hnil] at hkl; simp at hkl
          injection he with he1 he2 he3
          subst he1 he3
          obtain ⟨-, hcells⟩ := hsl'.cells hkl
          obtain ⟨e0, e1, e2⟩ := Ix.row hcells
          have HN := Lib.hid (HNS.out _ (List.getElem_mem hkl))
          have HTK := Lib.hid (List.take_succ_eq_append_getElem hkl)
          have HSL := Lib.hid hsl'
          clear hcells hsl'
          generalize list[k] = x at *
          obtain ⟨xn, xt, xc⟩ := x
          simp only at e0 e1 e2 HN
          go_wp2_with fail
          refine (index_any xn xt xc _ HN.out).mono ?_
          rintro e w5 ⟨rfl, hb⟩
          have HBK2 := Lib.hid (HBK.out.trans (hb.mono HBK.out.size))
          have HBW2 := Lib.hid (HBW.out.trans (hb.mono HBW.out.size))
          have HSL2 := Lib.hid (HSL.out.keep hb)
          have hbl2 := Nat.lt_of_lt_of_le hbl hb.size
          have HE0 := Lib.hid ((hb.cell (p := ⟨b, off + k * 3, none⟩) hbl).trans e0)
          clear hb e0 e1 e2
          generalize hie : indexE xn xt xc = ie at *
          have HIE := Lib.hid hie
          clear hie
          by_cases hie0 : ie = 0
          rotate_left
          · have hd : (ie != 0) = true := by simpa using hie0
            go_wp2_with fail
            go_ret
            exact ⟨rfl, HBW2.out⟩
          subst hie0
          go_wp2_with fail
          go_loopw [8] (fun i wr => ∃ j : Nat, j ≤ k ∧ i = .int .i64 j ∧ Below w5.heap.size w5 wr ∧ ∀ y ∈ list.take j, y.name ≠ xn) (fun i _ => k - (intOf i).toNat)
          case atStart => exact ⟨0, Nat.zero_le _, rfl, Below.refl _ _, fun x hx => (by cases hx)⟩
          case round =>
            obtain ⟨j, hj, rfl, hb, hne⟩ := hrel
            have HBJ := Lib.hid hb
            have HBW3 := Lib.hid (HBW2.out.trans (hb.mono HBW2.out.size))
            have HNE := Lib.hid hne
            have u0 := up_at ((hb.cell (p := ⟨b, off + k * 3, none⟩) hbl2).trans HE0.out) (Nat.lt_of_lt_of_le hbl2 hb.size)
            have hbl3 := Nat.lt_of_lt_of_le hbl2 hb.size
            have HSL3 := Lib.hid (HSL2.out.keep hb)
            clear hb hne
            by_cases hjk : j < k
            rotate_left
            · have hje : j = k := by omega
              subst hje
              have HIX2 := Lib.hid (show ∀ x ∈ list.take (j + 1), indexE x.name x.table x.col = 0 from fun x hx => by
                rw [HTK.out] at hx
                rcases List.mem_append.1 hx with hx | hx
                · exact HIX.out x hx
                · simp only [List.mem_cons, List.mem_nil_iff, or_false] at hx
                  subst hx; exact HIE.out)
              have HPW2 := Lib.hid (show (list.take (j + 1)).Pairwise fun a b => a.name ≠ b.name by
                rw [HTK.out, List.pairwise_append]
                refine ⟨HPW.out, List.pairwise_singleton _ _, fun a ha b hb => ?_⟩
                simp only [List.mem_cons, List.mem_nil_iff, or_false] at hb
                subst hb; exact HNE.out a ha)
              have HBF := Lib.hid (HBK2.out.trans (HBJ.out.mono HBK2.out.size))
              clear u0
              go_wp2_with fail
              go_roundw
              case rel => exact ⟨j + 1, by omega, by go_num, HBF.out, HIX2.out, HPW2.out⟩
              case measure => simp [intOf]; omega
            have hjl : j < list.length := by omega
            obtain ⟨-, hcells⟩ := HSL3.out.cells hjl
            obtain ⟨f0, -, -⟩ := Ix.row hcells
            have HTJ := Lib.hid (List.take_succ_eq_append_getElem hjl)
            clear hcells
            generalize list[j] = y at *
            obtain ⟨yn, yt, yc⟩ := y
            simp only at f0
            have v0 := up_at f0 hbl3
            clear f0
            have hk0 : (0 : Int) ≤ (k : Int) := by omega
            have hk1 : (k : Int) < (list.length : Int) := by omega
            have hj0 : (0 : Int) ≤ (j : Int) := by omega
            have hj1 : (j : Int) < (list.length : Int) := by omega
            by_cases hyn : yn = xn
            · have hd := str_eq xn
              subst hyn
              go_wp2_with fail
              refine wp_region_up (by kernel_rfl) (by kernel_rfl) ?_
              repeat (go_big_quiet_step (fail))
              refine wpQuiet_nil ?_
              rintro w' ⟨⟨w2, hb2⟩, rfl⟩
              have HBF := Lib.hid (HBW3.out.trans (hb2.mono HBW3.out.size))
              clear hb2 u0 v0
              go_wp2_with fail
              go_ret
              exact ⟨rfl, HBF.out⟩
            · have hd := str_ne hyn
              have HNE2 := Lib.hid (show ∀ y ∈ list.take (j + 1), y.name ≠ xn from fun z hz => by
                rw [HTJ.out] at hz
                rcases List.mem_append.1 hz with hz | hz
                · exact HNE.out z hz
                · simp only [List.mem_cons, List.mem_nil_iff, or_false] at hz
                  subst hz; exact hyn)
              go_wp2_with fail
              refine wp_region_up (by kernel_rfl) (by kernel_rfl) ?_
              repeat (go_big_quiet_step (fail))
              refine wpQuiet_nil ?_
              rintro w' ⟨⟨w2, hb2⟩, rfl⟩
              have HBF := Lib.hid (HBJ.out.trans (hb2.mono HBJ.out.size))
              clear hb2 u0 v0
              go_wp2_with fail
              go_roundw
              case rel => exact ⟨j + 1, by omega, by go_num, HBF.out, HNE2.out⟩
              case measure => simp [intOf]; omega
        · have hke : k = list.length := by omega
          subst hke
          rw [List.take_length] at HIX HPW
          have hq := blk_cell HQ5.out
          have hql := blk_lt HQ5.out
          go_wp2_with fail
          refine (plan_any t _ _ _ conds ord down lim list _ (HCV.out.keep HBW.out) (HIV.out.keep HBW.out) (fun x hx => good_zok (check_good HCE.out x hx)) (by have := HSM.out.1; omega) (by have := H20.out; omega)).mono ?_
          rintro e w5 ⟨rfl, hb⟩
          have HQ6 := Lib.hid (blk_keep HQ5.out hb)
          have HBW5 := Lib.hid (HBW.out.trans (hb.mono HBW.out.size))
          have HLAW := Lib.hid (plan_law HCE.out HIX.out HPW.out)
          have HSZ := Lib.hid (plan_P (P := fun x : V => x.s.size ≤ maxLen) (t := t) (conds := conds) (list := list) (Nat.zero_le _) HCS.out)
          clear hb hq hql HIX HPW HBK HBW HQ5
          generalize planB t conds list = p at *
          rcases HLAW.out with h1 | ⟨hway, hkeep⟩
          · subst h1
            simp only [Pl.agg, vZero]
            have HBF := Lib.hid (HBW5.out.alloc HBW5.out.size (.cells #[.int .i64 1, .string ⟨#[]⟩, .int .i64 0, .int .i64 0, .string ⟨#[]⟩, .int .i64 0, .int .i64 0, .string ⟨#[]⟩] 56))
            go_wp2_with fail
            go_ret
            exact ⟨rfl, HBF.out⟩
          obtain ⟨way, nm, ⟨lk, ln, ls⟩, ⟨hk, hn, hs⟩⟩ := p
          simp only at hway
          simp only at HSZ
          simp only [Pl.agg]
          go_upto_region 16 with fail
          have HP6 := Lib.hid (blk_new (w0 := w5) (g := w5.heap.size) (o := .cells #[.int .i64 way, .string nm, .int .i64 lk, .int .i64 ln, .string ls, .int .i64 hk, .int .i64 hn, .string hs] 56) rfl)
          have HQ7 := Lib.hid (blk_alloc HQ6.out (.cells #[.int .i64 way, .string nm, .int .i64 lk, .int .i64 ln, .string ls, .int .i64 hk, .int .i64 hn, .string hs] 56))
          have HB6 := Lib.hid (HBW5.out.alloc HBW5.out.size (.cells #[.int .i64 way, .string nm, .int .i64 lk, .int .i64 ln, .string ls, .int .i64 hk, .int .i64 hn, .string hs] 56))
          clear HBW5 HQ6
          generalize w5.alloc (.cells #[.int .i64 way, .string nm, .int .i64 lk, .int .i64 ln, .string ls, .int .i64 hk, .int .i64 hn, .string hs] 56) = w6 at *
          generalize w5.heap.size = gp at *
          have hp := blk_cell HP6.out
          have hpl := blk_lt HP6.out
          have hq := blk_cell HQ7.out
          have hql := blk_lt HQ7.out
          have HKEEP := Lib.hid hkeep
          have HWAY := Lib.hid hway
          clear hkeep hway
          go_upto_if 66 with fail
          go_cut [10] from 66 to 107 (fun v wc => v = .int .i64 (colP t ⟨way, nm, ⟨lk, ln, ls⟩, ⟨hk, hn, hs⟩⟩ list) ∧ Below w6.heap.size w6 wc)
          case first =>
            by_cases h4 : way = 4
            rotate_left
            · have HCP := Lib.hid (show (1 : Int) = colP t ⟨way, nm, ⟨lk, ln, ls⟩, ⟨hk, hn, hs⟩⟩ list by unfold colP; rw [if_neg h4])
              have h4' : (way == 4) = false := by simpa using h4
              go_wp2_with fail
              go_meet
              case rel => exact ⟨by rw [← HCP.out], Below.refl _ _⟩
            subst h4
            have hl20 := H20.out
            go_wp2_with fail
            go_loopw [10, 11] (fun c i wr => ∃ k : Nat, k ≤ list.length ∧ i = .int .i64 k ∧ c = .int .i64 (colL t nm (list.take k)) ∧ Below w6.heap.size w6 wr) (fun _ i _ => list.length - (intOf i).toNat)
            case atStart => exact ⟨0, Nat.zero_le _, rfl, rfl, Below.refl _ _⟩
            case round =>
              obtain ⟨k, hk', rfl, rfl, hb⟩ := hrel
              have HBK := Lib.hid hb
              have HBW := Lib.hid (HB6.out.trans (hb.mono HB6.out.size))
              have HP7 := Lib.hid (blk_keep HP6.out hb)
              have HQ8 := Lib.hid (blk_keep HQ7.out hb)
              clear hb
              clear hp hpl hq hql
              have hp := blk_cell HP7.out
              have hpl := blk_lt HP7.out
              by_cases hkl : k < list.length
              rotate_left
              · have hke : k = list.length := by omega
                subst hke
                have HCP := Lib.hid (show colP t ⟨4, nm, ⟨lk, ln, ls⟩, ⟨hk, hn, hs⟩⟩ list = if nm = nmS ∨ nm = nmP then 2 else colL t nm (list.take list.length) by rw [List.take_length]; unfold colP; rw [if_pos rfl])
                by_cases hS : nm = nmS
                · have HCP2 := Lib.hid (show (2 : Int) = colP t ⟨4, nm, ⟨lk, ln, ls⟩, ⟨hk, hn, hs⟩⟩ list by rw [HCP.out, if_pos (.inl hS)])
                  have hd1 : nm.toList = [115, 116, 121, 108, 101, 115, 46, 110, 97, 109, 101] := by rw [hS]; exact nmS_list
                  clear hS
                  go_wp2_with fail
                  go_meet
                  case rel => exact ⟨by rw [← HCP2.out], HBK.out⟩
                · have hd1 : (nm.toList == [115, 116, 121, 108, 101, 115, 46, 110, 97, 109, 101]) = false := by rw [← nmS_list]; exact str_ne hS
                  have hd2 := of_beq_false hd1
                  by_cases hP : nm = nmP
                  · have HCP2 := Lib.hid (show (2 : Int) = colP t ⟨4, nm, ⟨lk, ln, ls⟩, ⟨hk, hn, hs⟩⟩ list by rw [HCP.out, if_pos (.inr hP)])
                    have hd3 : (nm.toList == [112, 97, 114, 97, 115, 46, 112, 108, 97, 99, 101]) = true := by rw [hP, nmP_list]; rfl
                    have hd4 : nm.toList = [112, 97, 114, 97, 115, 46, 112, 108, 97, 99, 101] := by rw [hP, nmP_list]
                    clear hS hP
                    go_wp2_with fail
                    go_meet
                    case rel => exact ⟨by rw [← HCP2.out], HBK.out⟩
                  · have HCP2 := Lib.hid (show colL t nm (list.take list.length) = colP t ⟨4, nm, ⟨lk, ln, ls⟩, ⟨hk, hn, hs⟩⟩ list by rw [HCP.out, if_neg (fun h => h.elim hS hP)])
                    have hd3 : (nm.toList == [112, 97, 114, 97, 115, 46, 112, 108, 97, 99, 101]) = false := by rw [← nmP_list]; exact str_ne hP
                    have hd4 := of_beq_false hd3
                    clear hS hP
                    go_wp2_with fail
                    go_meet
                    case rel => exact ⟨by rw [← HCP2.out], HBK.out⟩
              rcases (HIV.out.keep HBW.out).cases with ⟨A, c, he, hnil⟩ | ⟨b, off, c, he, -, hbl, hsl'⟩
              · rw [hnil] at hkl; simp at hkl
              injection he with he1 he2 he3
              subst he1 he3
              obtain ⟨-, hcells⟩ := hsl'.cells hkl
              obtain ⟨e0, e1, e2⟩ := Ix.row hcells
              have HCS2 := Lib.hid (colL_succ (t := t) (nm := nm) hkl)
              clear hcells hsl'
              generalize list[k] = x at *
              obtain ⟨xn, xt, xc⟩ := x
              simp only at e0 e1 e2
              have u0 := up_at e0 hbl
              have u1 := up_at e1 hbl
              have HE2 := Lib.hid e2
              have ut : ∀ (y : Up wr) (o : Nat), y.w.cell? ⟨w.heap.size, o, none⟩ = (#[.int .i64 t, .slice Ac conds.length cc, .slice Al cs.length cl, .int .i64 ord, .bool down, .int .i64 lim] : Array Value)[o]? := fun y o => (y.cell _ _ (blk_lt HQ8.out)).trans (blk_cell HQ8.out o)
              have hqr := blk_lt HQ8.out
              have up : ∀ (y : Up wr) (o : Nat), y.w.cell? ⟨gp, o, none⟩ = (#[.int .i64 4, .string nm, .int .i64 lk, .int .i64 ln, .string ls, .int .i64 hk, .int .i64 hn, .string hs] : Array Value)[o]? := fun y o => (y.cell _ _ (blk_lt HP7.out)).trans (blk_cell HP7.out o)
              have hk0 : (0 : Int) ≤ (k : Int) := by omega
              have hk1 : (k : Int) < (list.length : Int) := by omega
              clear e0 e1 e2 hp
              have hcs : colStep t nm (colL t nm (list.take k)) ⟨xn, xt, xc⟩ = colL t nm (list.take (k + 1)) := HCS2.out.symm
              generalize colL t nm (list.take k) = c0 at *
              have HST := Lib.hid hcs
              clear hcs HCS2
              by_cases hall : xn = nm ∧ xt = t ∧ c0 = 0
              · obtain ⟨h1, h2, h3⟩ := hall
                have HV := Lib.hid (show xc = colL t nm (list.take (k + 1)) by rw [← HST.out]; unfold colStep; rw [if_pos ⟨h1, h2, h3⟩])
                have hd1 : (xn.toList == nm.toList) = true := by rw [h1]; exact str_eq nm
                subst h2 h3
                clear h1
                go_wp2_with fail
                refine wp_region_up (by kernel_rfl) (by kernel_rfl) ?_
                repeat (go_big_quiet_step (fail))
                refine wpQuiet_nil ?_
                rintro w' ⟨⟨w2, hb2⟩, rfl⟩
                have HBK2 := Lib.hid (HBK.out.trans (hb2.mono HBK.out.size))
                have e2 := (hb2.cell (p := ⟨b, off + k * 3 + 2, none⟩) hbl).trans HE2.out
                have hbl2 := Nat.lt_of_lt_of_le hbl hb2.size
                clear hb2 u0 u1 ut up
                go_wp2_with fail
                go_roundw
                case rel => exact ⟨k + 1, by omega, by go_num, by rw [← HV.out], HBK2.out⟩
                case measure => simp [intOf]; omega
              · have HV := Lib.hid (show c0 = colL t nm (list.take (k + 1)) by rw [← HST.out]; unfold colStep; rw [if_neg hall])
                by_cases h1 : xn = nm
                rotate_left
                · have hd1 := str_ne h1
                  clear hall h1
                  go_wp2_with fail
                  refine wp_region_up (by kernel_rfl) (by kernel_rfl) ?_
                  repeat (go_big_quiet_step (fail))
                  refine wpQuiet_nil ?_
                  rintro w' ⟨⟨w2, hb2⟩, rfl⟩
                  have HBK2 := Lib.hid (HBK.out.trans (hb2.mono HBK.out.size))
                  clear hb2 u0 u1 ut up
                  go_wp2_with fail
                  go_roundw
                  case rel => exact ⟨k + 1, by omega, by go_num, by rw [← HV.out], HBK2.out⟩
                  case measure => simp [intOf]; omega
                have hd1 : (xn.toList == nm.toList) = true := by rw [h1]; exact str_eq nm
                by_cases h2 : xt = t
                rotate_left
                · have hd2 : (xt == t) = false := by simpa using h2
                  clear hall h1
                  go_wp2_with fail
                  refine wp_region_up (by kernel_rfl) (by kernel_rfl) ?_
                  repeat (go_big_quiet_step (fail))
                  refine wpQuiet_nil ?_
                  rintro w' ⟨⟨w2, hb2⟩, rfl⟩
                  have HBK2 := Lib.hid (HBK.out.trans (hb2.mono HBK.out.size))
                  clear hb2 u0 u1 ut up
                  go_wp2_with fail
                  go_roundw
                  case rel => exact ⟨k + 1, by omega, by go_num, by rw [← HV.out], HBK2.out⟩
                  case measure => simp [intOf]; omega
                have h3 : ¬ c0 = 0 := fun h => hall ⟨h1, h2, h⟩
                have hd2 : (xt == t) = true := by simpa using h2
                have hd3 : (c0 == 0) = false := by simpa using h3
                clear hall h1 h2
                go_wp2_with fail
                refine wp_region_up (by kernel_rfl) (by kernel_rfl) ?_
                repeat (go_big_quiet_step (fail))
                refine wpQuiet_nil ?_
                rintro w' ⟨⟨w2, hb2⟩, rfl⟩
                have HBK2 := Lib.hid (HBK.out.trans (hb2.mono HBK.out.size))
                clear hb2 u0 u1 ut up
                go_wp2_with fail
                go_roundw
                case rel => exact ⟨k + 1, by omega, by go_num, by rw [← HV.out], HBK2.out⟩
                case measure => simp [intOf]; omega
          case rest =>
          obtain ⟨rfl, hbc⟩ := hcut
          have HB7 := Lib.hid (HB6.out.trans (hbc.mono HB6.out.size))
          have HP7 := Lib.hid (blk_keep HP6.out hbc)
          have HQ8 := Lib.hid (blk_keep HQ7.out hbc)
          clear hbc hp hpl hq hql HP6 HQ7 HB6
          generalize colP t ⟨way, nm, ⟨lk, ln, ls⟩, ⟨hk, hn, hs⟩⟩ list = col at *
          have hcol1 := HKEEP.out.1
          have hcol0 : (col == 0) = false := by simp; omega
          have hp := blk_cell HP7.out
          have hpl := blk_lt HP7.out
          obtain ⟨w7, hw7⟩ : ∃ w7 : World, w7 = wc := ⟨_, rfl⟩
          subst hw7
          have hw1 : (way == 1) = false := by rcases HWAY.out with h | h | h <;> (rw [h]; rfl)
          go_upto_region 28 with fail
          go_cut [142] from 126 to 142 (fun v wc => v = .bool false ∧ w7 = wc)
          case first =>
            rcases HWAY.out with rfl | rfl | rfl
            · go_wp2_with fail
              go_meet
              case rel => exact ⟨rfl, rfl⟩
            · go_wp2_with fail
              go_meet
              case rel => exact ⟨rfl, rfl⟩
            · go_wp2_with fail
              go_meet
              case rel => exact ⟨rfl, rfl⟩
          case rest =>
          obtain ⟨rfl, rfl⟩ := hcut
          clear hp hpl hw1 hcol0
          go_wp2_with fail
          have hr60 := H60.out
          go_loopw [12] (fun i wr => ∃ k : Nat, k ≤ R.length ∧ i = .int .i64 k ∧ Below w7.heap.size w7 wr) (fun i _ => R.length - (intOf i).toNat)
          case atStart => exact ⟨0, Nat.zero_le _, rfl, Below.refl _ _⟩
          case round =>
            obtain ⟨k, hk', rfl, hb⟩ := hrel
            have HBK := Lib.hid hb
            have HBW := Lib.hid (HB7.out.trans (hb.mono HB7.out.size))
            have HP8 := Lib.hid (blk_keep HP7.out hb)
            have HQ9 := Lib.hid (blk_keep HQ8.out hb)
            have hql := blk_lt HQ9.out
            clear hb
            by_cases hkl : k < R.length
            rotate_left
            · go_wp2_with fail
              go_ret
              exact ⟨rfl, HBW.out⟩
            rcases (HRV.out.keep HBW.out).cases with ⟨A, c, he, hnil⟩ | ⟨b, off, c, he, -, hbl, hsl'⟩
            · rw [hnil] at hkl; simp at hkl
            injection he with he1 he2 he3
            subst he1 he3
            obtain ⟨-, hcells⟩ := hsl'.cells hkl
            have e0 : wr.cell? ⟨b, off + k, none⟩ = some R[k].hd := by
              have := hcells 0 _ rfl
              simp only [Nat.mul_one, Nat.add_zero] at this
              exact this
            have hmem := List.getElem_mem hkl
            have HPR := Lib.hid ((HL.out _ hmem).keep HBW.out)
            have HPS := Lib.hid (HS.out _ hmem)
            have HPG := Lib.hid (HEV.out.good _ (List.mem_map.2 ⟨_, hmem, rfl⟩))
            have HPL := Lib.hid (show R[k].row.length ≤ 1000000 by rw [HEV.out.len _ (List.mem_map.2 ⟨_, hmem, rfl⟩)]; exact HEV.out.small)
            have HC1 := Lib.hid (show conds.length ≤ 1073741824 by have := HSM.out.1; omega)
            have hk0 : (0 : Int) ≤ (k : Int) := by omega
            have hk1 : (k : Int) < (R.length : Int) := by omega
            clear hcells hsl' hmem
            generalize R[k] = p at *
            obtain ⟨pa, pc, pr⟩ := p
            simp only [Rr.hd] at e0 HPR
            simp only at HPL HPS HPG
            have u0 := up_at e0 hbl
            have HE0 := Lib.hid e0
            clear e0
            have uq : ∀ (y : Up wr) (o : Nat), y.w.cell? ⟨w.heap.size, o, none⟩ = (#[.int .i64 t, .slice Ac conds.length cc, .slice Al cs.length cl, .int .i64 ord, .bool down, .int .i64 lim] : Array Value)[o]? := fun y o => (y.cell _ _ hql).trans (blk_cell HQ9.out o)
            have HM1 := Lib.hid (fun (y : Up wr) => match_any _ _ pr conds y.w (HPR.out.keep y.h) (HCV.out.keep (HBW.out.trans (y.h.mono HBW.out.size))) HPS.out HCS.out HC1.out (by have := HPL.out; omega))
            generalize hmb : matchB pr conds = mb at *
            have HMB := Lib.hid hmb
            clear hmb
            cases mb with
            | false =>
              go_wp2_with fail
              refine wp_region_up (by kernel_rfl) (by kernel_rfl) ?_
              repeat (go_big_quiet_step (first
                | (go_at_call 35; exact up_call (HM1.out _))))
              refine wpQuiet_nil ?_
              rintro w' ⟨⟨w2, hb2⟩, rfl⟩
              have HBK2 := Lib.hid (HBK.out.trans (hb2.mono HBK.out.size))
              clear hb2 u0 uq hql
              go_wp2_with fail
              go_roundw
              case rel => exact ⟨k + 1, by omega, by go_num, HBK2.out⟩
              case measure => simp [intOf]; omega
            | true =>
              by_cases hcl : (pr.length : Int) < col
              · have hd : decide (col > (pr.length : Int)) = true := decide_eq_true (by omega)
                go_wp2_with fail
                refine wp_region_up (by kernel_rfl) (by kernel_rfl) ?_
                repeat (go_big_quiet_step (first
                  | (go_at_call 35; exact up_call (HM1.out _))))
                refine wpQuiet_nil ?_
                rintro w' ⟨⟨w2, hb2⟩, rfl⟩
                have HBK2 := Lib.hid (HBK.out.trans (hb2.mono HBK.out.size))
                clear hb2 u0 uq hql
                go_wp2_with fail
                go_roundw
                case rel => exact ⟨k + 1, by omega, by go_num, HBK2.out⟩
                case measure => simp [intOf]; omega
              have hd : decide (col > (pr.length : Int)) = false := decide_eq_false (by omega)
              have HKP := Lib.hid (HKEEP.out.2 pr HPG.out HMB.out (by omega))
              simp only at HKP
              obtain ⟨cj, rfl⟩ : ∃ cj : Nat, col = (cj : Int) + 1 := ⟨(col - 1).toNat, by omega⟩
              have hcj : cj < pr.length := by omega
              rw [show ((cj : Int) + 1 - 1).toNat = cj by omega, show pr.getD cj vZero = pr[cj] by simp [hcj]] at HKP
              go_wp2_with fail
              refine wp_region_up (by kernel_rfl) (by kernel_rfl) ?_
              repeat (go_big_quiet_step (first
                | (go_at_call 35; exact up_call (HM1.out _))))
              refine wpQuiet_nil ?_
              rintro w' ⟨⟨w2, hb2⟩, rfl⟩
              have HBK2 := Lib.hid (HBK.out.trans (hb2.mono HBK.out.size))
              have HBW2 := Lib.hid (HBW.out.trans (hb2.mono HBW.out.size))
              have HP9 := Lib.hid (blk_keep HP8.out hb2)
              have e0 := (hb2.cell (p := ⟨b, off + k, none⟩) hbl).trans HE0.out
              have hbl2 := Nat.lt_of_lt_of_le hbl hb2.size
              have HPR2 := Lib.hid (HPR.out.keep hb2)
              clear hb2 u0 uq hql hd HPR HM1 HP8
              rcases HPR2.out.cases with ⟨A, c, he, hnil⟩ | ⟨br, orr, c, he, -, hbr, hsr⟩
              · rw [hnil] at hcj; simp at hcj
              injection he with he1 he2 he3
              subst he1 he3
              obtain ⟨-, er⟩ := hsr.cells hcj
              obtain ⟨er0, er1, er2⟩ := V.row er
              have hxs := HPS.out _ (List.getElem_mem hcj)
              clear er hsr
              generalize pr[cj] = x at *
              obtain ⟨xk, xn, xs⟩ := x
              simp only at er0 er1 er2 hxs HKP
              have hc0 : (0 : Int) ≤ (cj : Int) := by omega
              have hc1 : (cj : Int) < (pr.length : Int) := by omega
              have hprl := HPL.out
              go_upto_region 35 with fail
              have HV8 := Lib.hid (blk_new (w0 := w') (g := w'.heap.size) (o := .cells #[.int .i64 xk, .int .i64 xn, .string xs] 44) rfl)
              have HP10 := Lib.hid (blk_alloc HP9.out (.cells #[.int .i64 xk, .int .i64 xn, .string xs] 44))
              have HBK8 := Lib.hid (HBK2.out.alloc HBK2.out.size (.cells #[.int .i64 xk, .int .i64 xn, .string xs] 44))
              clear er0 er1 er2 e0 HP9 HBK2 HBW2 hbl2 hbr HPR2
              generalize w'.alloc (.cells #[.int .i64 xk, .int .i64 xn, .string xs] 44) = w8 at *
              generalize w'.heap.size = gv at *
              have HS1 := Lib.hid HSZ.out.1
              have HS2 := Lib.hid HSZ.out.2
              go_cut [197] from 174 to 197 (fun v wc => v = .bool false ∧ Below w8.heap.size w8 wc)
              case first =>
                have hp := blk_cell HP10.out
                have hpl := blk_lt HP10.out
                have hv := blk_cell HV8.out
                have hvl := blk_lt HV8.out
                by_cases hl0 : lk = 0
                · have hd1 : (lk != 0) = false := by simpa using hl0
                  by_cases hh0 : hk = 0
                  · have hd2 : (hk != 0) = false := by simpa using hh0
                    clear hl0 hh0
                    go_wp2_with fail
                    go_meet
                    case rel => exact ⟨rfl, Below.refl _ _⟩
                  · have hd2 : (hk != 0) = true := by simpa using hh0
                    have hc : cmpV xk xn xs hk hn hs ≤ 0 := HKP.out.2.1 hh0
                    have hd3 : decide (cmpV xk xn xs hk hn hs > 0) = false := decide_eq_false (by omega)
                    have HC := Lib.hid hc
                    clear hl0 hh0 hc
                    go_wp2_with fail
                    refine (compare_any xk xn xs hk hn hs _ hxs HS2.out).mono ?_
                    rintro e w9 ⟨rfl, hb9⟩
                    have HB9 := Lib.hid hb9
                    clear hb9 hp hpl hv hvl
                    have hc := HC.out
                    go_wp2_with fail
                    go_meet
                    case rel => exact ⟨rfl, HB9.out⟩
                · have hd1 : (lk != 0) = true := by simpa using hl0
                  have hc : 0 ≤ cmpV xk xn xs lk ln ls := HKP.out.1 hl0
                  have hd3 : decide (cmpV xk xn xs lk ln ls < 0) = false := decide_eq_false (by omega)
                  have HC := Lib.hid hc
                  clear hl0 hc
                  by_cases hh0 : hk = 0
                  · have hd2 : (hk != 0) = false := by simpa using hh0
                    clear hh0
                    go_wp2_with fail
                    refine (compare_any xk xn xs lk ln ls _ hxs HS1.out).mono ?_
                    rintro e w9 ⟨rfl, hb9⟩
                    have HB9 := Lib.hid hb9
                    have hp9 := blk_cell (blk_keep HP10.out hb9)
                    have hpl9 := blk_lt (blk_keep HP10.out hb9)
                    clear hb9 hp hpl hv hvl
                    have hc := HC.out
                    go_wp2_with fail
                    go_meet
                    case rel => exact ⟨rfl, HB9.out⟩
                  · have hd2 : (hk != 0) = true := by simpa using hh0
                    have hc2 : cmpV xk xn xs hk hn hs ≤ 0 := HKP.out.2.1 hh0
                    have hd4 : decide (cmpV xk xn xs hk hn hs > 0) = false := decide_eq_false (by omega)
                    have HC2 := Lib.hid hc2
                    clear hh0 hc2
                    go_wp2_with fail
                    refine (compare_any xk xn xs lk ln ls _ hxs HS1.out).mono ?_
                    rintro e w9 ⟨rfl, hb9⟩
                    have HB9 := Lib.hid hb9
                    have hp9 := blk_cell (blk_keep HP10.out hb9)
                    have hpl9 := blk_lt (blk_keep HP10.out hb9)
                    have hv9 := blk_cell (blk_keep HV8.out hb9)
                    have hvl9 := blk_lt (blk_keep HV8.out hb9)
                    clear hb9 hp hpl hv hvl
                    have hc := HC.out
                    go_wp2_with fail
                    refine (compare_any xk xn xs hk hn hs _ hxs HS2.out).mono ?_
                    rintro e w10 ⟨rfl, hb10⟩
                    have HB10 := Lib.hid (HB9.out.trans (hb10.mono HB9.out.size))
                    clear hb10 hp9 hpl9 hv9 hvl9
                    have hc2 := HC2.out
                    go_wp2_with fail
                    go_meet
                    case rel => exact ⟨rfl, HB10.out⟩
              case rest =>
              obtain ⟨rfl, hbc⟩ := hcut
              have HBF := Lib.hid (HBK8.out.trans (hbc.mono HBK8.out.size))
              have HV9 := Lib.hid (blk_keep HV8.out hbc)
              have HP11 := Lib.hid (blk_keep HP10.out hbc)
              clear hbc
              have hp := blk_cell HP11.out
              have hpl := blk_lt HP11.out
              have hv := blk_cell HV9.out
              have hvl := blk_lt HV9.out
              by_cases h2 : way = 2
              · have hxl := HKP.out.2.2 h2
                injection hxl with x1 x2 x3
                have hd2 : (way == 2) = true := by simpa using h2
                subst x1 x2 x3
                clear h2
                go_wp2_with fail
                go_roundw
                case rel => exact ⟨k + 1, by omega, by go_num, HBF.out⟩
                case measure => simp [intOf]; omega
              · have hd2 : (way == 2) = false := by simpa using h2
                clear h2
                go_wp2_with fail
                go_roundw
                case rel => exact ⟨k + 1, by omega, by go_num, HBF.out⟩
                case measure => simp [intOf]; omega
end Go.Proofs.Ytlhmencjhhpacaa
