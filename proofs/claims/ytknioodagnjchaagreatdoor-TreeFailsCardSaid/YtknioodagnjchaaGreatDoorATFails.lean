/- The walk of cahierlaw16.TreeFails. -/
import Derived.Test.YtknioodagnjchaaGreatDoorATGone
namespace Go.Proofs.YtknioodagnjchaaGreatDoor
open Go.RowKit

theorem GetP.ret {e : Ending} {a : Ans (Option By)} (h : GetP e a) : ∃ v, e = .returned v := by
  rcases a with (_ | v) | x
  · exact ⟨_, h⟩
  · exact ⟨_, h⟩
  · exact ⟨_, h⟩
theorem AldP.ret {e : Ending} {a : Ans Bool} (h : AldP e a) : ∃ v, e = .returned v := by
  cases a <;> exact ⟨_, h⟩
theorem LstP.ret {b : Nat} {w : World} {e : Ending} {a : Ans (List Int)} (h : LstP b w e a) : ∃ v, e = .returned v := by
  cases a
  · obtain ⟨v, h, _⟩ := h; exact ⟨_, h⟩
  · exact ⟨_, h.1⟩
/-- an armed shelf's put: what the shelf gives else, or an error of the pages -/
theorem armed_put {s s' : Sf} {q : Int} {k v : By} (hl : s.left = -1) (hr : (putTr q k v).run s = (s', .ok ())) (m : Int) (hm : 0 ≤ m) : errV ((putTr q k v).run { s with left := m }).2 = .int .i64 0 ∨ errV ((putTr q k v).run { s with left := m }).2 = .int .i64 11 := by
  rcases armed_run (putTr q k v) { s with left := m } hm with h | ⟨b, _, h⟩
  · rw [h]; exact .inr rfl
  · have e : ({ { s with left := m } with left := -1 } : Sf) = s := by rw [← hl]
    rw [e, hr] at h
    rw [h]
    exact .inl rfl
theorem i64_and1023 (n : Int) : bits .and .i64 n 1023 = n % 1024 := by
  have h1023 : (BitVec.ofInt 64 1023).toNat = 2 ^ 10 - 1 := by decide
  have key : (BitVec.ofInt 64 n &&& BitVec.ofInt 64 1023).toNat = (n % ((2 ^ 64 : Nat) : Int)).toNat % 2 ^ 10 := by
    rw [BitVec.toNat_and, BitVec.toNat_ofInt, h1023, Nat.and_two_pow_sub_one_eq_mod]
  show IntKind.i64.wrap ((BitVec.ofInt 64 n &&& BitVec.ofInt 64 1023).toNat : Nat) = n % 1024
  rw [key, IntKind.wrap_i64]
  omega
structure FaI (w : World) (gs gm : Nat) (root : Int) (N : Nat) (wr : World) : Prop where
  h : ∃ s ps, ShIs wr gs gm s ∧ TS s root ps [] ∧ wt ps ≤ N
  b : Below w.heap.size w wr
theorem Sl.str1 {w : World} {A : Option Addr} {n c k : Nat} {xs : List By} (h : Sl sC 1 w (.slice A n c) xs) (hk : k < xs.length) : ∃ b off, A = some ⟨b, off, none⟩ ∧ b < w.heap.size ∧ w.cell? ⟨b, off + k, none⟩ = some (.string (mkS xs[k])) := by
  rcases h.cases with ⟨_, _, _, h0⟩ | ⟨b, off, c', he, -, hbl, hsl⟩
  · rw [h0] at hk; simp at hk
  · injection he with e1 e2 e3
    have := (hsl.cells hk).2 0 _ rfl
    simp only [Nat.mul_one, Nat.add_zero] at this
    exact ⟨b, off, e1, hbl, this⟩
set_option maxRecDepth 100000 in
set_option maxHeartbeats 4000000 in
theorem fails_any (order : List Int) (ov : Value) (at_ : Int) (pages : List By) (pv : Value) (w : World) (ho : Sl iC 1 w ov order) (hp : Sl sC 1 w pv pages) :
    Calls Tryz.prog 7 #[ov, .int .i64 at_, pv] w fun e w' => e = .returned (.bool true) ∧ Below w.heap.size w w' := by
  obtain ⟨Ao, co, rfl⟩ := Sl.len' ho
  obtain ⟨Ap, cp, rfl⟩ := Sl.len' hp
  have HO := Lib.hid ho
  have HPP := Lib.hid hp
  clear ho hp
  go_enter Tryz.func7, Tryz.ntmps7
  go_wp2_with fail
  refine (awake16_any w).mono ?_
  rintro e w0 ⟨rfl, hb⟩
  have HB0 := Lib.hid hb
  clear hb
  go_wp2_with fail
  refine (sNewShelf_any 4096 w0).mono ?_
  rintro e w1 ⟨gs, gm, rfl, hs, h1, h2, hb⟩
  have HS1 := Lib.hid (show ShIs w1 gs gm (newS 4096) from hs)
  have HB1 := Lib.hid (HB0.out.trans (hb.mono HB0.out.size))
  have HGS := Lib.hid (show w.heap.size ≤ gs ∧ w.heap.size ≤ gm from ⟨Nat.le_trans HB0.out.size h1, Nat.le_trans HB0.out.size h2⟩)
  clear hs h1 h2 hb
  obtain ⟨s2, root, hmk, -, hts, -⟩ := TS.make hp_new (by decide)
  go_wp2_with fail
  refine (make_ok hmk HS1.out).mono ?_
  rintro e w2 ⟨rfl, hs, hc⟩
  have HB2 := Lib.hid (HB1.out.trans (hc.below HB1.out.size (fun k hk => hk.elim (fun e => e ▸ HGS.out.1) (fun e => e ▸ HGS.out.2))))
  have HI := Lib.hid (show FaI w gs gm root 0 w2 from ⟨⟨s2, [], hs, hts, Nat.le_refl _⟩, HB2.out⟩)
  clear hs hc hts hmk
  go_wp2_with fail
  go_loopw [10] (fun iv wr => ∃ i : Nat, i ≤ order.length ∧ i ≤ 100 ∧ iv = .int .i64 i ∧ FaI w gs gm root (2 * i) wr) (fun iv _ => 100 - (intOf iv).toNat)
  case atStart => exact ⟨0, Nat.zero_le _, Nat.zero_le _, rfl, HI.out⟩
  case round =>
    obtain ⟨i, hi, hi3, rfl, ⟨s, ps, hs, hts, hwt⟩, hb⟩ := hrel
    clear HI
    have HS3 := Lib.hid hs
    have HTS3 := Lib.hid hts
    have HWT3 := Lib.hid hwt
    have HB3 := Lib.hid hb
    clear hs hts hwt hb
    go_upto_region 8 with fail
    go_cut [31] from 24 to 46 (fun c wx => c = .bool (decide (i < order.length ∧ i < 100)) ∧ wx = wr)
    case first =>
      by_cases ha : i < order.length
      · have ha1 : (i : Int) < (order.length : Int) := by omega
        by_cases hb : i < 100
        · have hb1 : (i : Int) < 100 := by omega
          go_wp2_with fail
          go_meet
          case rel => exact ⟨by rw [decide_eq_true (show i < order.length ∧ i < 100 from ⟨ha, hb⟩)] <;> (first | rfl | rw [decide_eq_true hb1]), rfl⟩
        · have hb1 : (100 : Int) ≤ (i : Int) := by omega
          go_wp2_with fail
          go_meet
          case rel => exact ⟨by rw [decide_eq_false (show ¬ (i < order.length ∧ i < 100) from fun h => hb h.2)] <;> (first | rfl | rw [decide_eq_false (show ¬ (i : Int) < 100 by omega)]), rfl⟩
      · have ha1 : (order.length : Int) ≤ (i : Int) := by omega
        go_wp2_with fail
        go_meet
        case rel => exact ⟨by rw [decide_eq_false (show ¬ (i < order.length ∧ i < 100) from fun h => ha h.1)], rfl⟩
    case rest =>
     obtain ⟨rfl, rfl⟩ := hcut
     by_cases hlt : i < order.length ∧ i < 100
     · have hdl := decide_eq_true hlt
       obtain ⟨hlt, hlt3⟩ := hlt
       obtain ⟨b0, off, rfl, hbl, e0⟩ := (HO.out.keep HB3.out).int1 hlt
       have hk0 : (0 : Int) ≤ (i : Int) := by omega
       have hk1 : (i : Int) < (order.length : Int) := by omega
       have hk2 : (i : Int) < 100 := by omega
       obtain ⟨k, hkk, hk4⟩ := mod_nat order[i] 100 (by omega) (by omega)
       generalize order[i] = xa at *
       go_wp2_with fail
       rw [hkk]
       refine (numbered_any k 20 _ (by omega) (by omega) (by omega)).mono ?_
       rintro e w4 ⟨rfl, hb⟩
       have HS4 := Lib.hid (HS3.out.ch (S := fun _ => False) (Ch.of_below hb) id id)
       have HB4 := Lib.hid (HB3.out.trans (hb.mono HB3.out.size))
       clear hb e0 hbl hkk
       obtain ⟨s', r1, r2, -⟩ := HTS3.out.put (by have := HWT3.out; simp; omega) (k := numB k 20) (v := [118]) (by rw [numB_len (by omega)]; omega) (by decide)
       have HTS6 := Lib.hid r2
       have HWT6 := Lib.hid (show wt (putP ps (numB k 20) [118]) ≤ 2 * (i + 1) by
         have := wt_put ps (numB k 20) [118]
         have h5 : chn [118] = 0 := by decide
         have := HWT3.out
         omega)
       go_wp2_with fail
       refine (put_ok (k := numB k 20) (v := [118]) r1 HS4.out).mono ?_
       rintro e w6 ⟨rfl, hs, hc⟩
       have HS6 := Lib.hid hs
       have HB6 := Lib.hid (HB4.out.trans (hc.below HB4.out.size (fun k hk => hk.elim (fun e => e ▸ HGS.out.1) (fun e => e ▸ HGS.out.2))))
       clear hs hc
       clear r1 r2
       go_wp2_with fail
       go_roundw
       case rel => exact ⟨i + 1, by omega, by omega, by go_num, ⟨s', _, HS6.out, HTS6.out, HWT6.out⟩, HB6.out⟩
       case measure => simp [intOf]; omega
     · have hdl := decide_eq_false hlt
       rw [hdl]
       have HW4 := Lib.hid (show wt ps ≤ 200 by have := HWT3.out; omega)
       clear HWT3 hi hi3
       obtain ⟨m, hmm, hm4⟩ := mod_nat at_ 12 (by omega) (by omega)
       go_wp2_with fail
       refine (sArm_any _ gs gm s _ HS3.out (by omega)).mono ?_
       rintro e w4 ⟨rfl, hs, hc⟩
       have HS4 := Lib.hid (show ShIs w4 gs gm { s with left := (m : Int) } by rw [show max (1 + (m : Int)) 0 - 1 = (m : Int) by omega] at hs; exact hs)
       have HB4 := Lib.hid (HB3.out.trans (hc.below HB3.out.size (fun k hk => hk ▸ HGS.out.1)))
       clear hs hc hmm hlt hdl
       obtain ⟨zz, hzz⟩ : ∃ zz : By, zz = List.replicate 500 (0 : UInt8) := ⟨_, rfl⟩
       have HZL := Lib.hid (show zz.length = 500 by rw [hzz, List.length_replicate])
       have hmk : ∀ W, (Instr.makeSlice 46 (.int .i64 500) (.int .i64 500)).run Tryz.prog W = .ok (.slice (some ⟨W.heap.size, 0, none⟩) 500 500) (W.alloc (.cells (zz.flatMap uC).toArray 5)) := by rw [hzz]; exact fun W => mk_bytes W 500 (by omega)
       clear hzz
       obtain ⟨kb, hkb, hkb4⟩ : ∃ kb : Nat, bits .and .i64 at_ 1023 = (kb : Int) ∧ kb < 1024 := by
         rw [i64_and1023]
         exact ⟨(at_ % 1024).toNat, by omega, by omega⟩
       have hcB : (convert 46 9 (.slice (some ⟨w4.heap.size, 0, none⟩) 500 500)).run Tryz.prog (w4.alloc (.cells (zz.flatMap uC).toArray 5)).drew = .ok (.string (mkS zz)) (w4.alloc (.cells (zz.flatMap uC).toArray 5)).drew :=
        conv_back _ _ 500 500 zz HZL.out (blk_bytes (fz := (0, 0)) (blk_new rfl))
       have HSF := Lib.hid (fun (W : World) (h : Below w4.heap.size w4 W) => HS4.out.ch (S := fun _ => False) (Ch.of_below h) id id)
       have HPE := Lib.hid (armed_put HTS3.out.left (HTS3.out.put (by have := HW4.out; simp; omega) (k := numB kb 20) (v := zz) (by rw [numB_len (by omega)]; omega) (by rw [HZL.out]; omega)).choose_spec.1 (m : Int) (by omega))
       go_upto_region 13 with fail
       go_cut [9] from 54 to 62 (fun ev wx => (ev = .int .i64 0 ∨ ev = .int .i64 11) ∧ Below w.heap.size w wx ∧ ∃ sx, ShIs wx gs gm sx)
       case first =>
         go_region_law (first
          | (go_simp
             go_at_call 26
             refine (numbered_any kb 20 _ (by omega) (by omega) (by omega)).mono ?_
             rintro e w5 ⟨rfl, hb⟩
             try have hcC : (convert 46 9 (.slice (some ⟨w4.heap.size, 0, none⟩) 500 500)).run Tryz.prog w5 = .ok (.string (mkS zz)) w5 := conv_back _ _ 500 500 zz HZL.out (blk_bytes (fz := (0, 0)) (blk_keep (show (w4.alloc (.cells (zz.flatMap uC).toArray 5)).drew.heap[w4.heap.size]? = some (.cells (zz.flatMap uC).toArray 5 (0, 0)) from blk_new (w0 := w4) rfl) hb))
             have hcA : (convert 46 9 (.slice (some ⟨w5.heap.size, 0, none⟩) 500 500)).run Tryz.prog (w5.alloc (.cells (zz.flatMap uC).toArray 5)) = .ok (.string (mkS zz)) (w5.alloc (.cells (zz.flatMap uC).toArray 5)) :=
               conv_back _ _ 500 500 zz HZL.out (blk_bytes (fz := (0, 0)) (blk_new rfl))
             have HBN := Lib.hid hb
             clear hb)
          | (go_simp
             go_at_call 25
             refine (put_any root (numB kb 20) zz gs gm _ _ (HSF.out _ ?below)).mono ?_
             case below => first
               | exact ((Below.refl _ w4).drew.trans HBN.out).alloc (Nat.le_trans (Nat.le_refl _) HBN.out.size) _
               | exact ((Below.refl _ w4).alloc (Nat.le_refl _) _).drew.trans (HBN.out.mono (by simp))
             rintro e w6 ⟨rfl, hs, hc⟩
             have HS6 := Lib.hid hs
             have HB6 := Lib.hid (show Below w.heap.size w w6 by first
               | exact (HB4.out.trans ((((Below.refl _ w4).drew.trans HBN.out).alloc (Nat.le_trans (Nat.le_refl _) HBN.out.size) _).mono HB4.out.size)).trans (hc.below (Nat.le_trans HB4.out.size (Nat.le_trans HBN.out.size (by simp))) (fun k hk => hk.elim (fun e => e ▸ HGS.out.1) (fun e => e ▸ HGS.out.2)))
               | exact (HB4.out.trans ((((Below.refl _ w4).alloc (Nat.le_refl _) _).drew.trans (HBN.out.mono (by simp))).mono HB4.out.size)).trans (hc.below (Nat.le_trans HB4.out.size (Nat.le_trans (by simp) HBN.out.size)) (fun k hk => hk.elim (fun e => e ▸ HGS.out.1) (fun e => e ▸ HGS.out.2))))
             clear hs hc))
         all_goals
          go_wp2_with fail
          go_meet
          case rel => exact ⟨HPE.out, HB6.out, _, HS6.out⟩
       case rest =>
       obtain ⟨hev, hbx, sx, hsx⟩ := hcut
       have HB6 := Lib.hid hbx
       have HS6 := Lib.hid hsx
       clear hbx hsx hcB hmk hkb HPE HSF
       go_upto_region 14 with fail
       go_cut [68] from 63 to 68 (fun c wx => c = .bool false ∧ wx = wc)
       case first =>
         rcases hev with rfl | rfl
         all_goals
          go_wp2_with fail
          go_meet
          case rel => exact ⟨rfl, rfl⟩
       case rest =>
       obtain ⟨rfl, rfl⟩ := hcut
       go_wp2_with fail
       refine (sArm_any 1 gs gm sx _ HS6.out (by omega)).mono ?_
       rintro e w7 ⟨rfl, hs, hc⟩
       obtain ⟨sd, hsd⟩ : ∃ sd : Sf, sd = { sx with left := max 1 0 - 1 } := ⟨_, rfl⟩
       rw [← hsd] at hs
       have hdn : sd.left = 0 := by rw [hsd]; rfl
       have HS7 := Lib.hid hs
       have HB7 := Lib.hid (HB6.out.trans (hc.below HB6.out.size (fun k hk => hk ▸ HGS.out.1)))
       have HDN := Lib.hid hdn
       clear hs hc hsd hdn hev
       go_wp2_with fail
       refine (get_err (k := [120]) (get_down HDN.out root [120]) HS7.out).mono ?_
       rintro e w8 ⟨rfl, hs, hc⟩
       have HS8 := Lib.hid hs
       have HB8 := Lib.hid (HB7.out.trans (hc.below HB7.out.size (fun k hk => hk.elim (fun e => e ▸ HGS.out.1) (fun e => e ▸ HGS.out.2))))
       clear hs hc
       go_wp2_with fail
       refine (del_err (k := [120]) (del_down HDN.out root [120]) HS8.out).mono ?_
       rintro e w9 ⟨rfl, hs, hc⟩
       have HS9 := Lib.hid hs
       have HB9 := Lib.hid (HB8.out.trans (hc.below HB8.out.size (fun k hk => hk.elim (fun e => e ▸ HGS.out.1) (fun e => e ▸ HGS.out.2))))
       clear hs hc
       go_wp2_with fail
       refine (list_err (list_down HDN.out root) HS9.out).mono ?_
       rintro e w10 ⟨rfl, hs, hc⟩
       have HS10 := Lib.hid hs
       have HB10 := Lib.hid (HB9.out.trans (hc.below HB9.out.size (fun k hk => hk.elim (fun e => e ▸ HGS.out.1) (fun e => e ▸ HGS.out.2))))
       clear hs hc
       go_wp2_with fail
       refine (drop_err (drop_down HDN.out root) HS10.out).mono ?_
       rintro e w11 ⟨rfl, hs, hc⟩
       have HS11 := Lib.hid hs
       have HB11 := Lib.hid (HB10.out.trans (hc.below HB10.out.size (fun k hk => hk.elim (fun e => e ▸ HGS.out.1) (fun e => e ▸ HGS.out.2))))
       clear hs hc
       go_wp2_with fail
       refine (sNewShelf_any 40 w11).mono ?_
       rintro e w12 ⟨g2, m2, rfl, hs, h1, h2, hb⟩
       have HG2 := Lib.hid (show w.heap.size ≤ g2 ∧ w.heap.size ≤ m2 from ⟨Nat.le_trans HB11.out.size h1, Nat.le_trans HB11.out.size h2⟩)
       have HI2 := Lib.hid (show (∃ s, ShIs w12 g2 m2 s) ∧ Below w.heap.size w w12 from ⟨⟨_, hs⟩, HB11.out.trans (hb.mono HB11.out.size)⟩)
       clear hs h1 h2 hb
       go_wp2_with fail
       go_loopw [12] (fun iv wr => ∃ i : Nat, i ≤ pages.length ∧ i ≤ 12 ∧ iv = .int .i64 i ∧ (∃ s, ShIs wr g2 m2 s) ∧ Below w.heap.size w wr) (fun iv _ => 12 - (intOf iv).toNat)
       case atStart => exact ⟨0, Nat.zero_le _, Nat.zero_le _, rfl, HI2.out⟩
       case round =>
        obtain ⟨i, hi, hi3, rfl, ⟨s1, hs⟩, hb⟩ := hrel
        clear HI2
        have HS3 := Lib.hid hs
        have HB3 := Lib.hid hb
        clear hs hb
        go_upto_region 30 with fail
        go_cut [112] from 105 to 125 (fun c wx => c = .bool (decide (i < pages.length ∧ i < 12)) ∧ wx = wr)
        case first =>
          by_cases ha : i < pages.length
          · have ha1 : (i : Int) < (pages.length : Int) := by omega
            by_cases hb : i < 12
            · have hb1 : (i : Int) < 12 := by omega
              go_wp2_with fail
              go_meet
              case rel => exact ⟨by rw [decide_eq_true (show i < pages.length ∧ i < 12 from ⟨ha, hb⟩)] <;> (first | rfl | rw [decide_eq_true hb1]), rfl⟩
            · have hb1 : (12 : Int) ≤ (i : Int) := by omega
              go_wp2_with fail
              go_meet
              case rel => exact ⟨by rw [decide_eq_false (show ¬ (i < pages.length ∧ i < 12) from fun h => hb h.2)] <;> (first | rfl | rw [decide_eq_false (show ¬ (i : Int) < 12 by omega)]), rfl⟩
          · have ha1 : (pages.length : Int) ≤ (i : Int) := by omega
            go_wp2_with fail
            go_meet
            case rel => exact ⟨by rw [decide_eq_false (show ¬ (i < pages.length ∧ i < 12) from fun h => ha h.1)], rfl⟩
        case rest =>
         obtain ⟨rfl, rfl⟩ := hcut
         by_cases hlt : i < pages.length ∧ i < 12
         · have hdl := decide_eq_true hlt
           obtain ⟨hlt, hlt3⟩ := hlt
           obtain ⟨b0, off, rfl, hbl, -⟩ := (HPP.out.keep HB3.out).str1 hlt
           have hk0 : (0 : Int) ≤ (i : Int) := by omega
           have hk1 : (i : Int) < (pages.length : Int) := by omega
           have hk2 : (i : Int) < 12 := by omega
           go_wp2_with fail
           refine (sNew_any g2 m2 s1 _ HS3.out).mono ?_
           rintro e w4 ⟨rfl, hs, hc⟩
           have HS4 := Lib.hid hs
           have HB4 := Lib.hid (HB3.out.trans (hc.below HB3.out.size (fun k hk => hk.elim (fun e => e ▸ HG2.out.1) (fun e => e ▸ HG2.out.2))))
           clear hs hc
           obtain ⟨b1, off1, he, hbl1, e0⟩ := (HPP.out.keep HB4.out).str1 hlt
           injection he with he
           injection he with h1 h2
           subst h1 h2
           generalize pages[i] = pg at *
           go_wp2_with fail
           refine (full_any _ _).mono ?_
           rintro e w5 ⟨rfl, hb⟩
           have HS5 := Lib.hid (HS4.out.ch (S := fun _ => False) (Ch.of_below hb) id id)
           have HB5 := Lib.hid (HB4.out.trans (hb.mono HB4.out.size))
           clear hb e0 hbl hbl1
           go_wp2_with fail
           refine (sPut_any _ _ g2 m2 _ _ HS5.out).mono ?_
           rintro e w6 ⟨rfl, hs, hc⟩
           have HS6 := Lib.hid hs
           have HB6 := Lib.hid (HB5.out.trans (hc.below HB5.out.size (fun k hk => hk.elim (fun e => e ▸ HG2.out.1) (fun e => e ▸ HG2.out.2))))
           clear hs hc
           go_wp2_with fail
           go_roundw
           case rel => exact ⟨i + 1, by omega, by omega, by go_num, ⟨_, HS6.out⟩, HB6.out⟩
           case measure => simp [intOf]; omega
         · have hdl := decide_eq_false hlt
           rw [hdl]
           go_wp2_with fail
           refine (get_any 1 [97] g2 m2 _ _ HS3.out).mono ?_
           rintro e w4 ⟨hp, hs, hc⟩
           obtain ⟨v4, rfl⟩ := hp.ret
           have HS4 := Lib.hid hs
           have HB4 := Lib.hid (HB3.out.trans (hc.below HB3.out.size (fun k hk => hk.elim (fun e => e ▸ HG2.out.1) (fun e => e ▸ HG2.out.2))))
           clear hs hc hp
           go_wp2_with fail
           refine (del_any 1 [97] g2 m2 _ _ HS4.out).mono ?_
           rintro e w5 ⟨hp, hs, hc⟩
           obtain ⟨v5, rfl⟩ := hp.ret
           have HS5 := Lib.hid hs
           have HB5 := Lib.hid (HB4.out.trans (hc.below HB4.out.size (fun k hk => hk.elim (fun e => e ▸ HG2.out.1) (fun e => e ▸ HG2.out.2))))
           clear hs hc hp
           go_wp2_with fail
           refine (put_any 1 [98] [98] g2 m2 _ _ HS5.out).mono ?_
           rintro e w6 ⟨rfl, hs, hc⟩
           have HS6 := Lib.hid hs
           have HB6 := Lib.hid (HB5.out.trans (hc.below HB5.out.size (fun k hk => hk.elim (fun e => e ▸ HG2.out.1) (fun e => e ▸ HG2.out.2))))
           clear hs hc
           go_wp2_with fail
           refine (list_any 1 g2 m2 _ _ HS6.out).mono ?_
           rintro e w7 ⟨hp, hs, hc⟩
           obtain ⟨v7, rfl⟩ := hp.ret
           have HS7 := Lib.hid hs
           have HB7 := Lib.hid (HB6.out.trans (hc.below HB6.out.size (fun k hk => hk.elim (fun e => e ▸ HG2.out.1) (fun e => e ▸ HG2.out.2))))
           clear hs hc hp
           go_wp2_with fail
           refine (drop_any 1 g2 m2 _ _ HS7.out).mono ?_
           rintro e w8 ⟨rfl, hs, hc⟩
           have HS8 := Lib.hid hs
           have HB8 := Lib.hid (HB7.out.trans (hc.below HB7.out.size (fun k hk => hk.elim (fun e => e ▸ HG2.out.1) (fun e => e ▸ HG2.out.2))))
           clear hs hc
           obtain ⟨zy, hzy⟩ : ∃ zy : By, zy = List.replicate 65 (0 : UInt8) := ⟨_, rfl⟩
           have HYL := Lib.hid (show zy.length = 65 by rw [hzy, List.length_replicate])
           have hmk : (Instr.makeSlice 46 (.int .i64 65) (.int .i64 65)).run Tryz.prog w8 = .ok (.slice (some ⟨w8.heap.size, 0, none⟩) 65 65) (w8.alloc (.cells (zy.flatMap uC).toArray 5)) := by rw [hzy]; exact mk_bytes w8 65 (by omega)
           clear hzy
           have HM0 := Lib.hid (blk_new (w0 := w8) (g := w8.heap.size) (o := .cells (zy.flatMap uC).toArray 5) rfl)
           have HW0 := Lib.hid (Below.alloc (Below.refl _ w8) (Nat.le_refl _) (.cells (zy.flatMap uC).toArray 5))
           generalize w8.alloc (.cells (zy.flatMap uC).toArray 5) = w9 at *
           have hcv : (convert 46 9 (.slice (some ⟨w8.heap.size, 0, none⟩) 65 65)).run Tryz.prog w9 = .ok (.string (mkS zy)) w9 := conv_back w9 w8.heap.size 65 65 zy HYL.out (blk_bytes HM0.out)
           have HS9 := Lib.hid (HS8.out.ch (S := fun _ => False) (Ch.of_below HW0.out) id id)
           have HB9 := Lib.hid (HB8.out.trans (HW0.out.mono HB8.out.size))
           generalize ((dropT 1).run _).1 = s9 at *
           go_wp2_with fail
           refine (put_err (k := zy) (v := []) (x := 1) (s := s9) (s' := s9) (by unfold putTr; rw [if_pos (by rw [HYL.out]; omega)]; rfl) HS9.out).mono ?_
           rintro e w10 ⟨rfl, hs, hc⟩
           have HB10 := Lib.hid (HB9.out.trans (hc.below HB9.out.size (fun k hk => hk.elim (fun e => e ▸ HG2.out.1) (fun e => e ▸ HG2.out.2))))
           clear hs hc
           go_wp2_with fail
           go_ret
           exact ⟨rfl, HB10.out⟩
end Go.Proofs.YtknioodagnjchaaGreatDoor
