/- The walk of cahierlaw16.TreeApart. -/
import Derived.Test.YtknioodagnjchaaGreatDoorATOrd
namespace Go.Proofs.YtknioodagnjchaaGreatDoor
open Go.RowKit

structure ApI (w : World) (gs gm gt : Nat) (x y : Int) (N : Nat) (wr : World) : Prop where
  h : ∃ s ps qs th, ShIs wr gs gm s ∧ TS2 s x ps y qs ∧ wt ps ≤ 2 * N ∧ wt qs ≤ 4 * N ∧ HasTh ps th (fun k => numB k 9) (fun _ => [120]) ∧ th.length = 200 ∧ Bools wr gt th
  b : Below w.heap.size w wr
theorem mod3 (i : Nat) : (i : Int).tmod 3 = ((i % 3 : Nat) : Int) := by
  rw [Int.tmod_eq_emod_of_nonneg (by omega)]; omega
set_option maxRecDepth 100000 in
set_option maxHeartbeats 4000000 in
theorem apart_any (a b : List Int) (av bv : Value) (w : World) (ha : Sl iC 1 w av a) (hb : Sl iC 1 w bv b) :
    Calls Tryz.prog 6 #[av, bv] w fun e w' => e = .returned (.bool true) ∧ Below w.heap.size w w' := by
  obtain ⟨Aa, ca, rfl⟩ := Sl.len' ha
  obtain ⟨Ab, cb, rfl⟩ := Sl.len' hb
  have HA := Lib.hid ha
  have HBB := Lib.hid hb
  clear ha hb
  go_enter Tryz.func6, Tryz.ntmps6
  go_wp2_with fail
  refine (awake16_any w).mono ?_
  rintro e w0 ⟨rfl, hb⟩
  have HB0 := Lib.hid hb
  clear hb
  go_wp2_with fail
  refine (sNewShelf_any 4096 w0).mono ?_
  rintro e w1 ⟨gs, gm, rfl, hs, h1, h2, hb⟩
  have HS1 := Lib.hid (show ShIs w1 gs gm (newS 4096) from hs)
  have HB1 := Lib.hid (HB0.out.trans (hb.mono HB0.out.size))
  have HGS := Lib.hid (show w.heap.size ≤ gs ∧ w.heap.size ≤ gm from ⟨Nat.le_trans HB0.out.size h1, Nat.le_trans HB0.out.size h2⟩)
  clear hs h1 h2 hb
  obtain ⟨s2, x, hmk, -, hts, -⟩ := TS.make hp_new (by decide)
  obtain ⟨s3, y, hmk2, hxy, hts2⟩ := hts.make2 (by decide)
  go_wp2_with fail
  refine (make_ok hmk HS1.out).mono ?_
  rintro e w2 ⟨rfl, hs, hc⟩
  have HB2 := Lib.hid (HB1.out.trans (hc.below HB1.out.size (fun k hk => hk.elim (fun e => e ▸ HGS.out.1) (fun e => e ▸ HGS.out.2))))
  have HS2 := Lib.hid hs
  clear hs hc hmk
  go_wp2_with fail
  refine (make_ok hmk2 HS2.out).mono ?_
  rintro e w3 ⟨rfl, hs, hc⟩
  have HB3 := Lib.hid (HB2.out.trans (hc.below HB2.out.size (fun k hk => hk.elim (fun e => e ▸ HGS.out.1) (fun e => e ▸ HGS.out.2))))
  have HS3 := Lib.hid hs
  have HTS3 := Lib.hid hts2
  clear hs hc hmk2 hts hts2
  have hxy2 : (x == y) = false := by simpa using hxy
  have hmb : (Instr.makeSlice 40 (.int .i64 200) (.int .i64 200)).run Tryz.prog w3 = .ok (.slice (some ⟨w3.heap.size, 0, none⟩) 200 200) (w3.alloc (.cells ((List.replicate 200 false).flatMap bC).toArray 4)) := mk_bools w3 200 (by omega)
  have HT4 := Lib.hid (show Bools (w3.alloc (.cells ((List.replicate 200 false).flatMap bC).toArray 4)) w3.heap.size (List.replicate 200 false) from blk_new rfl)
  have HW4 := Lib.hid (Below.alloc (Below.refl _ w3) (Nat.le_refl _) (.cells ((List.replicate 200 false).flatMap bC).toArray 4))
  generalize w3.alloc (.cells ((List.replicate 200 false).flatMap bC).toArray 4) = w4 at *
  have HI := Lib.hid (show ApI w gs gm w3.heap.size x y 0 w4 from ⟨⟨s3, [], [], _, HS3.out.ch (S := fun _ => False) (Ch.of_below HW4.out) id id, HTS3.out, Nat.le_refl _, Nat.le_refl _, HasTh.nil 200 _ _, List.length_replicate, HT4.out⟩, HB3.out.trans (HW4.out.mono HB3.out.size)⟩)
  have HN := Lib.hid (show w.heap.size ≤ w3.heap.size ∧ gs ≠ w3.heap.size ∧ gm ≠ w3.heap.size from ⟨HB3.out.size, fun e => by have := blk_lt HS3.out.blk; omega, fun e => by have := HS3.out.book.lt; omega⟩)
  clear HT4 HW4 HTS3 HS3
  generalize w3.heap.size = gt at *
  go_wp2_with fail
  clear hmb hxy hxy2
  go_loopw [11] (fun iv wr => ∃ i : Nat, i ≤ a.length ∧ i ≤ 100 ∧ iv = .int .i64 i ∧ ApI w gs gm gt x y i wr) (fun iv _ => 100 - (intOf iv).toNat)
  case atStart => exact ⟨0, Nat.zero_le _, Nat.zero_le _, rfl, HI.out⟩
  case round =>
    obtain ⟨i, hi, hi3, rfl, ⟨s, ps, qs, th, hs, hts, hwt, hwq, hth, hlen, hbl⟩, hb⟩ := hrel
    clear HI
    have HS3 := Lib.hid hs
    have HTS3 := Lib.hid hts
    have HWT3 := Lib.hid hwt
    have HWQ3 := Lib.hid hwq
    have HTH3 := Lib.hid hth
    have HLN3 := Lib.hid hlen
    have HT3 := Lib.hid hbl
    have HB3 := Lib.hid hb
    clear hs hts hwt hwq hth hlen hbl hb
    go_upto_region 10 with fail
    go_cut [55] from 48 to 108 (fun c wx => c = .bool (decide (i < a.length ∧ i < 100)) ∧ wx = wr)
    case first =>
      by_cases ha : i < a.length
      · have ha1 : (i : Int) < (a.length : Int) := by omega
        by_cases hb : i < 100
        · have hb1 : (i : Int) < 100 := by omega
          go_wp2_with fail
          go_meet
          case rel => exact ⟨by rw [decide_eq_true (show i < a.length ∧ i < 100 from ⟨ha, hb⟩)] <;> (first | rfl | rw [decide_eq_true hb1]), rfl⟩
        · have hb1 : (100 : Int) ≤ (i : Int) := by omega
          go_wp2_with fail
          go_meet
          case rel => exact ⟨by rw [decide_eq_false (show ¬ (i < a.length ∧ i < 100) from fun h => hb h.2)] <;> (first | rfl | rw [decide_eq_false (show ¬ (i : Int) < 100 by omega)]), rfl⟩
      · have ha1 : (a.length : Int) ≤ (i : Int) := by omega
        go_wp2_with fail
        go_meet
        case rel => exact ⟨by rw [decide_eq_false (show ¬ (i < a.length ∧ i < 100) from fun h => ha h.1)], rfl⟩
    case rest =>
     obtain ⟨rfl, rfl⟩ := hcut
     by_cases hlt : i < a.length ∧ i < 100
     · have hdl := decide_eq_true hlt
       obtain ⟨hlt, hlt3⟩ := hlt
       obtain ⟨b0, off, rfl, hbl, e0⟩ := (HA.out.keep HB3.out).int1 hlt
       have hk0 : (0 : Int) ≤ (i : Int) := by omega
       have hk1 : (i : Int) < (a.length : Int) := by omega
       have hk2 : (i : Int) < 100 := by omega
       obtain ⟨k, hkk, hk4⟩ := mod_nat a[i] 200 (by omega) (by omega)
       generalize a[i] = xa at *
       go_upto_region 13 with fail
       rw [hkk]
       clear hkk e0 hbl
       have hkl : k < th.length := by have := HLN3.out; omega
       go_wp2_with fail
       refine (numbered_any k 9 _ (by omega) (by omega) (by omega)).mono ?_
       rintro e w4 ⟨rfl, hb⟩
       have HS4 := Lib.hid (HS3.out.ch (S := fun _ => False) (Ch.of_below hb) id id)
       have HB4 := Lib.hid (HB3.out.trans (hb.mono HB3.out.size))
       have HT4 := Lib.hid (HT3.out.keep hb)
       clear hb
       obtain ⟨s', r1, r2⟩ := HTS3.out.put (by have := HWT3.out; have := HWQ3.out; omega) (k := numB k 9) (v := [120]) (by rw [numB_len (by omega)]; omega) (by decide)
       have HTS6 := Lib.hid r2
       have HHT := Lib.hid (HTH3.out.put (k := k) (fun a b ha hb e => numB_inj (by have := HLN3.out; omega) (by have := HLN3.out; omega) e) hkl)
       have HLS := Lib.hid (show (th.set k true).length = 200 by rw [List.length_set]; exact HLN3.out)
       have HWT6 := Lib.hid (show wt (putP ps (numB k 9) [120]) ≤ 2 * (i + 1) by
         have := wt_put ps (numB k 9) [120]
         have h5 : chn [120] = 0 := by decide
         have := HWT3.out
         omega)
       go_wp2_with fail
       refine (put_ok (k := numB k 9) (v := [120]) r1 HS4.out).mono ?_
       rintro e w6 ⟨rfl, hs, hc⟩
       have HS6 := Lib.hid hs
       have HT6 := Lib.hid (show Bools w6 gt th from hc.keep HT4.out (fun e => e.elim (fun e => HN.out.2.1 e.symm) (fun e => HN.out.2.2 e.symm)))
       have HB6 := Lib.hid (HB4.out.trans (hc.below HB4.out.size (fun k hk => hk.elim (fun e => e ▸ HGS.out.1) (fun e => e ▸ HGS.out.2))))
       clear hs hc
       have e0 := HT6.out.cell hkl
       have e1 : gt < w6.heap.size := blk_lt HT6.out
       have e2 : w6.frozen? ⟨gt, k, none⟩ = false := blk_frozen HT6.out k
       have hk5 : (0 : Int) ≤ (k : Int) := by omega
       have HT7 := Lib.hid (HT6.out.set k true)
       have HS7 := Lib.hid (HS6.out.ch (S := fun j => j = gt) ((Ch.refl (fun j => j = gt) w6).setCell (p := ⟨gt, k, none⟩) rfl (.bool true)) HN.out.2.1 HN.out.2.2)
       have HB7 := Lib.hid (HB6.out.trans (Ch.below (S := fun j => j = gt) ((Ch.refl (fun j => j = gt) w6).setCell (p := ⟨gt, k, none⟩) rfl (.bool true)) HB6.out.size (fun j e => e ▸ HN.out.1)))
       clear r1 r2
       go_upto_region 16 with fail
       clear e0 e1 e2
       generalize w6.setCell ⟨gt, k, none⟩ (.bool true) = w7 at *
       clear HT6 HS6 HB6 HT3 HS3 HB3 HS4 HT4 HB4 HTH3 HWT3
       by_cases hb : i < b.length
       · have hb1 : (i : Int) < (b.length : Int) := by omega
         obtain ⟨b1, off1, rfl, hbl1, e0⟩ := (HBB.out.keep HB7.out).int1 hb
         obtain ⟨m, hmm, hm4⟩ := mod_nat b[i] 200 (by omega) (by omega)
         generalize b[i] = xb at *
         go_upto_region 18 with fail
         rw [hmm]
         clear hmm e0 hbl1
         go_wp2_with fail
         refine (numbered_any m 30 _ (by omega) (by omega) (by omega)).mono ?_
         rintro e w8 ⟨rfl, hb⟩
         have HS8 := Lib.hid (HS7.out.ch (S := fun _ => False) (Ch.of_below hb) id id)
         have HB8 := Lib.hid (HB7.out.trans (hb.mono HB7.out.size))
         have HT8 := Lib.hid (HT7.out.keep hb)
         clear hb
         go_wp2_with fail
         refine (numbered_any m 300 _ (by omega) (by omega) (by omega)).mono ?_
         rintro e w9 ⟨rfl, hb⟩
         have HS9 := Lib.hid (HS8.out.ch (S := fun _ => False) (Ch.of_below hb) id id)
         have HB9 := Lib.hid (HB8.out.trans (hb.mono HB8.out.size))
         have HT9 := Lib.hid (HT8.out.keep hb)
         clear hb
         obtain ⟨s8, r1, r2⟩ := HTS6.out.symm.put (by have := HWT6.out; have := HWQ3.out; omega) (k := numB m 30) (v := numB m 300) (by rw [numB_len (by omega)]; omega) (by rw [numB_len (by omega)]; omega)
         have HTS10 := Lib.hid r2.symm
         have HWQ10 := Lib.hid (show wt (putP qs (numB m 30) (numB m 300)) ≤ 4 * (i + 1) by
           have := wt_put qs (numB m 30) (numB m 300)
           have h5 := chn_le (v := numB m 300) (n := 300) (by rw [numB_len (by omega)]; omega)
           have := HWQ3.out
           omega)
         go_wp2_with fail
         refine (put_ok (k := numB m 30) (v := numB m 300) r1 HS9.out).mono ?_
         rintro e w10 ⟨rfl, hs, hc⟩
         have HS10 := Lib.hid hs
         have HT10 := Lib.hid (show Bools w10 gt (th.set k true) from hc.keep HT9.out (fun e => e.elim (fun e => HN.out.2.1 e.symm) (fun e => HN.out.2.2 e.symm)))
         have HB10 := Lib.hid (HB9.out.trans (hc.below HB9.out.size (fun k hk => hk.elim (fun e => e ▸ HGS.out.1) (fun e => e ▸ HGS.out.2))))
         clear hs hc
         clear r1 r2
         have hi3 := mod3 i
         by_cases hm : i % 3 = 0
         · rw [hm] at hi3
           have hi4 : ((i : Int).tmod 3 == 0) = true := by rw [hi3]; rfl
           go_wp2_with fail
           refine (numbered_any k 30 _ (by omega) (by omega) (by omega)).mono ?_
           rintro e w11 ⟨rfl, hb⟩
           have HS11 := Lib.hid (HS10.out.ch (S := fun _ => False) (Ch.of_below hb) id id)
           have HB11 := Lib.hid (HB10.out.trans (hb.mono HB10.out.size))
           have HT11 := Lib.hid (HT10.out.keep hb)
           clear hb
           obtain ⟨s9, r1, r2⟩ := HTS10.out.symm.del (by have := HWT6.out; have := HWQ10.out; omega) (numB k 30)
           go_wp2_with fail
           refine (del_ok (k := numB k 30) r1 HS11.out).mono ?_
           rintro e w12 ⟨rfl, hs, hc⟩
           have HS12 := Lib.hid hs
           have HT12 := Lib.hid (show Bools w12 gt (th.set k true) from hc.keep HT11.out (fun e => e.elim (fun e => HN.out.2.1 e.symm) (fun e => HN.out.2.2 e.symm)))
           have HB12 := Lib.hid (HB11.out.trans (hc.below HB11.out.size (fun k hk => hk.elim (fun e => e ▸ HGS.out.1) (fun e => e ▸ HGS.out.2))))
           clear hs hc
           have HTS12 := Lib.hid r2.symm
           have HWQ12 := Lib.hid (Nat.le_trans (wt_del (putP qs (numB m 30) (numB m 300)) (numB k 30)) HWQ10.out)
           clear r1 r2
           go_wp2_with fail
           go_roundw
           case rel => exact ⟨i + 1, by omega, by omega, by go_num, ⟨s9, _, _, th.set k true, HS12.out, HTS12.out, HWT6.out, HWQ12.out, HHT.out, HLS.out, HT12.out⟩, HB12.out⟩
           case measure => simp [intOf]; omega
         · have hi4 : ((i : Int).tmod 3 == 0) = false := by rw [hi3]; simp; omega
           go_wp2_with fail
           go_roundw
           case rel => exact ⟨i + 1, by omega, by omega, by go_num, ⟨s8, _, _, th.set k true, HS10.out, HTS10.out, HWT6.out, HWQ10.out, HHT.out, HLS.out, HT10.out⟩, HB10.out⟩
           case measure => simp [intOf]; omega
       · have hb1 : ¬ ((i : Int) < (b.length : Int)) := by omega
         go_wp2_with fail
         go_roundw
         case rel => exact ⟨i + 1, by omega, by omega, by go_num, ⟨s', _, qs, th.set k true, HS7.out, HTS6.out, HWT6.out, by have := HWQ3.out; omega, HHT.out, HLS.out, HT7.out⟩, HB7.out⟩
         case measure => simp [intOf]; omega
     · have hdl := decide_eq_false hlt
       rw [hdl]
       obtain ⟨s4, hd1, hd2⟩ := HTS3.out.drop (by have := HWT3.out; have := HWQ3.out; omega)
       have HWT4 := Lib.hid (show wt ps ≤ 200 by have := HWT3.out; omega)
       go_wp2_with fail
       refine (drop_ok hd1 HS3.out).mono ?_
       rintro e w4 ⟨rfl, hs, hc⟩
       have HS4 := Lib.hid hs
       have HT4 := Lib.hid (show Bools w4 gt th from hc.keep HT3.out (fun e => e.elim (fun e => HN.out.2.1 e.symm) (fun e => HN.out.2.2 e.symm)))
       have HB4 := Lib.hid (HB3.out.trans (hc.below HB3.out.size (fun k hk => hk.elim (fun e => e ▸ HGS.out.1) (fun e => e ▸ HGS.out.2))))
       clear hs hc
       have HI3 := Lib.hid hd2
       clear hd1 hd2
       clear HS3 HTS3 HWT3 HWQ3 HT3 HB3
       clear hi hi3
       go_wp2_with fail
       clear hlt hdl
       go_loopw [16] (fun iv wr => ∃ k : Nat, k ≤ 200 ∧ iv = .int .i64 k ∧ ShIs wr gs gm s4 ∧ Bools wr gt th ∧ Below w.heap.size w wr) (fun iv _ => 200 - (intOf iv).toNat)
       case atStart => exact ⟨0, Nat.zero_le _, rfl, HS4.out, HT4.out, HB4.out⟩
       case round =>
        clear HS4 HT4 HB4
        obtain ⟨k, hk, rfl, hs, hbl, hb⟩ := hrel
        have HS3 := Lib.hid hs
        have HT3 := Lib.hid hbl
        have HB3 := Lib.hid hb
        clear hs hbl hb
        by_cases hlt : k < 200
        · have hk1 : (k : Int) < 200 := by omega
          have hk5 : (0 : Int) ≤ (k : Int) := by omega
          go_wp2_with fail
          refine (numbered_any k 9 _ (by omega) (by omega) (by omega)).mono ?_
          rintro e w4 ⟨rfl, hb⟩
          have HS4 := Lib.hid (HS3.out.ch (S := fun _ => False) (Ch.of_below hb) id id)
          have HB4 := Lib.hid (HB3.out.trans (hb.mono HB3.out.size))
          have HT4 := Lib.hid (HT3.out.keep hb)
          clear hb
          have hkl : k < th.length := by have := HLN3.out; omega
          have r1 := HI3.out.get (by have := HWT4.out; simp; omega) (numB k 9)
          rw [HTH3.out k hkl] at r1
          cases hbk : th[k]
          · rw [hbk] at r1
            go_wp2_with fail
            refine (get_none r1 HS4.out).mono ?_
            rintro e w6 ⟨rfl, hs, hc⟩
            have HS6 := Lib.hid hs
            have HT6 := Lib.hid (show Bools w6 gt th from hc.keep HT4.out (fun e => e.elim (fun e => HN.out.2.1 e.symm) (fun e => HN.out.2.2 e.symm)))
            have HB6 := Lib.hid (HB4.out.trans (hc.below HB4.out.size (fun k hk => hk.elim (fun e => e ▸ HGS.out.1) (fun e => e ▸ HGS.out.2))))
            clear hs hc
            have e0 := HT6.out.cell hkl
            rw [hbk] at e0
            clear hbk r1
            have e1 : gt < w6.heap.size := blk_lt HT6.out
            go_wp2_with fail
            go_roundw
            case rel => exact ⟨k + 1, by omega, by go_num, HS6.out, HT6.out, HB6.out⟩
            case measure => simp [intOf]; omega
          · rw [hbk] at r1
            go_wp2_with fail
            refine (get_some (v := [120]) r1 HS4.out).mono ?_
            rintro e w6 ⟨rfl, hs, hc⟩
            have HS6 := Lib.hid hs
            have HT6 := Lib.hid (show Bools w6 gt th from hc.keep HT4.out (fun e => e.elim (fun e => HN.out.2.1 e.symm) (fun e => HN.out.2.2 e.symm)))
            have HB6 := Lib.hid (HB4.out.trans (hc.below HB4.out.size (fun k hk => hk.elim (fun e => e ▸ HGS.out.1) (fun e => e ▸ HGS.out.2))))
            clear hs hc
            have e0 := HT6.out.cell hkl
            rw [hbk] at e0
            clear hbk r1
            have e1 : gt < w6.heap.size := blk_lt HT6.out
            have hz : (mkS [120]).toList = [120] := mkS_toList _
            go_wp2_with fail
            go_roundw
            case rel => exact ⟨k + 1, by omega, by go_num, HS6.out, HT6.out, HB6.out⟩
            case measure => simp [intOf]; omega
        · have hk1 : (200 : Int) ≤ (k : Int) := by omega
          obtain ⟨gl, h3, -, h4, -, -⟩ := HI3.out.list (by have := HWT4.out; simp; omega)
          have HSP := Lib.hid h4
          have HPG := Lib.hid (show 1 ≤ s4.h.pages ∧ s4.h.pages ≤ 4096 from ⟨HI3.out.ok.h.p1, HI3.out.ok.h.p2⟩)
          have HSZ := Lib.hid (show 0 ≤ s4.h.spare ∧ s4.h.spare ≤ 4096 from ⟨HI3.out.ok.h.s0, HI3.out.ok.h.s1⟩)
          clear h4
          go_wp2_with fail
          refine (list_ok h3 HS3.out).mono ?_
          rintro e w8 ⟨⟨v, rfl, ho, hlen⟩, hs, hc⟩
          have HS8 := Lib.hid hs
          have HB8 := Lib.hid (HB3.out.trans (hc.below HB3.out.size (fun k hk => hk.elim (fun e => e ▸ HGS.out.1) (fun e => e ▸ HGS.out.2))))
          obtain ⟨Al, cl, rfl⟩ := Sl.len' (ho.sl iC_len)
          have hp0 : ((x :: gl).length : Int) + s4.h.spare + 1 = s4.h.pages := by have := HSP.out; simp only [List.length_nil] at this; omega
          obtain ⟨q1, q2⟩ := HPG.out
          obtain ⟨q3, q4⟩ := HSZ.out
          have hf3 := head_f3
          have hf1 := head_f1
          clear ho hs hc h3
          generalize (x :: gl).length = ln at *
          go_wp2_with fail
          refine (sHead_any gs gm s4 w8 HS8.out).mono ?_
          rintro e w9 ⟨rfl, hb⟩
          have HS9 := Lib.hid (HS8.out.ch (S := fun _ => False) (Ch.of_below hb) id id)
          have HB9 := Lib.hid (HB8.out.trans (hb.mono HB8.out.size))
          clear hb
          go_wp2_with fail
          refine (sHead_any gs gm s4 w9 HS9.out).mono ?_
          rintro e w10 ⟨rfl, hb⟩
          have HB10 := Lib.hid (HB9.out.trans (hb.mono HB9.out.size))
          clear hb
          go_wp2_with fail
          go_ret
          exact ⟨by first | rfl | simp, HB10.out⟩
end Go.Proofs.YtknioodagnjchaaGreatDoor
