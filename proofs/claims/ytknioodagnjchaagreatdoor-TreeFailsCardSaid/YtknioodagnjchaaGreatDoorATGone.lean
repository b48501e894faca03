/- The walk of cahierlaw16.TreeGone. -/
import Derived.Test.YtknioodagnjchaaGreatDoorATOrd
import Derived.Deep.RegionHeld3
namespace Go.Proofs.YtknioodagnjchaaGreatDoor
open Go.RowKit

def nC (j : Nat) : List Value := [.int .i64 j]
theorem nC_len (j : Nat) : (nC j).length = 1 := rfl
theorem elN : ElemT Tryz.prog 37 3 nC 1 8 :=
  ElemT.mk' (z := .int .i64 0) Tryz.underlying37 (by kernel_rfl) (by rfl) (by omega) nC_len (by intro x u hu; simp [nC] at hu; subst hu; rfl)
theorem Sl.nat1 {w : World} {A : Option Addr} {n c k : Nat} {xs : List Nat} (h : Sl nC 1 w (.slice A n c) xs) (hk : k < xs.length) : ∃ b off, A = some ⟨b, off, none⟩ ∧ b < w.heap.size ∧ w.cell? ⟨b, off + k, none⟩ = some (.int .i64 xs[k]) := by
  rcases h.cases with ⟨_, _, _, h0⟩ | ⟨b, off, c', he, -, hbl, hsl⟩
  · rw [h0] at hk; simp at hk
  · injection he with e1 e2 e3
    have := (hsl.cells hk).2 0 _ rfl
    simp only [Nat.mul_one, Nat.add_zero] at this
    exact ⟨b, off, e1, hbl, this⟩
/-- what stands behind a place of a row -/
theorem Own.dropS {base : Nat} {w : World} {g n c : Nat} {xs : List Nat} (h : Own nC 1 3 base w (.slice (some ⟨g, 0, none⟩) n c) xs) {i : Nat} (hi : i ≤ xs.length) (o : Nat) (ho : i < xs.length → o = i) (c' : Nat) : Sl nC 1 w (.slice (some ⟨g, o, none⟩) (xs.length - i) c') (xs.drop i) := by
  refine ⟨some ⟨g, o, none⟩, c', by rw [List.length_drop], fun hne => ?_⟩
  have hlt : i < xs.length := by
    rcases Nat.lt_or_ge i xs.length with h | h
    · exact h
    · exact absurd (List.drop_of_length_le h) hne
  obtain rfl := ho hlt
  refine ⟨g, o, rfl, (h.lt g rfl).2, fun k x hx j u hu => ?_⟩
  rw [List.getElem?_drop] at hx
  rcases (h.sl nC_len).cases with ⟨_, _, _, h0⟩ | ⟨b2, off2, c2, he, -, hb2, hsl⟩
  · rw [h0] at hlt; simp at hlt
  · injection he with e1 e2 e3
    injection e1 with e1
    injection e1 with e4 e5
    subst e4 e5
    obtain ⟨hk, rfl⟩ := List.getElem?_eq_some_iff.1 hx
    have := (hsl.cells hk).2 j u hu
    rw [show o + k * 1 + j = 0 + (o + k) * 1 + j by omega]
    exact this
structure GonI (w : World) (gs gm : Nat) (root : Int) (sz : Nat) (N : Nat) (left : List Nat) (wr : World) : Prop where
  h : ∃ s ps, ShIs wr gs gm s ∧ TS s root ps [] ∧ wt ps ≤ N ∧ Lef 400 (fun k => numB k sz) ps left
  b : Below w.heap.size w wr
set_option maxRecDepth 100000 in
set_option maxHeartbeats 4000000 in
theorem gone_any (order : List Int) (ov : Value) (size long : Int) (w : World) (ho : Sl iC 1 w ov order) :
    Calls Tryz.prog 5 #[ov, .int .i64 size, .int .i64 long] w fun e w' => e = .returned (.bool true) ∧ Below w.heap.size w w' := by
  obtain ⟨Ao, co, rfl⟩ := Sl.len' ho
  have HO := Lib.hid ho
  clear ho
  go_enter Tryz.func5, Tryz.ntmps5
  go_wp2_with fail
  refine (awake16_any w).mono ?_
  rintro e w0 ⟨rfl, hb⟩
  have HB0 := Lib.hid hb
  clear hb
  go_upto_region 5 with fail
  obtain ⟨sz, hsz, hs2, hs64⟩ := mod_nat2 size
  obtain ⟨lg, hlg, hlg7⟩ := mod_nat long 700 (by omega) (by omega)
  rw [hsz, hlg]
  clear hsz hlg
  go_wp2_with fail
  refine (sNewShelf_any 4096 w0).mono ?_
  rintro e w1 ⟨gs, gm, rfl, hs, h1, h2, hb⟩
  have HS1 := Lib.hid (show ShIs w1 gs gm (newS 4096) from hs)
  have HB1 := Lib.hid (HB0.out.trans (hb.mono HB0.out.size))
  have HGS := Lib.hid (show w.heap.size ≤ gs ∧ w.heap.size ≤ gm from ⟨Nat.le_trans HB0.out.size h1, Nat.le_trans HB0.out.size h2⟩)
  clear hs h1 h2 hb
  obtain ⟨s2, root, hmk, -, hts, -⟩ := TS.make hp_new (by decide)
  go_wp2_with fail
  refine (make_ok hmk HS1.out).mono ?_
  rintro e w2 ⟨rfl, hs, hc⟩
  have HB2 := Lib.hid (HB1.out.trans (hc.below HB1.out.size (fun k hk => hk.elim (fun e => e ▸ HGS.out.1) (fun e => e ▸ HGS.out.2))))
  have HI := Lib.hid (show GonI w gs gm root sz 0 [] w2 from ⟨⟨s2, [], hs, hts, Nat.le_refl _, Lef.nil _ _⟩, HB2.out⟩)
  clear hs hc hts hmk
  go_upto_region 10 with fail
  obtain ⟨N, hN, hN1, hN2⟩ : ∃ N : Nat, min (order.length : Int) 200 = (N : Int) ∧ N ≤ order.length ∧ N ≤ 200 := ⟨min order.length 200, by omega, by omega, by omega⟩
  rw [hN]
  clear hN
  go_wp2_with fail
  go_loopw [11] (fun iv wr => ∃ i : Nat, i ≤ N ∧ iv = .int .i64 i ∧ GonI w gs gm root sz (6 * i) (List.range i) wr) (fun iv _ => N - (intOf iv).toNat)
  case atStart => exact ⟨0, Nat.zero_le _, rfl, HI.out⟩
  case round =>
    obtain ⟨i, hi, rfl, ⟨s, ps, hs, hts, hwt, hlf⟩, hb⟩ := hrel
    clear HI
    have HS3 := Lib.hid hs
    have HTS3 := Lib.hid hts
    have HWT3 := Lib.hid hwt
    have HLF3 := Lib.hid hlf
    have HB3 := Lib.hid hb
    clear hs hts hwt hlf hb
    by_cases hlt : i < N
    · have hk0 : (0 : Int) ≤ (i : Int) := by omega
      have hk1 : (i : Int) < (N : Int) := by omega
      obtain ⟨s', r1, r2, -⟩ := HTS3.out.put (by have := HWT3.out; simp; omega) (k := numB i sz) (v := List.replicate lg 0) (by rw [numB_len hs2]; exact hs64) (by rw [List.length_replicate]; omega)
      have HTS6 := Lib.hid r2
      have HWT6 := Lib.hid (show wt (putP ps (numB i sz) (List.replicate lg 0)) ≤ 6 * (i + 1) by
        have := wt_put ps (numB i sz) (List.replicate lg 0)
        have h5 := chn_le (v := List.replicate lg 0) (n := 699) (by rw [List.length_replicate]; omega)
        have := HWT3.out
        omega)
      have HLF6 := Lib.hid (show Lef 400 (fun k => numB k sz) (putP ps (numB i sz) (List.replicate lg 0)) (List.range (i + 1)) by
        rw [List.range_succ]
        exact HLF3.out.put (by simp) (by omega) _)
      have HR := Lib.hid r1
      clear r1 r2
      have hmk := fun W => mk_bytes W lg (by omega)
      have HSF := Lib.hid (fun (W : World) (h : Below wr.heap.size wr W) => HS3.out.ch (S := fun _ => False) (Ch.of_below h) id id)
      go_upto_region 13 with fail
      have hcB : (convert 46 9 (.slice (some ⟨wr.heap.size, 0, none⟩) lg lg)).run Tryz.prog (wr.alloc (.cells ((List.replicate lg (0 : UInt8)).flatMap uC).toArray 5)).drew = .ok (.string (mkS (List.replicate lg 0))) (wr.alloc (.cells ((List.replicate lg (0 : UInt8)).flatMap uC).toArray 5)).drew :=
        conv_back _ _ _ _ _ (by simp) (blk_bytes (fz := (0, 0)) (blk_new rfl))
      go_region_law (first
        | (go_simp
           go_at_call 26
           refine (numbered_any i sz _ (by omega) hs2 (by omega)).mono ?_
           rintro e w4 ⟨rfl, hb⟩
           try have hcC : (convert 46 9 (.slice (some ⟨wr.heap.size, 0, none⟩) lg lg)).run Tryz.prog w4 = .ok (.string (mkS (List.replicate lg 0))) w4 := conv_back _ _ _ _ _ (by simp) (blk_bytes (fz := (0, 0)) (blk_keep (show (wr.alloc (.cells ((List.replicate lg (0 : UInt8)).flatMap uC).toArray 5)).drew.heap[wr.heap.size]? = some (.cells ((List.replicate lg (0 : UInt8)).flatMap uC).toArray 5 (0, 0)) from blk_new (w0 := wr) rfl) hb))
           have hcA : (convert 46 9 (.slice (some ⟨w4.heap.size, 0, none⟩) lg lg)).run Tryz.prog (w4.alloc (.cells ((List.replicate lg (0 : UInt8)).flatMap uC).toArray 5)) = .ok (.string (mkS (List.replicate lg 0))) (w4.alloc (.cells ((List.replicate lg (0 : UInt8)).flatMap uC).toArray 5)) :=
             conv_back _ _ _ _ _ (by simp) (blk_bytes (fz := (0, 0)) (blk_new rfl))
           have HBN := Lib.hid hb
           clear hb)
        | (go_simp
           go_at_call 25
           refine (put_ok HR.out (HSF.out _ ?below)).mono ?_
           case below => first
             | exact ((Below.refl _ wr).drew.trans HBN.out).alloc (Nat.le_trans (Nat.le_refl _) HBN.out.size) _
             | exact ((Below.refl _ wr).alloc (Nat.le_refl _) _).drew.trans (HBN.out.mono (by simp))
           rintro e w6 ⟨rfl, hs, hc⟩
           have HS6 := Lib.hid hs
           have HB6 := Lib.hid (show Below w.heap.size w w6 by first
             | exact (HB3.out.trans ((((Below.refl _ wr).drew.trans HBN.out).alloc (Nat.le_trans (Nat.le_refl _) HBN.out.size) _).mono HB3.out.size)).trans (hc.below (Nat.le_trans HB3.out.size (Nat.le_trans HBN.out.size (by simp))) (fun k hk => hk.elim (fun e => e ▸ HGS.out.1) (fun e => e ▸ HGS.out.2)))
             | exact (HB3.out.trans ((((Below.refl _ wr).alloc (Nat.le_refl _) _).drew.trans (HBN.out.mono (by simp))).mono HB3.out.size)).trans (hc.below (Nat.le_trans HB3.out.size (Nat.le_trans (by simp) HBN.out.size)) (fun k hk => hk.elim (fun e => e ▸ HGS.out.1) (fun e => e ▸ HGS.out.2))))
           clear hs hc))
      all_goals
        go_wp2_with fail
        go_roundw
        case rel => exact ⟨i + 1, by omega, by go_num, ⟨s', _, HS6.out, HTS6.out, HWT6.out, HLF6.out⟩, HB6.out⟩
        case measure => simp [intOf]; omega
    · obtain rfl : i = N := by omega
      have hk1 : ¬ ((i : Int) < (i : Int)) := by omega
      have HW2 := Lib.hid (show wt ps ≤ 1200 by have := HWT3.out; omega)
      have HSF0 := Lib.hid (fun (W : World) (h : Below wr.heap.size wr W) => HS3.out.ch (S := fun _ => False) (Ch.of_below h) id id)
      have HBW := Lib.hid (show Below wr.heap.size wr (wr.alloc (.cells #[] 3)) from (Below.refl _ _).alloc (Nat.le_refl _) _)
      have HOW := Lib.hid (show Own nC 1 3 wr.heap.size (wr.alloc (.cells #[] 3)) (.slice (some ⟨wr.heap.size, 0, none⟩) 0 0) [] from World.ownsRow_lit wr #[] 0 (Nat.le_refl _) (by simp [maxLen]) (by simp))
      clear HWT3
      go_wp2_with fail
      obtain ⟨wb, hwb⟩ : ∃ wb : World, wb = wr := ⟨_, rfl⟩
      subst hwb
      have hib := HTS3.out
      go_loopw [12, 13] (fun v iv wr => ∃ j : Nat, j ≤ i ∧ iv = .int .i64 j ∧ Own nC 1 3 wb.heap.size wr v (List.range j) ∧ Below wb.heap.size wb wr) (fun _ iv _ => i - (intOf iv).toNat)
      case atStart => exact ⟨0, Nat.zero_le _, rfl, HOW.out, HBW.out⟩
      case round =>
        obtain ⟨j, hj, rfl, ho, hb⟩ := hrel
        have HO4 := Lib.hid ho
        have HB4 := Lib.hid hb
        obtain ⟨A, c, hvv⟩ := Sl.len' (ho.sl nC_len)
        rw [List.length_range] at hvv
        subst hvv
        clear ho hb
        by_cases hlt : j < i
        · have hk1 : (j : Int) < (i : Int) := by omega
          have hk0 : (0 : Int) ≤ (j : Int) := by omega
          go_wp2_with (at_builtin; refine Hid.out ?_)
          refine Lib.hid ?_
          refine wpList_append_sl rfl rfl elN rfl rfl (HO4.out.alloc _) (Sl.one (j : Nat) (by simp) nC_len rfl) (by simp [maxLen]; omega) (by simp; omega) (by have := HB4.out.size; simp; omega) ?_
          intro v' w6 ho hg hat
          have HO6 := Lib.hid (show Own nC 1 3 wb.heap.size w6 v' (List.range (j + 1)) by rw [List.range_succ]; exact ho)
          have HB6 := Lib.hid (below_app (HB4.out.alloc HB4.out.size _) hg (by have := HB4.out.size; simp; omega) (fun k hk => (HO4.out.lt k hk).1))
          clear ho hg hat
          go_wp2_with fail
          go_roundw
          case rel => exact ⟨j + 1, by omega, by go_num, HO6.out, HB6.out⟩
          case measure => simp [intOf]; omega
        · obtain rfl : j = i := by omega
          have hk1 : ¬ ((j : Int) < (j : Int)) := by omega
          have HI3 := Lib.hid (show GonI w gs gm root sz 1200 (List.range j) wr from ⟨⟨s, ps, HSF0.out _ HB4.out, HTS3.out, HW2.out, HLF3.out⟩, HB3.out.trans (HB4.out.mono HB3.out.size)⟩)
          have HGW := Lib.hid (show w.heap.size ≤ wb.heap.size ∧ gs < wb.heap.size ∧ gm < wb.heap.size from ⟨HB3.out.size, blk_lt HS3.out.blk, HS3.out.book.lt⟩)
          have HOR := Lib.hid (show Sl iC 1 wr (.slice Ao order.length co) order from HO.out.keep (HB3.out.trans (HB4.out.mono HB3.out.size)))
          clear HTS3 HW2 HLF3 HB3 HS3 HBW HOW HSF0 hib
          go_wp2_with fail
          go_loopw [12, 14] (fun v iv wr => ∃ (k : Nat) (left : List Nat), k ≤ j ∧ iv = .int .i64 k ∧ left.length + k = j ∧ Own nC 1 3 wb.heap.size wr v left ∧ GonI w gs gm root sz 1200 left wr) (fun _ iv _ => j - (intOf iv).toNat)
          case atStart => exact ⟨0, _, Nat.zero_le _, rfl, by simp, HO4.out, HI3.out⟩
          case round =>
            clear HI3 HO4 HB4 HOR
            obtain ⟨k, left, hk, rfl, hll, ho, ⟨s, ps, hs, hts, hwt, hlf⟩, hb⟩ := hrel
            have HS3 := Lib.hid hs
            have HTS3 := Lib.hid hts
            have HWT3 := Lib.hid hwt
            have HLF3 := Lib.hid hlf
            have HB3 := Lib.hid hb
            have HO3 := Lib.hid ho
            have HLL := Lib.hid hll
            obtain ⟨Al, cl, rfl⟩ := Sl.len' (ho.sl nC_len)
            clear hs hts hwt hlf hb ho
            by_cases hlt : k < j
            · have hk0 : (0 : Int) ≤ (k : Int) := by omega
              obtain ⟨b, off, rfl, hbl, e0⟩ := (HO.out.keep HB3.out).int1 (show k < order.length by omega)
              have hk1 : (k : Int) < (order.length : Int) := by omega
              have hk2 : (k : Int) < (j : Int) := by omega
              obtain ⟨m, hm, hm2⟩ := mod_nat order[k] (left.length : Int) (by omega) (by omega)
              generalize order[k] = x at *
              have hu : IntKind.u64.wrap (left.length : Int) = (left.length : Int) := IntWalk.u64_in _ (by omega)
              have hml : m < left.length := by omega
              obtain ⟨g, rfl⟩ : ∃ g, Al = some ⟨g, 0, none⟩ := by
                rcases HO3.out.2 with ⟨hv, h0⟩ | ⟨g, cap, cur, hv, _⟩
                · omega
                · injection hv with hv; exact ⟨g, hv⟩
              go_upto_region 24 with fail
              rw [hm]
              clear hm e0 hbl hu
              have f0 : wr.cell? ⟨g, m, none⟩ = some (.int .i64 left[m]) := by
                obtain ⟨b2, off2, he, hb2, hc2⟩ := (HO3.out.sl nC_len).nat1 hml
                injection he with he
                injection he with h1 h2
                subst h1 h2
                simpa using hc2
              have f1 : g < wr.heap.size := (HO3.out.lt g rfl).2
              have hm0 : (0 : Int) ≤ (m : Int) := by omega
              have hlm := HLF3.out.lt _ (List.getElem_mem hml)
              obtain ⟨s', r1, r2, -⟩ := HTS3.out.del (by have := HWT3.out; simp; omega) (numB left[m] sz)
              rw [HLF3.out.is _ (List.getElem_mem hml)] at r1
              have HR := Lib.hid r1
              have HTS6 := Lib.hid r2
              have HWT6 := Lib.hid (show wt (delP ps (numB left[m] sz)) ≤ 1200 from Nat.le_trans (wt_del ps _) HWT3.out)
              have HLF6 := Lib.hid (HLF3.out.del (fun a b ha hb e => numB_inj (by omega) (by omega) e) hml)
              have HQ := Lib.hid (show ∃ q : Nat, left[m] = q from ⟨_, rfl⟩)
              clear r1 r2
              generalize left[m] = q at *
              go_wp2_with fail
              refine (numbered_any q sz _ (by omega) hs2 (by omega)).mono ?_
              rintro e w4 ⟨rfl, hb⟩
              have HS4 := Lib.hid (HS3.out.ch (S := fun _ => False) (Ch.of_below hb) id id)
              have HB4 := Lib.hid (HB3.out.trans (hb.mono HB3.out.size))
              have HO4 := Lib.hid (HO3.out.below hb)
              clear hb f0 f1
              go_wp2_with fail
              refine (del_ok HR.out HS4.out).mono ?_
              rintro e w5 ⟨rfl, hs, hc⟩
              have HS5 := Lib.hid hs
              have HO5 := Lib.hid (HO4.out.ch hc (fun k hk e => by have := (HO4.out.lt k hk).1; have := HGW.out.2.1; have := HGW.out.2.2; omega))
              have HB5 := Lib.hid (HB4.out.trans (hc.below HB4.out.size (fun k hk => hk.elim (fun e => e ▸ HGS.out.1) (fun e => e ▸ HGS.out.2))))
              have HZ5 := Lib.hid (show wb.heap.size ≤ w5.heap.size by have := (HO5.out.lt g rfl).1; have := (HO5.out.lt g rfl).2; omega)
              have HOX := Lib.hid (show Own nC 1 3 w5.heap.size (w5.alloc (.cells #[] 3)) (.slice (some ⟨w5.heap.size, 0, none⟩) 0 0) ([] : List Nat) from World.ownsRow_lit w5 #[] 0 (Nat.le_refl _) (by simp [maxLen]) (by simp))
              have hgc : left.length ≤ cl := HO5.out.cap
              have hgw : g < w5.heap.size := (HO5.out.lt g rfl).2
              clear hs hc
              go_wp2_with (at_builtin; refine Hid.out ?_)
              refine Lib.hid ?_
              refine wpList_append_sl rfl rfl elN rfl rfl HOX.out (((HO5.out.alloc _).sl nC_len).take m (by omega)) (by simp [maxLen]; omega) (by simp; omega) (by simp) ?_
              intro v' w6 ho hg hat
              have HN6 := Lib.hid (show Own nC 1 3 w5.heap.size w6 v' (left.take m) from ho)
              have HB6 := Lib.hid (show Below w5.heap.size w5 w6 from below_app ((Below.refl _ w5).alloc (Nat.le_refl _) _) hg (by simp) (fun k hk => by cases hk; exact Nat.le_refl _))
              obtain ⟨A6, c6, h6⟩ := Sl.len' (HN6.out.sl nC_len)
              rw [List.length_take, Nat.min_eq_left (Nat.le_of_lt hml)] at h6
              subst h6
              clear ho hg hat
              have hm1 : (m : Int) + 1 ≤ (left.length : Int) := by omega
              have HL6 := Lib.hid (show Own nC 1 3 wb.heap.size w6 (.slice (some ⟨g, 0, none⟩) left.length cl) left from HO5.out.below HB6.out)
              by_cases hcm : cl = m + 1
              · have hcm1 : (cl : Int) = (m : Int) + 1 := by omega
                go_wp2_with (at_builtin; refine Hid.out ?_)
                refine Lib.hid ?_
                refine wpList_append_sl rfl rfl elN rfl rfl HN6.out (HL6.out.dropS (i := m + 1) (by omega) _ (by omega) _) (by simp [maxLen]; omega) (by simp; omega) (by have := HB6.out.size; omega) ?_
                intro v' w7 ho hg hat
                have HN7 := Lib.hid (show Own nC 1 3 w5.heap.size w7 v' (left.take m ++ left.drop (m + 1)) from ho)
                have HB7 := Lib.hid (show Below w5.heap.size w5 w7 from below_app HB6.out hg (by have := HB6.out.size; omega) (fun k hk => (HN6.out.lt k hk).1))
                clear ho hg hat
                go_wp2_with fail
                go_roundw
                case rel => exact ⟨k + 1, _, by omega, by go_num, by have := HLL.out; simp; omega, HN7.out.base HZ5.out, ⟨s', _, HS5.out.ch (S := fun _ => False) (Ch.of_below HB7.out) id id, HTS6.out, HWT6.out, HLF6.out⟩, HB5.out.trans (HB7.out.mono HB5.out.size)⟩
                case measure => simp [intOf]; omega
              · have hcm1 : ¬ ((cl : Int) = (m : Int) + 1) := by omega
                go_wp2_with (at_builtin; refine Hid.out ?_)
                refine Lib.hid ?_
                refine wpList_append_sl rfl rfl elN rfl rfl HN6.out (HL6.out.dropS (i := m + 1) (by omega) _ (by omega) _) (by simp [maxLen]; omega) (by simp; omega) (by have := HB6.out.size; omega) ?_
                intro v' w7 ho hg hat
                have HN7 := Lib.hid (show Own nC 1 3 w5.heap.size w7 v' (left.take m ++ left.drop (m + 1)) from ho)
                have HB7 := Lib.hid (show Below w5.heap.size w5 w7 from below_app HB6.out hg (by have := HB6.out.size; omega) (fun k hk => (HN6.out.lt k hk).1))
                clear ho hg hat
                go_wp2_with fail
                go_roundw
                case rel => exact ⟨k + 1, _, by omega, by go_num, by have := HLL.out; simp; omega, HN7.out.base HZ5.out, ⟨s', _, HS5.out.ch (S := fun _ => False) (Ch.of_below HB7.out) id id, HTS6.out, HWT6.out, HLF6.out⟩, HB5.out.trans (HB7.out.mono HB5.out.size)⟩
                case measure => simp [intOf]; omega
            · obtain rfl : k = j := by omega
              obtain rfl : left = [] := List.length_eq_zero_iff.1 (by omega)
              obtain rfl := HLF3.out.end
              obtain ⟨gl, h3, -, h4, h5, -⟩ := HTS3.out.list (by decide)
              obtain rfl := h5 rfl
              obtain ⟨s2, h6, h7, -⟩ := HTS3.out.drop (by decide)
              have HSP := Lib.hid h4
              have HDR := Lib.hid h6
              have HSQ := Lib.hid h7.spare
              have HPG := Lib.hid (show (1 ≤ s.h.pages ∧ s.h.pages ≤ 4096) ∧ 1 ≤ s2.h.pages ∧ s2.h.pages ≤ 4096 from ⟨⟨HTS3.out.ok.h.p1, HTS3.out.ok.h.p2⟩, h7.ok.h.p1, h7.ok.h.p2⟩)
              have hk2 : ¬ ((k : Int) < (k : Int)) := by omega
              clear h4 h5 h6 h7
              go_wp2_with fail
              refine (list_ok h3 HS3.out).mono ?_
              rintro e w8 ⟨⟨v, rfl, ho, -⟩, hs, hc⟩
              have HS8 := Lib.hid hs
              have HB8 := Lib.hid (HB3.out.trans (hc.below HB3.out.size (fun k hk => hk.elim (fun e => e ▸ HGS.out.1) (fun e => e ▸ HGS.out.2))))
              rcases (ho.sl iC_len).cases with ⟨_, _, _, h0⟩ | ⟨b, off, c2, he, -, hbl, hsl⟩
              · cases h0
              subst he
              obtain ⟨-, hcl⟩ := hsl.cells (k := 0) (by simp)
              have e0 : w8.cell? ⟨b, off, none⟩ = some (.int .i64 root) := by simpa [iC] using hcl 0 _ rfl
              have hp0 : s.h.spare = s.h.pages - 2 := by have := HSP.out; simp at this; omega
              have hp1 : s2.h.spare = s2.h.pages - 1 := by have := HSQ.out; simp at this; omega
              obtain ⟨⟨q1, q2⟩, q3, q4⟩ := HPG.out
              have HP0 := Lib.hid hp0
              have HP1 := Lib.hid hp1
              have hf3 := head_f3
              have hf1 := head_f1
              clear hcl hsl ho hs hc h3 hp0 hp1
              go_wp2_with fail
              refine (sHead_any gs gm s w8 HS8.out).mono ?_
              rintro e w9 ⟨rfl, hb⟩
              have HS9 := Lib.hid (HS8.out.ch (S := fun _ => False) (Ch.of_below hb) id id)
              have HB9 := Lib.hid (HB8.out.trans (hb.mono HB8.out.size))
              rw [HP0.out]
              clear hb e0
              go_wp2_with fail
              refine (sHead_any gs gm s w9 HS9.out).mono ?_
              rintro e w10 ⟨rfl, hb⟩
              have HS10 := Lib.hid (HS9.out.ch (S := fun _ => False) (Ch.of_below hb) id id)
              have HB10 := Lib.hid (HB9.out.trans (hb.mono HB9.out.size))
              clear hb
              go_wp2_with fail
              refine (drop_ok HDR.out HS10.out).mono ?_
              rintro e w11 ⟨rfl, hs, hc⟩
              have HS11 := Lib.hid hs
              have HB11 := Lib.hid (HB10.out.trans (hc.below HB10.out.size (fun k hk => hk.elim (fun e => e ▸ HGS.out.1) (fun e => e ▸ HGS.out.2))))
              clear hs hc
              go_wp2_with fail
              refine (sHead_any gs gm s2 w11 HS11.out).mono ?_
              rintro e w12 ⟨rfl, hb⟩
              have HS12 := Lib.hid (HS11.out.ch (S := fun _ => False) (Ch.of_below hb) id id)
              have HB12 := Lib.hid (HB11.out.trans (hb.mono HB11.out.size))
              rw [HP1.out]
              clear hb
              go_wp2_with fail
              refine (sHead_any gs gm s2 w12 HS12.out).mono ?_
              rintro e w13 ⟨rfl, hb⟩
              have HB13 := Lib.hid (HB12.out.trans (hb.mono HB12.out.size))
              clear hb
              go_wp2_with fail
              go_ret
              exact ⟨rfl, HB13.out⟩
end Go.Proofs.YtknioodagnjchaaGreatDoor
