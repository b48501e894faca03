/- The walk of cahierlaw12.CacheLast. -/
import Derived.Test.YtjjiclbngoldaaaAwake12
import Derived.Test.YtjjiclbngoldaaaCaLastLaw
import Derived.Laws.BytesArg
import Derived.Deep.RegionWith
import Derived.Deep.Cut
import Derived.Deep.CutRange
namespace Go.Proofs.Ytjjiclbngoldaaa
open Go.RowKit

def iC (x : Int) : List Value := [.int .i64 x]
theorem iC_len (x : Int) : (iC x).length = 1 := rfl
theorem elInt : ElemT Try.prog 23 3 iC 1 8 :=
  ElemT.mk' (z := .int .i64 0) Try.underlying23 (by kernel_rfl) (by rfl) (by omega) iC_len (by intro x u hu; simp [iC] at hu; subst hu; rfl)

theorem last_sz (size : Int) : 1 ≤ wrap64 (1 + wrap64 ((IntKind.u64.wrap size).tmod 20)) ∧ wrap64 (1 + wrap64 ((IntKind.u64.wrap size).tmod 20)) ≤ 20 := by
  have h0 : 0 ≤ IntKind.u64.wrap size := by rw [IntKind.wrap_u64]; omega
  rw [Int.tmod_eq_emod_of_nonneg h0]
  generalize IntKind.u64.wrap size = u at *
  unfold wrap64
  omega
/-- whether x stands among the first j -/
def inB (S : List Int) (x : Int) (j : Nat) : Bool := decide (x ∈ S.take j)
theorem inB_zero (S : List Int) (x : Int) : inB S x 0 = false := by simp [inB]
theorem inB_succ {S : List Int} {x : Int} {j : Nat} (hj : j < S.length) : inB S x (j + 1) = (inB S x j || (S[j] == x)) := by
  unfold inB
  rw [List.take_succ_eq_append_getElem hj, Bool.eq_iff_iff]
  simp only [decide_eq_true_eq, List.mem_append, List.mem_singleton, Bool.or_eq_true, beq_iff_eq]
  constructor
  · rintro (h | h)
    · exact .inl h
    · exact .inr h.symm
  · rintro (h | h)
    · exact .inl h
    · exact .inr h.symm
theorem inB_all {S : List Int} {x : Int} {j : Nat} (h : S.length ≤ j) : inB S x j = decide (x ∈ S) := by unfold inB; rw [List.take_of_length_le h]
theorem below_drewN' {B : Nat} {a w : World} (n : Nat) (h : Below B a w) : Below B a (w.drewN n) := ⟨h.os, h.tape, h.output, h.size, h.block⟩
def LastI (w : World) (z : Int) (a : Addr) (pages : List Int) (k : Nat) (wr : World) : Prop :=
  ∃ F L, Ca wr F (.pointer (some a)) z L ∧ revK L = (dd (pages.take k).reverse).take z.toNat ∧ (∀ j, F j → w.heap.size ≤ j) ∧ Below w.heap.size w wr

set_option maxRecDepth 100000 in
set_option maxHeartbeats 2000000 in
theorem last_any (size : Int) (pv : Value) (pages : List Int) (w : World) (hp : Sl iC 1 w pv pages) (hwf : ∀ n ∈ pages, wfI n) :
    Calls Try.prog 4 #[.int .i64 size, pv] w fun e w' => e = .returned (.bool true) ∧ Below w.heap.size w w' := by
  obtain ⟨Ap, cp, rfl⟩ := Sl.len' hp
  have HP := Lib.hid hp
  have HWF := Lib.hid hwf
  clear hp hwf
  go_enter Try.func4, Try.ntmps4
  go_wp2_with fail
  refine (awake12_any _).mono ?_
  rintro e w1 ⟨rfl, hb⟩
  have HB1 := Lib.hid hb
  clear hb
  go_wp2_with fail
  obtain ⟨hz1, hz2⟩ := last_sz size
  generalize wrap64 (1 + wrap64 ((IntKind.u64.wrap size).tmod 20)) = z at *
  have hsz : szC z = z := by unfold szC; omega
  refine (ca_new z w1).mono ?_
  rintro e w2 ⟨v, F, rfl, hca, hf, hb⟩
  rw [hsz] at hca
  obtain ⟨a, rfl⟩ := hca.ptr
  have HI := Lib.hid (show LastI w z a pages 0 w2 from ⟨F, [], hca, by simp [revK, dd], fun j hj => Nat.le_trans HB1.out.size (hf j hj), HB1.out.trans (hb.mono HB1.out.size)⟩)
  clear hca hf hb hsz
  go_wp2_with fail
  go_loopw [6] (fun i wr => ∃ k : Nat, k ≤ pages.length ∧ k ≤ 300 ∧ i = .int .i64 k ∧ LastI w z a pages k wr) (fun i _ => 300 - (intOf i).toNat)
  case atStart => exact ⟨0, Nat.zero_le _, by omega, rfl, HI.out⟩
  case round =>
    obtain ⟨k, hk, hk3, rfl, hi⟩ := hrel
    clear HI
    obtain ⟨F, L, hca, hrev, hf, hb⟩ := hi
    have HCA := Lib.hid hca
    have HREV := Lib.hid hrev
    have HF := Lib.hid hf
    have HB := Lib.hid hb
    clear hca hrev hf hb
    by_cases hlt : k < pages.length ∧ k < 300
    · obtain ⟨hlt, hlt3⟩ := hlt
      rcases (HP.out.keep HB.out).cases with ⟨A, c, he, hnil⟩ | ⟨b, off, c, he, -, hbl, hsl'⟩
      · rw [hnil] at hlt; simp at hlt
      injection he with he1 he2 he3
      subst he1 he3
      obtain ⟨-, hcells⟩ := hsl'.cells hlt
      have e0 : wr.cell? ⟨b, off + k, none⟩ = some (.int .i64 pages[k]) := by
        have := hcells 0 _ rfl
        simp only [Nat.mul_one, Nat.add_zero] at this
        exact this
      have hk0 : (0 : Int) ≤ (k : Int) := by omega
      have hk1 : (k : Int) < (pages.length : Int) := by omega
      have hk2 : (k : Int) < 300 := by omega
      have HK := Lib.hid hlt
      have HWK := Lib.hid (HWF.out _ (List.getElem_mem hlt))
      clear hcells hsl'
      have hcv := run_convert_bytes_arg (P := Try.prog) (wr.alloc (.cells #[.int .u8 (IntKind.u8.wrap (k : Int))] 5)).drew 37 5 Try.underlying37 Try.underlying5 wr.heap.size 0 1 1 [IntKind.u8.wrap (k : Int)] rfl (fun i hi => by
        obtain rfl : i = 0 := by omega
        simp) 9 Try.underlying9
      generalize strOfNums [IntKind.u8.wrap (k : Int)] = r at hcv
      have HPUT := Lib.hid (fun (s : ByteArray) (d : Bool) (W : World) (hbw : Below wr.heap.size wr W) => ca_put (F := F) (v := .pointer (some a)) (size := z) (L := L) pages[k] s d W (HCA.out.below hbw) HWK.out hz1 (by omega))
      have HTK := Lib.hid (show (pages.take (k + 1)).reverse = pages[k] :: (pages.take k).reverse by rw [List.take_succ_eq_append_getElem hlt, List.reverse_append]; rfl)
      generalize pages[k] = pk at *
      go_upto_region 8 with fail
      go_cut [] from 33 to 46 (fun wc => LastI w z a pages (k + 1) wc)
      case first =>
       go_region_with (go_at_call 8; refine (HPUT.out _ _ _ (by go_grown)).mono ?_; rintro e w3 ⟨r1, F3, rfl, hca, hs, -, -, hf, hch⟩)
       all_goals
        have hfin : LastI w z a pages (k + 1) w3 := ⟨F3, _, hca, by rw [HTK.out]; exact last_put hz1 HREV.out, fun j hj => (hf j hj).elim (HF.out j) (fun h => by simp at h; have := HB.out.size; omega), HB.out.trans (((Below.refl wr.heap.size wr).alloc (Nat.le_refl _) _).drew.mono HB.out.size |>.trans (hch.below (by simp; have := HB.out.size; omega) HF.out))⟩
        clear hca hs hf hch hcv e0
        go_wp2_with fail
        go_meet
        case rel => exact hfin
      case rest =>
       obtain ⟨F2, L2, hca, hrev, hf, hb⟩ := hcut
       have HCA2 := Lib.hid hca
       have HREV2 := Lib.hid hrev
       have HF2 := Lib.hid hf
       have HB2 := Lib.hid hb
       have HXL := Lib.hid (show ((pages.take (k + 1)).reverse).length = k + 1 by rw [List.length_reverse, List.length_take]; have := HK.out; omega)
       have HXG := Lib.hid (show ∀ m, m ≤ k → ∀ (hm : m < ((pages.take (k + 1)).reverse).length) (hq : k - m < pages.length), ((pages.take (k + 1)).reverse)[m] = pages[k - m] from fun m hmk hm hq => by
         rw [List.getElem_reverse, List.getElem_take]
         congr 1
         rw [List.length_take]
         have := HK.out
         omega)
       clear hca hrev hf hb HCA HREV HF hcv e0 hbl HPUT HTK HWK
       generalize hX : (pages.take (k + 1)).reverse = X at *
       have HX := Lib.hid hX
       clear hX
       go_wp2_with fail
       have hown0 : Own iC 1 3 wc.heap.size (wc.alloc (.cells #[] 3)) (.slice (some ⟨wc.heap.size, 0, none⟩) 0 0) ([] : List Int) := World.ownsRow_lit wc #[] 0 (Nat.le_refl _) (by simp [maxLen]) (by simp)
       go_loopw [7, 8] (fun sv kv wr2 => ∃ m : Nat, m ≤ k + 1 ∧ kv = .int .i64 ((k : Int) - m) ∧ Own iC 1 3 wc.heap.size wr2 sv (dd (X.take m)) ∧ (dd (X.take m)).length ≤ z.toNat ∧ Below wc.heap.size wc wr2) (fun _ kv _ => (intOf kv + 1).toNat)
       case atStart => exact ⟨0, Nat.zero_le _, by simp, hown0, by simp [dd], (Below.refl _ _).alloc (Nat.le_refl _) _⟩
       case round =>
         obtain ⟨m, hm, rfl, hown, hle, hb⟩ := hrel
         obtain ⟨Av, cv, rfl⟩ := Sl.len' (hown.sl iC_len)
         obtain ⟨wo, hwo⟩ : ∃ wo : World, wo = wr := ⟨_, rfl⟩
         subst hwo
         have HOWN := Lib.hid hown
         have HBW := Lib.hid hb
         have HLE := Lib.hid hle
         have HM := Lib.hid hm
         clear hown hb hle
         by_cases hend : k + 1 ≤ m ∨ z.toNat ≤ (dd (X.take m)).length
         · have HEQ := Lib.hid (last_len (m := m) HREV2.out HLE.out (by rw [HXL.out]; have := HLE.out; omega))
           have hne : (((L2.length : Nat) : Int) != ((dd (X.take m)).length : Int)) = false := by rw [HEQ.out]; simp
           have HLEN := Lib.hid (ca_len wo (HCA2.out.below HBW.out))
           by_cases hq : m ≤ k
           · obtain ⟨qn, hqn⟩ : ∃ qn : Nat, (k : Int) - m = (qn : Int) := ⟨k - m, by omega⟩
             rw [hqn]
             have hd : decide (((dd (X.take m)).length : Int) < z) = false := decide_eq_false (by omega)
             clear hend hqn hm
             go_wp2_with fail
             refine HLEN.out.mono ?_
             rintro e w' ⟨rfl, rfl⟩
             go_wp2_with fail
             go_roundw
             case rel => exact ⟨k + 1, by have := HK.out; omega, by omega, by go_num, F2, L2, HCA2.out.below HBW.out, by rw [HX.out]; exact HREV2.out, HF2.out, HB2.out.trans (HBW.out.mono HB2.out.size)⟩
             case measure => simp [intOf]; omega
           · rw [show (k : Int) - m = -1 by omega]
             clear hend hm
             go_wp2_with fail
             refine HLEN.out.mono ?_
             rintro e w' ⟨rfl, rfl⟩
             go_wp2_with fail
             go_roundw
             case rel => exact ⟨k + 1, by have := HK.out; omega, by omega, by go_num, F2, L2, HCA2.out.below HBW.out, by rw [HX.out]; exact HREV2.out, HF2.out, HB2.out.trans (HBW.out.mono HB2.out.size)⟩
             case measure => simp [intOf]; omega
         · have hq : m ≤ k := by omega
           obtain ⟨qn, hqn⟩ : ∃ qn : Nat, (k : Int) - m = (qn : Int) := ⟨k - m, by omega⟩
           have hqk : qn = k - m := by omega
           have hql : qn < pages.length := by have := HK.out; omega
           have HQ := Lib.hid hqk
           have HQN := Lib.hid hqn
           rw [hqn]
           have hd : decide (((dd (X.take m)).length : Int) < z) = true := decide_eq_true (by omega)
           have HSZ := Lib.hid (show (dd (X.take m)).length < z.toNat by omega)
           have HSTEP := Lib.hid (show dd (X.take (m + 1)) = addD (dd (X.take m)) pages[qn] by
             rw [List.take_succ_eq_append_getElem (by rw [HXL.out]; omega), dd_snoc]
             congr 1
             have := HXG.out m hq (by rw [HXL.out]; omega) (by omega)
             rw [this]
             congr 1
             omega)
           rcases (HP.out.keep (HB2.out.trans (HBW.out.mono HB2.out.size))).cases with ⟨A, c, he, hnil⟩ | ⟨b', off', c, he, -, hbl, hsl'⟩
           · rw [hnil] at hql; simp at hql
           injection he with he1 he2 he3
           injection he1 with he1
           injection he1 with he4 he5 he6
           subst he4 he5
           obtain ⟨-, hcells⟩ := hsl'.cells hql
           have e0 : wo.cell? ⟨b, off + qn, none⟩ = some (.int .i64 pages[qn]) := by
             have := hcells 0 _ rfl
             simp only [Nat.mul_one, Nat.add_zero] at this
             exact this
           have hq0 : (0 : Int) ≤ (qn : Int) := by omega
           have hq1 : (qn : Int) < (pages.length : Int) := by omega
           have hqb : (qn : Int) < 300 := by omega
           have hsb : (dd (X.take m)).length ≤ 20 := by omega
           clear hcells hsl' hend hqn hqk he2 he3 he6
           generalize pages[qn] = px at *
           generalize dd (X.take m) = S at *
           have HE0 := Lib.hid e0
           have HBL := Lib.hid hbl
           clear e0
           go_wp2_with fail
           go_loopw [9, 10] (fun isv jv wr => ∃ j : Nat, j ≤ S.length ∧ jv = .int .i64 j ∧ isv = .bool (inB S px j) ∧ Below wo.heap.size wo wr) (fun _ jv _ => S.length - (intOf jv).toNat)
           case atStart => exact ⟨0, Nat.zero_le _, rfl, by rw [inB_zero], Below.refl _ _⟩
           case round =>
             obtain ⟨j, hj, rfl, rfl, hb⟩ := hrel
             have HBI := Lib.hid hb
             have e0 := (hb.cell (p := ⟨b, off + qn, none⟩) HBL.out).trans HE0.out
             have hbl' := Nat.lt_of_lt_of_le HBL.out hb.size
             clear hb
             by_cases hjl : j < S.length
             · have HI := Lib.hid (inB_succ (x := px) hjl)
               rcases ((HOWN.out.sl iC_len).keep HBI.out).cases with ⟨A, c, he, hnil⟩ | ⟨b2, off2, c, he, -, hbl2, hsl2⟩
               · rw [hnil] at hjl; simp at hjl
               injection he with he1 he2 he3
               subst he1 he3
               obtain ⟨-, hcells⟩ := hsl2.cells hjl
               have s0 : wr.cell? ⟨b2, off2 + j, none⟩ = some (.int .i64 S[j]) := by
                 have := hcells 0 _ rfl
                 simp only [Nat.mul_one, Nat.add_zero] at this
                 exact this
               have hj0 : (0 : Int) ≤ (j : Int) := by omega
               have hj1 : (j : Int) < (S.length : Int) := by omega
               clear hcells hsl2
               generalize S[j] = sj at *
               cases hin : inB S px j
               · rw [hin] at HI
                 clear hin
                 cases hsj : (sj == px)
                 all_goals
                   have HI2 := Lib.hid (HI.out.trans (by rw [hsj]))
                   go_wp2_with fail
                   go_quiet (fail)
                   go_wp2_with fail
                   go_roundw
                   case rel => exact ⟨j + 1, by omega, by go_num, by rw [HI2.out]; rfl, below_drewN' _ HBI.out⟩
                   case measure => simp [intOf]; omega
               · rw [hin] at HI
                 clear hin
                 go_wp2_with fail
                 go_quiet (fail)
                 go_wp2_with fail
                 go_roundw
                 case rel => exact ⟨j + 1, by omega, by go_num, by rw [HI.out]; rfl, below_drewN' _ HBI.out⟩
                 case measure => simp [intOf]; omega
             · rw [inB_all (by omega)]
               by_cases hin : px ∈ S
               · rw [decide_eq_true hin]
                 have HST := Lib.hid (HSTEP.out.trans (by unfold addD; rw [if_pos hin]))
                 clear hin
                 go_wp2_with fail
                 go_roundw
                 case rel => exact ⟨m + 1, by omega, by have := HQN.out; congr 1; omega, by rw [HST.out]; exact HOWN.out.below HBI.out, by rw [HST.out]; exact HLE.out, HBW.out.trans (HBI.out.mono HBW.out.size)⟩
                 case measure => simp [intOf]
               · rw [decide_eq_false hin]
                 have HST := Lib.hid (HSTEP.out.trans (by unfold addD; rw [if_neg hin]))
                 have HO := Lib.hid (HOWN.out.below HBI.out)
                 have HBJ := Lib.hid (HBW.out.trans (HBI.out.mono HBW.out.size))
                 clear hin
                 go_wp2_with (at_builtin; refine Hid.out ?_)
                 refine Lib.hid ?_
                 refine wpList_append_sl rfl rfl elInt rfl rfl (HO.out.alloc _) (Sl.one (px : Int) (by simp) iC_len rfl) (by have := HSZ.out; simp [maxLen]; omega) (by have := HSZ.out; simp; omega) (by have := HBJ.out.size; simp; omega) ?_
                 intro v2' w6 ho2 hg2 hat2
                 have HO6 := Lib.hid ho2
                 have HB6 := Lib.hid (below_app (HBJ.out.alloc HBJ.out.size _) hg2 (by have := HBJ.out.size; simp; omega) (fun k hk => (HO.out.lt k hk).1))
                 clear ho2 hg2 hat2
                 go_wp2_with fail
                 go_roundw
                 case rel => exact ⟨m + 1, by omega, by have := HQN.out; congr 1; omega, by rw [HST.out]; exact HO6.out, by rw [HST.out, List.length_append, List.length_singleton]; exact HSZ.out, HB6.out⟩
                 case measure => simp [intOf]
    · have HFB := HB
      clear HCA HREV HF
      by_cases hl : k < pages.length
      all_goals
        go_wp2_with fail
        refine (get_nil 1 wr).mono ?_
        rintro e w' ⟨rfl, rfl⟩
        go_wp2_with fail
        refine (put_nil _ _ _ _).mono ?_
        rintro e w' ⟨rfl, rfl⟩
        go_wp2_with fail
        refine (len_nil _).mono ?_
        rintro e w' ⟨rfl, rfl⟩
        go_wp2_with fail
        refine (dirty_nil _).mono ?_
        rintro e w' ⟨rfl, rfl⟩
        go_wp2_with fail
        go_ret
        exact ⟨rfl, HFB.out⟩
end Go.Proofs.Ytjjiclbngoldaaa
