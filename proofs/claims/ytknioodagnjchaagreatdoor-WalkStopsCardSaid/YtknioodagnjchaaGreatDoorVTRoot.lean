/- tree.root. -/
import Derived.Test.YtknioodagnjchaaGreatDoorVTAltD
set_option maxRecDepth 100000
set_option maxHeartbeats 8000000
namespace Go.Proofs.YtknioodagnjchaaGreatDoor
open Go.RowKit
theorem topT_fits {at_:Int} {n:Nd} (h:fitsN n=true):topT at_ n=writeT at_ n:=by unfold topT;rw [if_pos h]
theorem topT_not {at_:Int} {n:Nd} (h:fitsN n=false) (s:Sf):(topT at_ n).run s=if newE s=0 then ((partT ⟨false,[],[],[newN s]⟩ 0 n).bind fun t=>writeT at_ t).run (newSt s) else (newSt s,.err (newE s)):=by
 unfold topT;rw [h];rfl
theorem rootT_no {f:Nat} {at_:Int} {n:Nd} (h:n.leaf=true∨n.keys≠[]):rootT f at_ n=topT at_ n:=by
 cases f with
 | zero=>rfl
 | succ f=>
   unfold rootT
   rw [if_neg]
   rcases h with h | h
   ·rw [h];simp
   ·cases hk:n.keys with
    | nil=>exact absurd hk h
    | cons a l=>simp
theorem rootT_yes {f:Nat} {at_:Int} {n:Nd} (h:n.leaf=false) (h2:n.keys=[]):rootT (f+1) at_ n=(readT (n.kids.getD 0 0)).bind fun c=>.free (n.kids.getD 0 0) fun _=>rootT f at_ c:=by
 show (if _ then _ else _)=_
 rw [if_pos (by rw [h,h2];rfl)]
theorem top_all {o:Int} {c:Nd} {m:Nat} (hc:c.Sm m):(partT ⟨false,[],[],[o]⟩ 0 c).All (Nd.Sm 231):=fun a=>Pro.All.bind _ _ fun _=>Pro.All.bind _ _ fun _=>by
 show Nd.Sm 231 _
 exact ⟨by simp,by simp,by simp,fun k hk=>by simp at hk;subst hk;exact parts_key hc,by simp⟩
theorem root_any (at_:Int) (n:Nd) (B gs gm:Nat) (s:Sf) (v:Value) (w:World) (hS:ShIs w gs gm s) (hN:NdF B w v n) (hf:n.Fit) (hs:n.Sm 400) (h1:gs<B) (h2:gm<B) (h3:B≤w.heap.size):
  Calls Tryz.prog 122 #[shV gs,.int .i64 at_,v] w fun e w'=>e=.returned (errV ((rootT 1 at_ n).run s).2)∧ShIs w' gs gm ((rootT 1 at_ n).run s).1∧Ch (fun k=>k=gs∨k=gm) w w':=by
 obtain ⟨vk,vc,vd,rfl,j1,j2,j3⟩:=hN
 obtain ⟨A1,c1,rfl,-,-⟩:=j1.cap
 obtain ⟨A2,c2,rfl,-,-⟩:=j2.cap
 obtain ⟨A3,c3,rfl,-,-⟩:=j3.cap
 have HB:=Lib.hid (show Below w.heap.size w (w.alloc (ndB n (.slice A1 n.keys.length c1) (.slice A2 n.cells.length c2) (.slice A3 n.kids.length c3))) from (Below.refl _ w).alloc (Nat.le_refl _) _)
 have HX:=Lib.hid (blk_new (w0:=w) (g:=w.heap.size) (o:=ndB n (.slice A1 n.keys.length c1) (.slice A2 n.cells.length c2) (.slice A3 n.kids.length c3)) rfl)
 have HJ1:=Lib.hid (j1.keep HB.out)
 have HJ2:=Lib.hid (j2.keep HB.out)
 have HJ3:=Lib.hid (j3.keep HB.out)
 have HS1:=Lib.hid (hS.ch (S:=fun _=>False) (Ch.of_below HB.out) id id)
 have HC1:=Lib.hid (Ch.of_below (S:=fun k=>k=gs∨k=gm) HB.out)
 have HSM:=Lib.hid hs
 have hsk:=hs.k
 clear j1 j2 j3 hS hs
 unfold shV
 go_enter Tryz.func122,Tryz.ntmps122
 go_upto_region 1 with fail
 generalize hw1:w.alloc (.cells #[.bool n.leaf,.slice A1 n.keys.length c1,.slice A2 n.cells.length c2,.slice A3 n.kids.length c3] 110)=w1 at *
 have hw2:w.alloc (ndB n (.slice A1 n.keys.length c1) (.slice A2 n.cells.length c2) (.slice A3 n.kids.length c3))=w1:=hw1
 rw [hw2] at HB HX HJ1 HJ2 HJ3 HS1 HC1
 clear hw1 hw2
 have hgs:=blk_lt HS1.out.blk
 have hw01:w.heap.size<w1.heap.size:=blk_lt HX.out
 obtain ⟨a0,a1,a2,a3,a4⟩:=nd_cells HX.out
 refine wp_loop_rounds 2 ?_
 rw [rounds_succ]
 have HNB:=Lib.hid (show NdF B w1 (.agg #[.bool n.leaf,.slice A1 n.keys.length c1,.slice A2 n.cells.length c2,.slice A3 n.kids.length c3]) n from ⟨_,_,_,rfl,HJ1.out,HJ2.out,HJ3.out⟩)
 by_cases hst:n.leaf=true∨n.keys≠[]
 ·have HT0:=Lib.hid (show (rootT 1 at_ n).run s=(topT at_ n).run s by rw [rootT_no hst])
  cases hlf:n.leaf
  ·have hke:n.keys≠[]:=by
    rcases hst with h | h
    ·rw [hlf] at h;cases h
    ·exact h
   have hk0:((n.keys.length:Int) == 0)=false:=by
    have:=List.length_pos_iff.2 hke
    simp;omega
   have HL:=Lib.hid hlf
   rw [hlf] at a0
   clear hlf hst hke
   have HTP:=Lib.hid (show (rootT 1 at_ n).run s=(topT at_ n).run s from HT0.out)
   have HNV:=Lib.hid (show NdF B w1 (.agg #[.bool (n).leaf,(.slice A1 n.keys.length c1),(.slice A2 n.cells.length c2),(.slice A3 n.kids.length c3)]) n from HNB.out)
   have HFI:=Lib.hid (fits_any n _ w1 HNV.out.val (HSM.out.bd (by decide)))
   rw [HL.out] at HFI
   go_wp2_with fail
   refine HFI.out.mono ?_
   rintro e w4 ⟨rfl,hb⟩
   have HB4:=Lib.hid (blk_keep HX.out hb)
   have HN4:=Lib.hid (HNV.out.keep hb)
   have HS4:=Lib.hid (HS1.out.ch (S:=fun _=>False) (Ch.of_below hb) id id)
   have HC4:=Lib.hid (HC1.out.trans (Ch.of_below hb))
   have hsz4:=HC4.out.size
   clear hb a0 a1 a2 a3 a4 HFI
   obtain ⟨n0,n1,n2,n3,n4⟩:=nd_cells HB4.out
   rw [HL.out] at n0
   cases hft:fitsN n
   ·have HNW:=Lib.hid (show (topT at_ n).run s=_ from topT_not hft s)
    have HR:=Lib.hid (HTP.out.trans HNW.out)
    clear hft
    go_wp2_with fail
    refine (sNew_any gs gm s w4 HS4.out).mono ?_
    rintro e w5 ⟨rfl,hs,hc⟩
    have HS5:=Lib.hid hs
    have HB5:=Lib.hid (hc.keep HB4.out (by omega))
    have HN5:=Lib.hid (HN4.out.ch hc (fun k hk e=>by omega))
    have HC5:=Lib.hid (HC4.out.trans hc)
    have hsz5:=hc.size
    clear hs hc n0 n1 n2 n3 n4 HNW
    by_cases hne:newE s=0
    ·have HR2:=Lib.hid (HR.out.trans (if_pos hne))
     rw [hne]
     generalize newN s=only at *
     generalize newSt s=s5 at *
     have HBW:=Lib.hid (show Below w5.heap.size w5 ((w5.alloc (.cells #[.int .i64 only] 3)).alloc (ndB ⟨false,[],[],[only]⟩ (.slice none 0 0) (.slice none 0 0) (.slice (some ⟨w5.heap.size,0,none⟩) 1 1))) from ((Below.refl _ w5).alloc (Nat.le_refl _) _).alloc (by simp) _)
     have HT6:=Lib.hid (show ((w5.alloc (.cells #[.int .i64 only] 3)).alloc (ndB ⟨false,[],[],[only]⟩ (.slice none 0 0) (.slice none 0 0) (.slice (some ⟨w5.heap.size,0,none⟩) 1 1))).heap[w5.heap.size+1]?=some (ndB ⟨false,[],[],[only]⟩ (.slice none 0 0) (.slice none 0 0) (.slice (some ⟨w5.heap.size,0,none⟩) 1 1)) from blk_new (by simp))
     have HSL:=Lib.hid ((show Sl iC 1 (w5.alloc (.cells #[.int .i64 only] 3)) (.slice (some ⟨w5.heap.size,0,none⟩) 1 1) [only] from Sl.one only rfl (fun _=>rfl) rfl).keep ((Below.refl _ (w5.alloc (.cells #[.int .i64 only] 3))).alloc (Nat.le_refl _) (ndB ⟨false,[],[],[only]⟩ (.slice none 0 0) (.slice none 0 0) (.slice (some ⟨w5.heap.size,0,none⟩) 1 1))))
     go_upto_region 16 with fail
     generalize hw1:(w5.alloc (.cells #[.int .i64 only] 3)).alloc (.cells #[.bool false,.slice none 0 0,.slice none 0 0,.slice (some ⟨w5.heap.size,0,none⟩) 1 1] 110)=w6 at *
     have hw2:(w5.alloc (.cells #[.int .i64 only] 3)).alloc (ndB ⟨false,[],[],[only]⟩ (.slice none 0 0) (.slice none 0 0) (.slice (some ⟨w5.heap.size,0,none⟩) 1 1))=w6:=hw1
     rw [hw2] at HBW HT6 HSL
     clear hw1 hw2
     have HB6:=Lib.hid (blk_keep HB5.out HBW.out)
     have HN6:=Lib.hid (HN5.out.keep HBW.out)
     have HS6:=Lib.hid (HS5.out.ch (S:=fun _=>False) (Ch.of_below HBW.out) id id)
     have HC6:=Lib.hid (HC5.out.trans (Ch.of_below HBW.out))
     have HTN:=Lib.hid (show PN B (w5.heap.size+1) ⟨false,[],[],[only]⟩ w6 from PN.mk' HT6.out SlF.nil SlF.nil ⟨HSL.out,⟨_,1,rfl,by simp,by decide⟩,fun k hk=>by have hk:some w5.heap.size=some k:=hk;injection hk with hk;omega⟩
      (fun k hk=>by cases hk) (fun k hk=>by cases hk) (fun k hk e=>by have hk:some w5.heap.size=some k:=hk;injection hk with hk;omega))
     have HPT:=Lib.hid (part_any ⟨false,[],[],[only]⟩ n 0 B gs gm (w5.heap.size+1) s5 _ w6 HS6.out HTN.out HN6.out h1 h2 (by omega) hf (HSM.out.mono (by decide)) ⟨by simp,by simp,by simp,by simp,by simp⟩ (by simp) (by simp))
     have HTA:=Lib.hid (top_all (o:=only) HSM.out)
     rw [HL.out] at HPT
     unfold shV at HPT
     obtain ⟨n0,n1,n2,n3,n4⟩:=nd_cells HB6.out
     rw [HL.out] at n0
     go_wp2_with fail
     refine HPT.out.mono ?_
     rintro e w7 ⟨hp,hs,hc⟩
     have HS7:=Lib.hid hs
     have HC7:=Lib.hid (show Ch (fun k=>k=gs∨k=gm) w w7 from HC6.out.then hc (fun i hi=>by rcases hi with e | e | e;exact .inl (.inl e);exact .inl (.inr e);exact .inr (by omega)))
     clear hs hc n0 n1 n2 n3 n4 HPT
     have hnz:=Pro.NZ.run (partT ⟨false,[],[],[only]⟩ 0 n) s5
     obtain ⟨⟨s7,a⟩,hx⟩:∃ x,(partT ⟨false,[],[],[only]⟩ 0 n).run s5=x:=⟨_,rfl⟩
     rw [hx] at HS7 hp hnz
     have HX7:=Lib.hid hx
     clear hx
     rcases a with tt | x
     ·obtain ⟨rfl,hpn⟩:=hp
      have HTS:=Lib.hid (Pro.All.run _ _ _ _ HTA.out HX7.out)
      have HRW:=Lib.hid (HR2.out.trans (run_bind_ok HX7.out))
      obtain ⟨L1,e1,L2,e2,L3,e3,hb,hnf⟩:=hpn.any
      obtain ⟨n0,n1,n2,n3,n4⟩:=nd_cells hb
      have HWR:=Lib.hid (twrite_any at_ tt _ gs gm s7 w7 HS7.out hnf.val (HTS.out.bd (by decide)))
      unfold shV at HWR
      clear hb hnf hpn hnz
      go_wp2_with fail
      refine HWR.out.mono ?_
      rintro e w8 ⟨rfl,hs,hc⟩
      have HS8:=Lib.hid hs
      have HC8:=Lib.hid (HC7.out.trans hc)
      clear hs hc n0 n1 n2 n3 n4 HWR
      go_wp2_with fail
      go_ret
      rw [HRW.out]
      exact ⟨rfl,HS8.out,HC8.out⟩
     ·obtain ⟨rfl,-⟩:=hp
      have hx0:¬ x=0:=hnz x (partT_nz _ _ _) rfl
      have hx1:(x == 0)=false:=by simpa using hx0
      have HRW:=Lib.hid (HR2.out.trans (run_bind_err HX7.out))
      go_wp2_with fail
      go_ret
      rw [HRW.out]
      exact ⟨rfl,HS7.out,HC7.out⟩
    ·have HW:=Lib.hid (HR.out.trans (if_neg hne))
     generalize newE s=ne at *
     have hne2:(ne == 0)=false:=by simpa using hne
     go_wp2_with fail
     go_ret
     rw [HW.out]
     exact ⟨rfl,HS5.out,HC5.out⟩
   ·have HR:=Lib.hid (HTP.out.trans (show (topT at_ n).run s=(writeT at_ n).run s by rw [topT_fits hft]))
    have HWR:=Lib.hid (twrite_any at_ n _ gs gm s w4 HS4.out HN4.out.val (HSM.out.bd (by decide)))
    unfold shV at HWR
    rw [HL.out] at HWR
    go_wp2_with fail
    refine HWR.out.mono ?_
    rintro e w5 ⟨rfl,hs,hc⟩
    have HS5:=Lib.hid hs
    have HC5:=Lib.hid (HC4.out.trans hc)
    clear hs hc n0 n1 n2 n3 n4 HWR
    go_wp2_with fail
    go_ret
    rw [HR.out]
    exact ⟨rfl,HS5.out,HC5.out⟩
  ·have HL:=Lib.hid hlf
   rw [hlf] at a0
   clear hlf hst
   have HTP:=Lib.hid (show (rootT 1 at_ n).run s=(topT at_ n).run s from HT0.out)
   have HNV:=Lib.hid (show NdF B w1 (.agg #[.bool (n).leaf,(.slice A1 n.keys.length c1),(.slice A2 n.cells.length c2),(.slice A3 n.kids.length c3)]) n from HNB.out)
   have HFI:=Lib.hid (fits_any n _ w1 HNV.out.val (HSM.out.bd (by decide)))
   rw [HL.out] at HFI
   go_wp2_with fail
   refine HFI.out.mono ?_
   rintro e w4 ⟨rfl,hb⟩
   have HB4:=Lib.hid (blk_keep HX.out hb)
   have HN4:=Lib.hid (HNV.out.keep hb)
   have HS4:=Lib.hid (HS1.out.ch (S:=fun _=>False) (Ch.of_below hb) id id)
   have HC4:=Lib.hid (HC1.out.trans (Ch.of_below hb))
   have hsz4:=HC4.out.size
   clear hb a0 a1 a2 a3 a4 HFI
   obtain ⟨n0,n1,n2,n3,n4⟩:=nd_cells HB4.out
   rw [HL.out] at n0
   cases hft:fitsN n
   ·have HNW:=Lib.hid (show (topT at_ n).run s=_ from topT_not hft s)
    have HR:=Lib.hid (HTP.out.trans HNW.out)
    clear hft
    go_wp2_with fail
    refine (sNew_any gs gm s w4 HS4.out).mono ?_
    rintro e w5 ⟨rfl,hs,hc⟩
    have HS5:=Lib.hid hs
    have HB5:=Lib.hid (hc.keep HB4.out (by omega))
    have HN5:=Lib.hid (HN4.out.ch hc (fun k hk e=>by omega))
    have HC5:=Lib.hid (HC4.out.trans hc)
    have hsz5:=hc.size
    clear hs hc n0 n1 n2 n3 n4 HNW
    by_cases hne:newE s=0
    ·have HR2:=Lib.hid (HR.out.trans (if_pos hne))
     rw [hne]
     generalize newN s=only at *
     generalize newSt s=s5 at *
     have HBW:=Lib.hid (show Below w5.heap.size w5 ((w5.alloc (.cells #[.int .i64 only] 3)).alloc (ndB ⟨false,[],[],[only]⟩ (.slice none 0 0) (.slice none 0 0) (.slice (some ⟨w5.heap.size,0,none⟩) 1 1))) from ((Below.refl _ w5).alloc (Nat.le_refl _) _).alloc (by simp) _)
     have HT6:=Lib.hid (show ((w5.alloc (.cells #[.int .i64 only] 3)).alloc (ndB ⟨false,[],[],[only]⟩ (.slice none 0 0) (.slice none 0 0) (.slice (some ⟨w5.heap.size,0,none⟩) 1 1))).heap[w5.heap.size+1]?=some (ndB ⟨false,[],[],[only]⟩ (.slice none 0 0) (.slice none 0 0) (.slice (some ⟨w5.heap.size,0,none⟩) 1 1)) from blk_new (by simp))
     have HSL:=Lib.hid ((show Sl iC 1 (w5.alloc (.cells #[.int .i64 only] 3)) (.slice (some ⟨w5.heap.size,0,none⟩) 1 1) [only] from Sl.one only rfl (fun _=>rfl) rfl).keep ((Below.refl _ (w5.alloc (.cells #[.int .i64 only] 3))).alloc (Nat.le_refl _) (ndB ⟨false,[],[],[only]⟩ (.slice none 0 0) (.slice none 0 0) (.slice (some ⟨w5.heap.size,0,none⟩) 1 1))))
     go_upto_region 16 with fail
     generalize hw1:(w5.alloc (.cells #[.int .i64 only] 3)).alloc (.cells #[.bool false,.slice none 0 0,.slice none 0 0,.slice (some ⟨w5.heap.size,0,none⟩) 1 1] 110)=w6 at *
     have hw2:(w5.alloc (.cells #[.int .i64 only] 3)).alloc (ndB ⟨false,[],[],[only]⟩ (.slice none 0 0) (.slice none 0 0) (.slice (some ⟨w5.heap.size,0,none⟩) 1 1))=w6:=hw1
     rw [hw2] at HBW HT6 HSL
     clear hw1 hw2
     have HB6:=Lib.hid (blk_keep HB5.out HBW.out)
     have HN6:=Lib.hid (HN5.out.keep HBW.out)
     have HS6:=Lib.hid (HS5.out.ch (S:=fun _=>False) (Ch.of_below HBW.out) id id)
     have HC6:=Lib.hid (HC5.out.trans (Ch.of_below HBW.out))
     have HTN:=Lib.hid (show PN B (w5.heap.size+1) ⟨false,[],[],[only]⟩ w6 from PN.mk' HT6.out SlF.nil SlF.nil ⟨HSL.out,⟨_,1,rfl,by simp,by decide⟩,fun k hk=>by have hk:some w5.heap.size=some k:=hk;injection hk with hk;omega⟩
      (fun k hk=>by cases hk) (fun k hk=>by cases hk) (fun k hk e=>by have hk:some w5.heap.size=some k:=hk;injection hk with hk;omega))
     have HPT:=Lib.hid (part_any ⟨false,[],[],[only]⟩ n 0 B gs gm (w5.heap.size+1) s5 _ w6 HS6.out HTN.out HN6.out h1 h2 (by omega) hf (HSM.out.mono (by decide)) ⟨by simp,by simp,by simp,by simp,by simp⟩ (by simp) (by simp))
     have HTA:=Lib.hid (top_all (o:=only) HSM.out)
     rw [HL.out] at HPT
     unfold shV at HPT
     obtain ⟨n0,n1,n2,n3,n4⟩:=nd_cells HB6.out
     rw [HL.out] at n0
     go_wp2_with fail
     refine HPT.out.mono ?_
     rintro e w7 ⟨hp,hs,hc⟩
     have HS7:=Lib.hid hs
     have HC7:=Lib.hid (show Ch (fun k=>k=gs∨k=gm) w w7 from HC6.out.then hc (fun i hi=>by rcases hi with e | e | e;exact .inl (.inl e);exact .inl (.inr e);exact .inr (by omega)))
     clear hs hc n0 n1 n2 n3 n4 HPT
     have hnz:=Pro.NZ.run (partT ⟨false,[],[],[only]⟩ 0 n) s5
     obtain ⟨⟨s7,a⟩,hx⟩:∃ x,(partT ⟨false,[],[],[only]⟩ 0 n).run s5=x:=⟨_,rfl⟩
     rw [hx] at HS7 hp hnz
     have HX7:=Lib.hid hx
     clear hx
     rcases a with tt | x
     ·obtain ⟨rfl,hpn⟩:=hp
      have HTS:=Lib.hid (Pro.All.run _ _ _ _ HTA.out HX7.out)
      have HRW:=Lib.hid (HR2.out.trans (run_bind_ok HX7.out))
      obtain ⟨L1,e1,L2,e2,L3,e3,hb,hnf⟩:=hpn.any
      obtain ⟨n0,n1,n2,n3,n4⟩:=nd_cells hb
      have HWR:=Lib.hid (twrite_any at_ tt _ gs gm s7 w7 HS7.out hnf.val (HTS.out.bd (by decide)))
      unfold shV at HWR
      clear hb hnf hpn hnz
      go_wp2_with fail
      refine HWR.out.mono ?_
      rintro e w8 ⟨rfl,hs,hc⟩
      have HS8:=Lib.hid hs
      have HC8:=Lib.hid (HC7.out.trans hc)
      clear hs hc n0 n1 n2 n3 n4 HWR
      go_wp2_with fail
      go_ret
      rw [HRW.out]
      exact ⟨rfl,HS8.out,HC8.out⟩
     ·obtain ⟨rfl,-⟩:=hp
      have hx0:¬ x=0:=hnz x (partT_nz _ _ _) rfl
      have hx1:(x == 0)=false:=by simpa using hx0
      have HRW:=Lib.hid (HR2.out.trans (run_bind_err HX7.out))
      go_wp2_with fail
      go_ret
      rw [HRW.out]
      exact ⟨rfl,HS7.out,HC7.out⟩
    ·have HW:=Lib.hid (HR.out.trans (if_neg hne))
     generalize newE s=ne at *
     have hne2:(ne == 0)=false:=by simpa using hne
     go_wp2_with fail
     go_ret
     rw [HW.out]
     exact ⟨rfl,HS5.out,HC5.out⟩
   ·have HR:=Lib.hid (HTP.out.trans (show (topT at_ n).run s=(writeT at_ n).run s by rw [topT_fits hft]))
    have HWR:=Lib.hid (twrite_any at_ n _ gs gm s w4 HS4.out HN4.out.val (HSM.out.bd (by decide)))
    unfold shV at HWR
    rw [HL.out] at HWR
    go_wp2_with fail
    refine HWR.out.mono ?_
    rintro e w5 ⟨rfl,hs,hc⟩
    have HS5:=Lib.hid hs
    have HC5:=Lib.hid (HC4.out.trans hc)
    clear hs hc n0 n1 n2 n3 n4 HWR
    go_wp2_with fail
    go_ret
    rw [HR.out]
    exact ⟨rfl,HS5.out,HC5.out⟩
 ·have hlf:n.leaf=false:=by
   cases h:n.leaf
   ·rfl
   ·exact absurd (.inl h) hst
  have hke:n.keys=[]:=by
   cases h:n.keys with
   | nil=>rfl
   | cons a l=>exact absurd (.inr (by rw [h];simp)) hst
  have hkl:0<n.kids.length:=by
   have:=(hf.d hlf).1
   omega
  obtain ⟨kd,hkd⟩:∃ x,n.kids[0]=x:=⟨_,rfl⟩
  have HRT:=Lib.hid (show (rootT 1 at_ n).run s=((readT kd).bind fun c=>.free kd fun _=>rootT 0 at_ c).run s by
   rw [rootT_yes hlf hke,List.getD_eq_getElem?_getD,List.getElem?_eq_getElem hkl,hkd];rfl)
  have hk0:((n.keys.length:Int) == 0)=true:=by rw [hke];rfl
  obtain ⟨b,off,c',he,hbl,hcells⟩:=HJ3.out.sl.at1 hkl
  injection he with he1 he2 he3
  subst he1 he3
  have e0:w1.cell? ⟨b,off,none⟩=some (.int .i64 kd):=by rw [← hkd];simpa [iC] using hcells 0 _ rfl
  have hki:(0:Int)<(n.kids.length:Int):=by omega
  rw [hlf] at a0
  clear hst hke hlf hkd hcells he2
  go_wp2_with fail
  have HRD:=Lib.hid (tread_any kd gs gm s w1 HS1.out)
  unfold shV at HRD
  refine HRD.out.mono ?_
  rintro e w2 ⟨hp,hs,hc⟩
  have hrz:=readT_run_nz (a:=kd) (s:=s)
  obtain ⟨⟨s2,a⟩,hx⟩:∃ x,(readT kd).run s=x:=⟨_,rfl⟩
  rw [hx] at hp hs hrz
  have HS2:=Lib.hid hs
  have HX2:=Lib.hid (hc.keep HX.out (by omega))
  have HC2:=Lib.hid (HC1.out.trans hc)
  have hsz2:=hc.size
  have HRX:=Lib.hid hx
  clear hs hc hx a0 a1 a2 a3 a4 e0 HRD
  cases a with
  | err x=>
    obtain rfl:=hp
    have hx0:¬ x=0:=hrz x rfl
    have hx1:(x == 0)=false:=by simpa using hx0
    have HW:=Lib.hid (HRT.out.trans (run_bind_err HRX.out))
    have HS3:=Lib.hid (HS2.out.ch (S:=fun _=>False) (Ch.alloc (Ch.refl _ w2) (ndB Nd.zero (.slice none 0 0) (.slice none 0 0) (.slice none 0 0))) id id)
    have HC3:=Lib.hid (Ch.alloc HC2.out (ndB Nd.zero (.slice none 0 0) (.slice none 0 0) (.slice none 0 0)))
    simp only [ndZ]
    go_wp2_with fail
    go_ret
    rw [HW.out]
    exact ⟨rfl,HS3.out,HC3.out⟩
  | ok c=>
    obtain ⟨v,rfl,vk,vc,vd,rfl,y1,y2,y3,y4⟩:=hp
    obtain ⟨hg2,hsm2⟩:=ans_read HRX.out
    have HGD:=Lib.hid hg2
    have HFC:=Lib.hid (good_fit hg2)
    have HSC:=Lib.hid (hsm2.mono (show 229≤400 by decide))
    have HRV:=Lib.hid (HRT.out.trans (run_bind_ok HRX.out))
    obtain ⟨L1,e1,rfl⟩:=y1.form
    obtain ⟨L2,e2,rfl⟩:=y2.form
    obtain ⟨L3,e3,rfl⟩:=y3.form
    have HCN:=Lib.hid (show NdF w1.heap.size w2 (.agg #[.bool c.leaf,.slice L1 c.keys.length e1,.slice L2 c.cells.length e2,.slice L3 c.kids.length e3]) c from ⟨_,_,_,rfl,y1.slf sC_len,y2.slf cC_len,y3.slf iC_len⟩)
    have hck:=hsm2.k
    clear y1 y2 y3 y4 hg2 hsm2
    have HBA:=Lib.hid (show Below w2.heap.size w2 (w2.alloc (ndB c (.slice L1 c.keys.length e1) (.slice L2 c.cells.length e2) (.slice L3 c.kids.length e3))) from (Below.refl _ w2).alloc (Nat.le_refl _) _)
    have HC8:=Lib.hid (blk_new (w0:=w2) (g:=w2.heap.size) (o:=ndB c (.slice L1 c.keys.length e1) (.slice L2 c.cells.length e2) (.slice L3 c.kids.length e3)) rfl)
    go_upto_region 4 with fail
    generalize hw1:w2.alloc (.cells #[.bool c.leaf,.slice L1 c.keys.length e1,.slice L2 c.cells.length e2,.slice L3 c.kids.length e3] 110)=w3 at *
    have hw2:w2.alloc (ndB c (.slice L1 c.keys.length e1) (.slice L2 c.cells.length e2) (.slice L3 c.kids.length e3))=w3:=hw1
    rw [hw2] at HBA HC8
    clear hw1 hw2
    have HX3:=Lib.hid (blk_keep HX2.out HBA.out)
    have HS3:=Lib.hid (HS2.out.ch (S:=fun _=>False) (Ch.of_below HBA.out) id id)
    have HC3:=Lib.hid (HC2.out.trans (Ch.of_below HBA.out))
    have HCN3:=Lib.hid (HCN.out.keep HBA.out)
    have hsz3:=HBA.out.size
    go_wp2_with fail
    refine (sFree_any gs gm s2 kd w3 HS3.out).mono ?_
    rintro e w4 ⟨rfl,hs,hc⟩
    have HS4:=Lib.hid hs
    have HX4:=Lib.hid (hc.keep HX3.out (by omega))
    have HC84:=Lib.hid (hc.keep HC8.out (by omega))
    have HC4:=Lib.hid (HC3.out.trans hc)
    have HCN4:=Lib.hid (HCN3.out.ch hc (fun k hk e=>by omega))
    have hsz4:=hc.size
    clear hs hc
    have HRF:=Lib.hid (HRV.out.trans (freeE_eq kd _ s2))
    by_cases hfe:freeE s2 kd=0
    ·have HW0:=Lib.hid (HRF.out.trans (if_pos hfe))
     rw [hfe]
     obtain ⟨a0,a1,a2,a3,a4⟩:=nd_cells HX4.out
     have fa:=blk_frozen HX4.out
     obtain ⟨p0,p1,p2,p3,p4⟩:=nd_cells HC84.out
     have hc5:=set4_ch w4 w.heap.size (.bool c.leaf) (.slice L1 c.keys.length e1) (.slice L2 c.cells.length e2) (.slice L3 c.kids.length e3)
     have hx5:=set4 HX4.out c.leaf (.slice L1 c.keys.length e1) (.slice L2 c.cells.length e2) (.slice L3 c.kids.length e3)
     go_wp2_with fail
     rw [rounds_succ]
     generalize (((w4.setCell ⟨w.heap.size,0,none⟩ (.bool c.leaf)).setCell ⟨w.heap.size,1,none⟩ (.slice L1 c.keys.length e1)).setCell ⟨w.heap.size,2,none⟩ (.slice L2 c.cells.length e2)).setCell ⟨w.heap.size,3,none⟩ (.slice L3 c.kids.length e3)=w5 at *
     have HX5:=Lib.hid (show w5.heap[w.heap.size]?=some (ndB c (.slice L1 c.keys.length e1) (.slice L2 c.cells.length e2) (.slice L3 c.kids.length e3)) from hx5)
     have HS5:=Lib.hid (HS4.out.ch hc5 (by omega) (by omega))
     have HC5:=Lib.hid (HC4.out.then hc5 (fun i hi=>.inr (by omega)))
     have HCN5:=Lib.hid ((HCN4.out.ch hc5 (fun k hk e=>by omega)).mono (show B≤w1.heap.size by omega))
     have HT0:=Lib.hid (show (rootT 1 at_ n).run s=(topT at_ c).run (freeS s2 kd) from HW0.out)
     have HSMC:=Lib.hid (HSC.out.mono (show 400≤400 by decide))
     clear a0 a1 a2 a3 a4 fa p0 p1 p2 p3 p4 hx5 hc5
     generalize freeS s2 kd=s5' at *
     obtain ⟨a0,a1,a2,a3,a4⟩:=nd_cells HX5.out
     cases hcl:c.leaf
     ·have hke:c.keys≠[]:=(goodN_inner HGD.out hcl).2.1
      have hk0:((c.keys.length:Int) == 0)=false:=by
       have:=List.length_pos_iff.2 hke
       simp;omega
      have HL:=Lib.hid hcl
      rw [hcl] at a0
      clear hcl hke
      have HTP:=Lib.hid (show (rootT 1 at_ n).run s=(topT at_ c).run s5' from HT0.out)
      have HNV:=Lib.hid (show NdF B w5 (.agg #[.bool (c).leaf,(.slice L1 c.keys.length e1),(.slice L2 c.cells.length e2),(.slice L3 c.kids.length e3)]) c from HCN5.out)
      have HFI:=Lib.hid (fits_any c _ w5 HNV.out.val (HSMC.out.bd (by decide)))
      rw [HL.out] at HFI
      go_wp2_with fail
      refine HFI.out.mono ?_
      rintro e w4 ⟨rfl,hb⟩
      have HB4:=Lib.hid (blk_keep HX5.out hb)
      have HN4:=Lib.hid (HNV.out.keep hb)
      have HS4:=Lib.hid (HS5.out.ch (S:=fun _=>False) (Ch.of_below hb) id id)
      have HC4:=Lib.hid (HC5.out.trans (Ch.of_below hb))
      have hsz4:=HC4.out.size
      clear hb a0 a1 a2 a3 a4 HFI
      obtain ⟨n0,n1,n2,n3,n4⟩:=nd_cells HB4.out
      rw [HL.out] at n0
      cases hft:fitsN c
      ·have HNW:=Lib.hid (show (topT at_ c).run s5'=_ from topT_not hft s5')
       have HR:=Lib.hid (HTP.out.trans HNW.out)
       clear hft
       go_wp2_with fail
       refine (sNew_any gs gm s5' w4 HS4.out).mono ?_
       rintro e w5 ⟨rfl,hs,hc⟩
       have HS5:=Lib.hid hs
       have HB5:=Lib.hid (hc.keep HB4.out (by omega))
       have HN5:=Lib.hid (HN4.out.ch hc (fun k hk e=>by omega))
       have HC5:=Lib.hid (HC4.out.trans hc)
       have hsz5:=hc.size
       clear hs hc n0 n1 n2 n3 n4 HNW
       by_cases hne:newE s5'=0
       ·have HR2:=Lib.hid (HR.out.trans (if_pos hne))
        rw [hne]
        generalize newN s5'=only at *
        generalize newSt s5'=s5 at *
        have HBW:=Lib.hid (show Below w5.heap.size w5 ((w5.alloc (.cells #[.int .i64 only] 3)).alloc (ndB ⟨false,[],[],[only]⟩ (.slice none 0 0) (.slice none 0 0) (.slice (some ⟨w5.heap.size,0,none⟩) 1 1))) from ((Below.refl _ w5).alloc (Nat.le_refl _) _).alloc (by simp) _)
        have HT6:=Lib.hid (show ((w5.alloc (.cells #[.int .i64 only] 3)).alloc (ndB ⟨false,[],[],[only]⟩ (.slice none 0 0) (.slice none 0 0) (.slice (some ⟨w5.heap.size,0,none⟩) 1 1))).heap[w5.heap.size+1]?=some (ndB ⟨false,[],[],[only]⟩ (.slice none 0 0) (.slice none 0 0) (.slice (some ⟨w5.heap.size,0,none⟩) 1 1)) from blk_new (by simp))
        have HSL:=Lib.hid ((show Sl iC 1 (w5.alloc (.cells #[.int .i64 only] 3)) (.slice (some ⟨w5.heap.size,0,none⟩) 1 1) [only] from Sl.one only rfl (fun _=>rfl) rfl).keep ((Below.refl _ (w5.alloc (.cells #[.int .i64 only] 3))).alloc (Nat.le_refl _) (ndB ⟨false,[],[],[only]⟩ (.slice none 0 0) (.slice none 0 0) (.slice (some ⟨w5.heap.size,0,none⟩) 1 1))))
        go_upto_region 16 with fail
        generalize hw1:(w5.alloc (.cells #[.int .i64 only] 3)).alloc (.cells #[.bool false,.slice none 0 0,.slice none 0 0,.slice (some ⟨w5.heap.size,0,none⟩) 1 1] 110)=w6 at *
        have hw2:(w5.alloc (.cells #[.int .i64 only] 3)).alloc (ndB ⟨false,[],[],[only]⟩ (.slice none 0 0) (.slice none 0 0) (.slice (some ⟨w5.heap.size,0,none⟩) 1 1))=w6:=hw1
        rw [hw2] at HBW HT6 HSL
        clear hw1 hw2
        have HB6:=Lib.hid (blk_keep HB5.out HBW.out)
        have HN6:=Lib.hid (HN5.out.keep HBW.out)
        have HS6:=Lib.hid (HS5.out.ch (S:=fun _=>False) (Ch.of_below HBW.out) id id)
        have HC6:=Lib.hid (HC5.out.trans (Ch.of_below HBW.out))
        have HTN:=Lib.hid (show PN B (w5.heap.size+1) ⟨false,[],[],[only]⟩ w6 from PN.mk' HT6.out SlF.nil SlF.nil ⟨HSL.out,⟨_,1,rfl,by simp,by decide⟩,fun k hk=>by have hk:some w5.heap.size=some k:=hk;injection hk with hk;omega⟩
         (fun k hk=>by cases hk) (fun k hk=>by cases hk) (fun k hk e=>by have hk:some w5.heap.size=some k:=hk;injection hk with hk;omega))
        have HPT:=Lib.hid (part_any ⟨false,[],[],[only]⟩ c 0 B gs gm (w5.heap.size+1) s5 _ w6 HS6.out HTN.out HN6.out h1 h2 (by omega) HFC.out (HSMC.out.mono (by decide)) ⟨by simp,by simp,by simp,by simp,by simp⟩ (by simp) (by simp))
        have HTA:=Lib.hid (top_all (o:=only) HSMC.out)
        rw [HL.out] at HPT
        unfold shV at HPT
        obtain ⟨n0,n1,n2,n3,n4⟩:=nd_cells HB6.out
        rw [HL.out] at n0
        go_wp2_with fail
        refine HPT.out.mono ?_
        rintro e w7 ⟨hp,hs,hc⟩
        have HS7:=Lib.hid hs
        have HC7:=Lib.hid (show Ch (fun k=>k=gs∨k=gm) w w7 from HC6.out.then hc (fun i hi=>by rcases hi with e | e | e;exact .inl (.inl e);exact .inl (.inr e);exact .inr (by omega)))
        clear hs hc n0 n1 n2 n3 n4 HPT
        have hnz:=Pro.NZ.run (partT ⟨false,[],[],[only]⟩ 0 c) s5
        obtain ⟨⟨s7,a⟩,hx⟩:∃ x,(partT ⟨false,[],[],[only]⟩ 0 c).run s5=x:=⟨_,rfl⟩
        rw [hx] at HS7 hp hnz
        have HX7:=Lib.hid hx
        clear hx
        rcases a with tt | x
        ·obtain ⟨rfl,hpn⟩:=hp
         have HTS:=Lib.hid (Pro.All.run _ _ _ _ HTA.out HX7.out)
         have HRW:=Lib.hid (HR2.out.trans (run_bind_ok HX7.out))
         obtain ⟨L1,e1,L2,e2,L3,e3,hb,hnf⟩:=hpn.any
         obtain ⟨n0,n1,n2,n3,n4⟩:=nd_cells hb
         have HWR:=Lib.hid (twrite_any at_ tt _ gs gm s7 w7 HS7.out hnf.val (HTS.out.bd (by decide)))
         unfold shV at HWR
         clear hb hnf hpn hnz
         go_wp2_with fail
         refine HWR.out.mono ?_
         rintro e w8 ⟨rfl,hs,hc⟩
         have HS8:=Lib.hid hs
         have HC8:=Lib.hid (HC7.out.trans hc)
         clear hs hc n0 n1 n2 n3 n4 HWR
         go_wp2_with fail
         go_ret
         rw [HRW.out]
         exact ⟨rfl,HS8.out,HC8.out⟩
        ·obtain ⟨rfl,-⟩:=hp
         have hx0:¬ x=0:=hnz x (partT_nz _ _ _) rfl
         have hx1:(x == 0)=false:=by simpa using hx0
         have HRW:=Lib.hid (HR2.out.trans (run_bind_err HX7.out))
         go_wp2_with fail
         go_ret
         rw [HRW.out]
         exact ⟨rfl,HS7.out,HC7.out⟩
       ·have HW:=Lib.hid (HR.out.trans (if_neg hne))
        generalize newE s5'=ne at *
        have hne2:(ne == 0)=false:=by simpa using hne
        go_wp2_with fail
        go_ret
        rw [HW.out]
        exact ⟨rfl,HS5.out,HC5.out⟩
      ·have HR:=Lib.hid (HTP.out.trans (show (topT at_ c).run s5'=(writeT at_ c).run s5' by rw [topT_fits hft]))
       have HWR:=Lib.hid (twrite_any at_ c _ gs gm s5' w4 HS4.out HN4.out.val (HSMC.out.bd (by decide)))
       unfold shV at HWR
       rw [HL.out] at HWR
       go_wp2_with fail
       refine HWR.out.mono ?_
       rintro e w5 ⟨rfl,hs,hc⟩
       have HS5:=Lib.hid hs
       have HC5:=Lib.hid (HC4.out.trans hc)
       clear hs hc n0 n1 n2 n3 n4 HWR
       go_wp2_with fail
       go_ret
       rw [HR.out]
       exact ⟨rfl,HS5.out,HC5.out⟩
     ·have HL:=Lib.hid hcl
      rw [hcl] at a0
      clear hcl
      have HTP:=Lib.hid (show (rootT 1 at_ n).run s=(topT at_ c).run s5' from HT0.out)
      have HNV:=Lib.hid (show NdF B w5 (.agg #[.bool (c).leaf,(.slice L1 c.keys.length e1),(.slice L2 c.cells.length e2),(.slice L3 c.kids.length e3)]) c from HCN5.out)
      have HFI:=Lib.hid (fits_any c _ w5 HNV.out.val (HSMC.out.bd (by decide)))
      rw [HL.out] at HFI
      go_wp2_with fail
      refine HFI.out.mono ?_
      rintro e w4 ⟨rfl,hb⟩
      have HB4:=Lib.hid (blk_keep HX5.out hb)
      have HN4:=Lib.hid (HNV.out.keep hb)
      have HS4:=Lib.hid (HS5.out.ch (S:=fun _=>False) (Ch.of_below hb) id id)
      have HC4:=Lib.hid (HC5.out.trans (Ch.of_below hb))
      have hsz4:=HC4.out.size
      clear hb a0 a1 a2 a3 a4 HFI
      obtain ⟨n0,n1,n2,n3,n4⟩:=nd_cells HB4.out
      rw [HL.out] at n0
      cases hft:fitsN c
      ·have HNW:=Lib.hid (show (topT at_ c).run s5'=_ from topT_not hft s5')
       have HR:=Lib.hid (HTP.out.trans HNW.out)
       clear hft
       go_wp2_with fail
       refine (sNew_any gs gm s5' w4 HS4.out).mono ?_
       rintro e w5 ⟨rfl,hs,hc⟩
       have HS5:=Lib.hid hs
       have HB5:=Lib.hid (hc.keep HB4.out (by omega))
       have HN5:=Lib.hid (HN4.out.ch hc (fun k hk e=>by omega))
       have HC5:=Lib.hid (HC4.out.trans hc)
       have hsz5:=hc.size
       clear hs hc n0 n1 n2 n3 n4 HNW
       by_cases hne:newE s5'=0
       ·have HR2:=Lib.hid (HR.out.trans (if_pos hne))
        rw [hne]
        generalize newN s5'=only at *
        generalize newSt s5'=s5 at *
        have HBW:=Lib.hid (show Below w5.heap.size w5 ((w5.alloc (.cells #[.int .i64 only] 3)).alloc (ndB ⟨false,[],[],[only]⟩ (.slice none 0 0) (.slice none 0 0) (.slice (some ⟨w5.heap.size,0,none⟩) 1 1))) from ((Below.refl _ w5).alloc (Nat.le_refl _) _).alloc (by simp) _)
        have HT6:=Lib.hid (show ((w5.alloc (.cells #[.int .i64 only] 3)).alloc (ndB ⟨false,[],[],[only]⟩ (.slice none 0 0) (.slice none 0 0) (.slice (some ⟨w5.heap.size,0,none⟩) 1 1))).heap[w5.heap.size+1]?=some (ndB ⟨false,[],[],[only]⟩ (.slice none 0 0) (.slice none 0 0) (.slice (some ⟨w5.heap.size,0,none⟩) 1 1)) from blk_new (by simp))
        have HSL:=Lib.hid ((show Sl iC 1 (w5.alloc (.cells #[.int .i64 only] 3)) (.slice (some ⟨w5.heap.size,0,none⟩) 1 1) [only] from Sl.one only rfl (fun _=>rfl) rfl).keep ((Below.refl _ (w5.alloc (.cells #[.int .i64 only] 3))).alloc (Nat.le_refl _) (ndB ⟨false,[],[],[only]⟩ (.slice none 0 0) (.slice none 0 0) (.slice (some ⟨w5.heap.size,0,none⟩) 1 1))))
        go_upto_region 16 with fail
        generalize hw1:(w5.alloc (.cells #[.int .i64 only] 3)).alloc (.cells #[.bool false,.slice none 0 0,.slice none 0 0,.slice (some ⟨w5.heap.size,0,none⟩) 1 1] 110)=w6 at *
        have hw2:(w5.alloc (.cells #[.int .i64 only] 3)).alloc (ndB ⟨false,[],[],[only]⟩ (.slice none 0 0) (.slice none 0 0) (.slice (some ⟨w5.heap.size,0,none⟩) 1 1))=w6:=hw1
        rw [hw2] at HBW HT6 HSL
        clear hw1 hw2
        have HB6:=Lib.hid (blk_keep HB5.out HBW.out)
        have HN6:=Lib.hid (HN5.out.keep HBW.out)
        have HS6:=Lib.hid (HS5.out.ch (S:=fun _=>False) (Ch.of_below HBW.out) id id)
        have HC6:=Lib.hid (HC5.out.trans (Ch.of_below HBW.out))
        have HTN:=Lib.hid (show PN B (w5.heap.size+1) ⟨false,[],[],[only]⟩ w6 from PN.mk' HT6.out SlF.nil SlF.nil ⟨HSL.out,⟨_,1,rfl,by simp,by decide⟩,fun k hk=>by have hk:some w5.heap.size=some k:=hk;injection hk with hk;omega⟩
         (fun k hk=>by cases hk) (fun k hk=>by cases hk) (fun k hk e=>by have hk:some w5.heap.size=some k:=hk;injection hk with hk;omega))
        have HPT:=Lib.hid (part_any ⟨false,[],[],[only]⟩ c 0 B gs gm (w5.heap.size+1) s5 _ w6 HS6.out HTN.out HN6.out h1 h2 (by omega) HFC.out (HSMC.out.mono (by decide)) ⟨by simp,by simp,by simp,by simp,by simp⟩ (by simp) (by simp))
        have HTA:=Lib.hid (top_all (o:=only) HSMC.out)
        rw [HL.out] at HPT
        unfold shV at HPT
        obtain ⟨n0,n1,n2,n3,n4⟩:=nd_cells HB6.out
        rw [HL.out] at n0
        go_wp2_with fail
        refine HPT.out.mono ?_
        rintro e w7 ⟨hp,hs,hc⟩
        have HS7:=Lib.hid hs
        have HC7:=Lib.hid (show Ch (fun k=>k=gs∨k=gm) w w7 from HC6.out.then hc (fun i hi=>by rcases hi with e | e | e;exact .inl (.inl e);exact .inl (.inr e);exact .inr (by omega)))
        clear hs hc n0 n1 n2 n3 n4 HPT
        have hnz:=Pro.NZ.run (partT ⟨false,[],[],[only]⟩ 0 c) s5
        obtain ⟨⟨s7,a⟩,hx⟩:∃ x,(partT ⟨false,[],[],[only]⟩ 0 c).run s5=x:=⟨_,rfl⟩
        rw [hx] at HS7 hp hnz
        have HX7:=Lib.hid hx
        clear hx
        rcases a with tt | x
        ·obtain ⟨rfl,hpn⟩:=hp
         have HTS:=Lib.hid (Pro.All.run _ _ _ _ HTA.out HX7.out)
         have HRW:=Lib.hid (HR2.out.trans (run_bind_ok HX7.out))
         obtain ⟨L1,e1,L2,e2,L3,e3,hb,hnf⟩:=hpn.any
         obtain ⟨n0,n1,n2,n3,n4⟩:=nd_cells hb
         have HWR:=Lib.hid (twrite_any at_ tt _ gs gm s7 w7 HS7.out hnf.val (HTS.out.bd (by decide)))
         unfold shV at HWR
         clear hb hnf hpn hnz
         go_wp2_with fail
         refine HWR.out.mono ?_
         rintro e w8 ⟨rfl,hs,hc⟩
         have HS8:=Lib.hid hs
         have HC8:=Lib.hid (HC7.out.trans hc)
         clear hs hc n0 n1 n2 n3 n4 HWR
         go_wp2_with fail
         go_ret
         rw [HRW.out]
         exact ⟨rfl,HS8.out,HC8.out⟩
        ·obtain ⟨rfl,-⟩:=hp
         have hx0:¬ x=0:=hnz x (partT_nz _ _ _) rfl
         have hx1:(x == 0)=false:=by simpa using hx0
         have HRW:=Lib.hid (HR2.out.trans (run_bind_err HX7.out))
         go_wp2_with fail
         go_ret
         rw [HRW.out]
         exact ⟨rfl,HS7.out,HC7.out⟩
       ·have HW:=Lib.hid (HR.out.trans (if_neg hne))
        generalize newE s5'=ne at *
        have hne2:(ne == 0)=false:=by simpa using hne
        go_wp2_with fail
        go_ret
        rw [HW.out]
        exact ⟨rfl,HS5.out,HC5.out⟩
      ·have HR:=Lib.hid (HTP.out.trans (show (topT at_ c).run s5'=(writeT at_ c).run s5' by rw [topT_fits hft]))
       have HWR:=Lib.hid (twrite_any at_ c _ gs gm s5' w4 HS4.out HN4.out.val (HSMC.out.bd (by decide)))
       unfold shV at HWR
       rw [HL.out] at HWR
       go_wp2_with fail
       refine HWR.out.mono ?_
       rintro e w5 ⟨rfl,hs,hc⟩
       have HS5:=Lib.hid hs
       have HC5:=Lib.hid (HC4.out.trans hc)
       clear hs hc n0 n1 n2 n3 n4 HWR
       go_wp2_with fail
       go_ret
       rw [HR.out]
       exact ⟨rfl,HS5.out,HC5.out⟩
    ·have HW:=Lib.hid (HRF.out.trans (if_neg hfe))
     generalize freeE s2 kd=fe at *
     have hfe2:(fe == 0)=false:=by simpa using hfe
     go_wp2_with fail
     go_ret
     rw [HW.out]
     exact ⟨rfl,HS4.out,HC4.out⟩
end Go.Proofs.YtknioodagnjchaaGreatDoor
