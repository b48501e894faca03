/- shelf: Free; the calls as programs' steps. -/
import Derived.Test.YtknioodagnjchaaGreatDoorVTShelf3
set_option maxRecDepth 100000
set_option maxHeartbeats 2000000
namespace Go.Proofs.YtknioodagnjchaaGreatDoor
open Go.RowKit Go.Maps
theorem giveR_B {h:Hd} {B:Int→List UInt8} {n:Int} (he:(giveR h B n).e≠0):(giveR h B n).B=B:=by
 unfold giveR at *
 split at he
 ·rename_i h1;rw [if_pos h1];rfl
 ·rename_i h1
  rw [if_neg h1]
  split at he
  ·rename_i h2;rw [if_pos h2];rfl
  ·rename_i h2
   rw [if_neg h2]
   split at he
   ·exact absurd rfl he
   ·rename_i h3
    rw [if_neg h3]
    split at he
    ·rename_i h4;rw [if_pos h4];rfl
    ·split at he
     ·exact absurd rfl he
     ·exact absurd rfl he
theorem giveR_ok {h:Hd} {B:Int→List UInt8} {n:Int} (hk:h.Ok) (hl:∀ n,(B n).length=232) (he:(giveR h B n).e=0):(giveR h B n).h.Ok∧(∀ m,((giveR h B n).B m).length=232):=by
 have hp2:=hk.p2
 have hs0:=hk.s0
 unfold giveR at *
 split at he
 ·cases he
 ·rename_i h1
  rw [if_neg h1]
  split at he
  ·cases he
  ·rename_i h2
   rw [if_neg h2]
   split at he
   ·rename_i h3
    rw [if_pos h3]
    exact ⟨⟨hk.p1,hk.p2,by simp only;omega,by simp only;omega,by simp only;omega,by simp only;omega⟩,updB_len hl (fullL_len _)⟩
   ·rename_i h3
    rw [if_neg h3]
    split at he
    ·cases he
    ·rename_i h4
     rw [if_neg h4]
     split at he
     ·rename_i h5
      rw [if_pos h5]
      exact ⟨⟨hk.p1,hk.p2,hk.t0,hk.t1,by simp only;omega,by simp only;omega⟩,updB_len hl (fullL_len _)⟩
     ·rename_i h5
      rw [if_neg h5]
      exact ⟨⟨hk.p1,hk.p2,by simp only;omega,by simp only;omega,by simp only;omega,by simp only;omega⟩,updB_len hl (fullL_len _)⟩
theorem sFree_any (gs gm:Nat) (s:Sf) (n:Int) (w:World) (h:ShIs w gs gm s):
  Calls Tryz.prog 45 #[.pointer (some ⟨gs,0,none⟩),.int .i64 n] w fun e w'=>e=.returned (.int .i64 (freeE s n))∧ShIs w' gs gm (freeS s n)∧Ch (fun k=>k=gs∨k=gm) w w':=by
 have HK:=Lib.hid h.ok
 go_enter Tryz.func45,Tryz.ntmps45
 go_wp2_with fail
 refine (begin_any n gs gm s w h).mono ?_
 rintro e w1 ⟨rfl,hs,hc⟩
 have HS:=Lib.hid hs
 have HC:=Lib.hid (hc.mono (S':=fun k=>k=gs∨k=gm) (fun _ _ e=>.inl e))
 have HBK:=Lib.hid (show BookIs w1 gm s.B from begS_B s ▸ hs.book)
 have HBL:=Lib.hid (show w1.heap[gs]?=some (shB { s with left:=(begS s).left } gm) from by
  have:=hs.blk
  rw [shl_eq s] at this
  exact this)
 clear h hs hc
 obtain ⟨be,hbe⟩:∃ be,begE s n=be:=⟨_,rfl⟩
 rw [hbe]
 have HBE:=Lib.hid hbe
 clear hbe
 by_cases h0:be=0
 ·subst h0
  have HE:=Lib.hid (show freeE s n=(giveR s.h s.B n).e by unfold freeE;rw [HBE.out];rfl)
  obtain ⟨a1,a2,a3,a4,a5,a6,a7,a8⟩:=sh_heads HBL.out
  simp only at a1 a2 a3 a4 a5 a6 a7
  have hgm:=HBK.out.lt
  obtain ⟨⟨⟨xm,xp,xt,xs,xr,xc⟩,te,tB⟩,hTR⟩:∃ T,giveR s.h s.B n=T:=⟨_,rfl⟩
  have HTR:=Lib.hid hTR
  clear hTR
  go_upto_region 4 with fail
  go_region_held3 (fun wn=>wn.cell? ⟨gs,1,none⟩=some (.int .i64 s.h.mode)∧wn.cell? ⟨gs,2,none⟩=some (.int .i64 s.h.pages)∧wn.cell? ⟨gs,3,none⟩=some (.int .i64 s.h.trunk)∧
    wn.cell? ⟨gs,4,none⟩=some (.int .i64 s.h.spare)∧wn.cell? ⟨gs,5,none⟩=some (.int .i64 s.h.root)∧wn.cell? ⟨gs,6,none⟩=some (.int .u64 s.h.change)∧wn.cell? ⟨gs,7,none⟩=some (.map (some gm)))
   ((first | go_keep | exact HXS.out))
   (first
   | (go_at_call 93
      refine (give_any s.h n gm s.B _ (HBK.out.block (w':=w1.drew) rfl) HK.out.l HK.out.h).mono ?_
      rw [HTR.out]
      simp only [Hd.val,Hd.cells]
      rintro e w4 ⟨rfl,hbk,hch⟩
      have HX4:=Lib.hid (hch.keep (show w1.drew.heap[gs]?=_ from HBL.out) (fun e=>HS.out.ne e.symm))
      obtain ⟨k1,k2,k3,k4,k5,k6,k7,-⟩:=sh_heads HX4.out
      simp only at k1 k2 k3 k4 k5 k6 k7
      have hz4:=blk_lt HX4.out
      have HB4:=Lib.hid hbk
      have HC4:=Lib.hid (HC.out.drew.trans (hch.mono (S':=fun k=>k=gs∨k=gm) (fun _ _ e=>.inr e)))
      clear hbk hch)
   | (go_at_call 93
      refine (give_any s.h n gm s.B _ ((HBK.out.block (w':=w1.drew) rfl).ch (Ch.alloc (Ch.refl (fun _=>False) _) _) id) HK.out.l HK.out.h).mono ?_
      rw [HTR.out]
      simp only [Hd.val,Hd.cells]
      rintro e w4 ⟨rfl,hbk,hch⟩
      have HX4:=Lib.hid (hch.keep (blk_alloc (show w1.drew.heap[gs]?=_ from HBL.out) _) (fun e=>HS.out.ne e.symm))
      obtain ⟨k1,k2,k3,k4,k5,k6,k7,-⟩:=sh_heads HX4.out
      simp only at k1 k2 k3 k4 k5 k6 k7
      have hz4:=blk_lt HX4.out
      have HB4:=Lib.hid hbk
      have HC4:=Lib.hid ((HC.out.drew.alloc _).trans (hch.mono (S':=fun k=>k=gs∨k=gm) (fun _ _ e=>.inr e)))
      have HA4:=Lib.hid (show w4.heap[w1.heap.size]?=some (hdB Hd.zero) from hch.keep (blk_new rfl) (by omega))
      obtain ⟨j0,j1,j2,j3,j4,j5,j6⟩:=hd_cells HA4.out
      obtain ⟨l0,l1,l2,l3,l4,l5⟩:=hd_frozen HA4.out
      simp only [Hd.zero] at j0 j1 j2 j3 j4 j5
      have HXS:=Lib.hid (sh_head7 ((hdS_ch (Ch.refl (fun j=>j=w1.heap.size) w4) rfl ⟨xm,xp,xt,xs,xr,xc⟩).keep HX4.out (by omega)))
      clear hbk hch))
  all_goals
   first
   | (have HXZ:=Lib.hid ((hdS_ch (Ch.refl (fun j=>j=w1.heap.size) w4) rfl ⟨xm,xp,xt,xs,xr,xc⟩).keep HX4.out (by omega))
      have HBZ:=Lib.hid (HB4.out.ch (hdS_ch (Ch.refl (fun j=>j=w1.heap.size) w4) rfl ⟨xm,xp,xt,xs,xr,xc⟩) (by omega))
      have HHZ:=Lib.hid (hdS_heap HA4.out ⟨xm,xp,xt,xs,xr,xc⟩)
      have HCZ:=Lib.hid (HC4.out.then (hdS_ch (Ch.refl (fun j=>j=w1.heap.size) w4) rfl ⟨xm,xp,xt,xs,xr,xc⟩) (fun i e=>.inr (by have:=HC.out.size;omega)))
      have hgn:gs≠w1.heap.size:=by omega
      clear HXS j0 j1 j2 j3 j4 j5 j6 l0 l1 l2 l3 l4 l5 k1 k2 k3 k4 k5 k6 k7 HX4 HB4 HC4 HA4 a1 a2 a3 a4 a5 a6 a7
      generalize hwf:hdS w4 w1.heap.size ⟨xm,xp,xt,xs,xr,xc⟩=wz at *
      have hwf2:(((((w4.setCell ⟨w1.heap.size,0,none⟩ (.int .i64 xm)).setCell ⟨w1.heap.size,1,none⟩ (.int .i64 xp)).setCell ⟨w1.heap.size,2,none⟩ (.int .i64 xt)).setCell ⟨w1.heap.size,3,none⟩ (.int .i64 xs)).setCell ⟨w1.heap.size,4,none⟩ (.int .i64 xr)).setCell ⟨w1.heap.size,5,none⟩ (.int .u64 xc)=wz:=hwf
      rw [hwf2]
      generalize w1.heap.size=gr at *
      clear hwf hwf2)
   | (have HXZ:=Lib.hid (blk_alloc HX4.out (hdB ⟨xm,xp,xt,xs,xr,xc⟩))
      have HBZ:=Lib.hid (HB4.out.ch (Ch.alloc (Ch.refl (fun _=>False) w4) (hdB ⟨xm,xp,xt,xs,xr,xc⟩)) id)
      have HHZ:=Lib.hid (blk_new (w0:=w4) (g:=w4.heap.size) (o:=hdB ⟨xm,xp,xt,xs,xr,xc⟩) rfl)
      have HCZ:=Lib.hid (HC4.out.alloc (hdB ⟨xm,xp,xt,xs,xr,xc⟩))
      have hgn:gs≠w4.heap.size:=by omega
      clear k1 k2 k3 k4 k5 k6 k7 HX4 HB4 HC4 a1 a2 a3 a4 a5 a6 a7
      generalize hwf:w4.alloc (hdB ⟨xm,xp,xt,xs,xr,xc⟩)=wz at *
      have hwf2:w4.alloc (.cells #[.int .i64 xm,.int .i64 xp,.int .i64 xt,.int .i64 xs,.int .i64 xr,.int .u64 xc] 51)=wz:=hwf
      rw [hwf2]
      generalize w4.heap.size=gr at *
      clear hwf hwf2)
   obtain ⟨x1,x2,x3,x4,x5,x6,x7,x8⟩:=sh_heads HXZ.out
   obtain ⟨h0,h1,h2,h3,h4,h5,h6⟩:=hd_cells HHZ.out
   have f1:=blk_frozen HXZ.out 1
   have f2:=blk_frozen HXZ.out 2
   have f3:=blk_frozen HXZ.out 3
   have f4:=blk_frozen HXZ.out 4
   have f5:=blk_frozen HXZ.out 5
   have f6:=blk_frozen HXZ.out 6
   simp only at x1 x2 x3 x4 x5 x6 x7 h0 h1 h2 h3 h4 h5
   by_cases he:te=0
   ·subst he
    have hok:=giveR_ok (n:=n) HK.out.h HK.out.l (by rw [HTR.out])
    rw [HTR.out] at hok
    simp only at hok
    have HOK1:=Lib.hid hok.1
    have HOK2:=Lib.hid hok.2
    clear hok
    have HV:=Lib.hid (show freeE s n=0∧freeS s n={ s with h:=⟨xm,xp,xt,xs,xr,xc⟩,B:=tB,left:=(begS s).left } by
     have he:freeE s n=0:=by rw [HE.out,HTR.out]
     refine ⟨he,?_⟩
     unfold freeS;rw [if_pos he,HTR.out]
     conv=>lhs;rw [shl_eq s])
    have HX8:=Lib.hid (shS_heap HXZ.out ⟨xm,xp,xt,xs,xr,xc⟩)
    have HB8:=Lib.hid (HBZ.out.ch (shS_ch (Ch.refl (fun j=>j=gs) wz) rfl ⟨xm,xp,xt,xs,xr,xc⟩) HS.out.ne)
    have HC8:=Lib.hid (shS_ch (g:=gs) HCZ.out (.inl rfl) ⟨xm,xp,xt,xs,xr,xc⟩)
    go_upto_region 7 with fail
    generalize hwf:shS wz gs ⟨xm,xp,xt,xs,xr,xc⟩=w8 at *
    have hwf2:(((((wz.setCell ⟨gs,1,none⟩ (.int .i64 xm)).setCell ⟨gs,2,none⟩ (.int .i64 xp)).setCell ⟨gs,3,none⟩ (.int .i64 xt)).setCell ⟨gs,4,none⟩ (.int .i64 xs)).setCell ⟨gs,5,none⟩ (.int .i64 xr)).setCell ⟨gs,6,none⟩ (.int .u64 xc)=w8:=hwf
    rw [hwf2]
    clear hwf hwf2 x1 x2 x3 x4 x5 x6 x7 h0 h1 h2 h3 h4 h5 f1 f2 f3 f4 f5 f6
    go_wp2_with fail
    go_ret
    refine ⟨by rw [HV.out.1];rfl,?_,HC8.out⟩
    rw [HV.out.2]
    exact ⟨HX8.out,HB8.out,HS.out.ne,⟨HOK1.out,HOK2.out,(begS_ne HK.out).1,(begS_ne HK.out).2⟩⟩
   ·have he2:(te == 0)=false:=by simpa using he
    have HV:=Lib.hid (show freeE s n=te∧freeS s n=begS s∧tB=s.B by
     have h1:freeE s n=te:=by rw [HE.out,HTR.out]
     have h2:=giveR_B (h:=s.h) (B:=s.B) (n:=n) (by rw [HTR.out];exact he)
     rw [HTR.out] at h2
     refine ⟨h1,?_,h2⟩
     unfold freeS;rw [h1,if_neg he])
    go_wp2_with fail
    go_ret
    refine ⟨by rw [HV.out.1];rfl,?_,HCZ.out⟩
    rw [HV.out.2.1]
    refine ⟨by rw [shl_eq s];exact HXZ.out,?_,HS.out.ne,HS.out.ok⟩
    rw [begS_B,← HV.out.2.2]
    exact HBZ.out
 ·have hb1:(be == 0)=false:=by simpa using h0
  have HV:=Lib.hid (show freeE s n=be∧freeS s n=begS s by
   have h1:freeE s n=be:=by unfold freeE;rw [HBE.out,if_pos h0]
   refine ⟨h1,?_⟩
   unfold freeS;rw [h1,if_neg h0])
  go_wp2_with fail
  go_ret
  exact ⟨by rw [HV.out.1];rfl,by rw [HV.out.2];exact HS.out,HC.out⟩
end Go.Proofs.YtknioodagnjchaaGreatDoor
