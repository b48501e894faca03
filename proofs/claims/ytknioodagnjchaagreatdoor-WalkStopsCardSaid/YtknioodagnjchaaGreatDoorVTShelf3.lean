/- shelf: New, Free. -/
import Derived.Test.YtknioodagnjchaaGreatDoorVSp
import Derived.Test.YtknioodagnjchaaGreatDoorVTGive
import Derived.Deep.RegionHeld3
import Derived.Deep.QuietTactic
import Derived.BigQuiet
set_option maxRecDepth 100000
set_option maxHeartbeats 2000000
namespace Go.Proofs.YtknioodagnjchaaGreatDoor
open Go.RowKit Go.Maps
theorem sh_heads {w:World} {g gm:Nat} {s:Sf} (hh:w.heap[g]?=some (shB s gm)):w.cell? ⟨g,1,none⟩=some (.int .i64 s.h.mode)∧w.cell? ⟨g,2,none⟩=some (.int .i64 s.h.pages)∧w.cell? ⟨g,3,none⟩=some (.int .i64 s.h.trunk)∧
  w.cell? ⟨g,4,none⟩=some (.int .i64 s.h.spare)∧w.cell? ⟨g,5,none⟩=some (.int .i64 s.h.root)∧w.cell? ⟨g,6,none⟩=some (.int .u64 s.h.change)∧w.cell? ⟨g,7,none⟩=some (.map (some gm))∧g<w.heap.size:=
 ⟨blk_cell hh 1,blk_cell hh 2,blk_cell hh 3,blk_cell hh 4,blk_cell hh 5,blk_cell hh 6,blk_cell hh 7,blk_lt hh⟩
theorem sh_head7 {w:World} {g gm:Nat} {s:Sf} (hh:w.heap[g]?=some (shB s gm)):w.cell? ⟨g,1,none⟩=some (.int .i64 s.h.mode)∧w.cell? ⟨g,2,none⟩=some (.int .i64 s.h.pages)∧w.cell? ⟨g,3,none⟩=some (.int .i64 s.h.trunk)∧
  w.cell? ⟨g,4,none⟩=some (.int .i64 s.h.spare)∧w.cell? ⟨g,5,none⟩=some (.int .i64 s.h.root)∧w.cell? ⟨g,6,none⟩=some (.int .u64 s.h.change)∧w.cell? ⟨g,7,none⟩=some (.map (some gm)):=
 ⟨blk_cell hh 1,blk_cell hh 2,blk_cell hh 3,blk_cell hh 4,blk_cell hh 5,blk_cell hh 6,blk_cell hh 7⟩
theorem begE_1 {s:Sf} (h:s.left≠0):begE s 1=0∨begE s 1=21:=by
 unfold begE
 rw [if_neg h]
 split
 ·exact .inr rfl
 ·exact .inl rfl
theorem takeR_B {h:Hd} {B:Int→List UInt8} (he:(takeR h B).e≠0):(takeR h B).B=B:=by
 unfold takeR at *
 split at he
 ·rename_i h1
  rw [if_pos h1]
  split at he
  ·rename_i h2;rw [if_pos h2];rfl
  ·exact absurd rfl he
 ·rename_i h1
  rw [if_neg h1]
  split at he
  ·rename_i h2;rw [if_pos h2];rfl
  ·rename_i h2
   rw [if_neg h2]
   simp only at he ⊢
   split at he
   ·rename_i h3;rw [if_pos h3];rfl
   ·rename_i h3
    rw [if_neg h3]
    split at he
    ·exact absurd rfl he
    ·rename_i h4
     rw [if_neg h4]
     split at he
     ·rename_i h5;rw [if_pos h5];rfl
     ·exact absurd rfl he
theorem takeR_ok {h:Hd} {B:Int→List UInt8} (hk:h.Ok) (hl:∀ n,(B n).length=232) (he:(takeR h B).e=0):(takeR h B).h.Ok∧(∀ n,((takeR h B).B n).length=232)∧0≤(takeR h B).n∧(takeR h B).n<4096:=by
 unfold takeR at *
 split at he
 ·rename_i h1
  rw [if_pos h1]
  split at he
  ·cases he
  ·rename_i h2
   rw [if_neg h2]
   exact ⟨⟨by have:=hk.p1;simp only;omega,by simp only;omega,hk.t0,hk.t1,hk.s0,hk.s1⟩,hl,by have:=hk.p1;simp only;omega,by simp only;omega⟩
 ·rename_i h1
  have hs1:=hk.s0
  have hs2:=hk.s1
  rw [if_neg h1]
  split at he
  ·cases he
  ·rename_i h2
   rw [if_neg h2]
   have hb:=tk_ok (decOk_bad (by simpa using h2))
   simp only at he ⊢
   split at he
   ·cases he
   ·rename_i h3
    rw [if_neg h3]
    split at he
    ·rename_i h4
     rw [if_pos h4]
     refine ⟨⟨hk.p1,hk.p2,hk.t0,hk.t1,by simp only;omega,by simp only;omega⟩,updB_len hl (fullL_len _),?_⟩
     have hm:(decP (B h.trunk)).list.getD ((decP (B h.trunk)).list.length - 1) 0 ∈ (decP (B h.trunk)).list:=by
      rw [List.getD_eq_getElem?_getD,List.getElem?_eq_getElem (by omega)];exact List.getElem_mem _
     have:=hb.2.2.2 _ hm
     exact ⟨by simp only;omega,by simp only;omega⟩
    ·rename_i h4
     rw [if_neg h4]
     split at he
     ·cases he
     ·rename_i h5
      rw [if_neg h5]
      exact ⟨⟨hk.p1,hk.p2,hb.1,hb.2.1,by simp only;omega,by simp only;omega⟩,hl,hk.t0,hk.t1⟩
def shS (w:World) (g:Nat) (h:Hd):World:=(((((w.setCell ⟨g,1,none⟩ (.int .i64 h.mode)).setCell ⟨g,2,none⟩ (.int .i64 h.pages)).setCell ⟨g,3,none⟩ (.int .i64 h.trunk)).setCell ⟨g,4,none⟩ (.int .i64 h.spare)).setCell ⟨g,5,none⟩ (.int .i64 h.root)).setCell ⟨g,6,none⟩ (.int .u64 h.change)
theorem shS_heap {w:World} {g gm:Nat} {s:Sf} (hh:w.heap[g]?=some (shB s gm)) (h:Hd):(shS w g h).heap[g]?=some (shB { s with h:=h } gm):=blk_set (blk_set (blk_set (blk_set (blk_set (blk_set hh 1 _) 2 _) 3 _) 4 _) 5 _) 6 _
theorem shS_ch {S:Nat→Prop} {a w:World} {g:Nat} (hc:Ch S a w) (hg:S g) (h:Hd):Ch S a (shS w g h):=
 (((((hc.setCell (p:=⟨g,1,none⟩) hg _).setCell (p:=⟨g,2,none⟩) hg _).setCell (p:=⟨g,3,none⟩) hg _).setCell (p:=⟨g,4,none⟩) hg _).setCell (p:=⟨g,5,none⟩) hg _).setCell (p:=⟨g,6,none⟩) hg _
theorem shl_eq (s:Sf):begS s={ s with left:=(begS s).left }:=by unfold begS;split <;> rfl
theorem begS_ne {s:Sf} (h:s.Ok):-1≤(begS s).left∧(begS s).left≤1000000000:=⟨(begS_ok h).l0,(begS_ok h).l1⟩
theorem sNew_0_true (gs gm:Nat) (s:Sf) (w:World) (h:ShIs w gs gm s) (h0:s.left≠0) (hbe:begE s 1=0) (hsp:(s.h.spare == 0)=true) (hr:¬ (s.h.spare=0∧s.lim≤s.h.pages)):
  Calls Tryz.prog 17 #[.pointer (some ⟨gs,0,none⟩)] w fun e w'=>e=.returned (.tuple #[.int .i64 (newN s),.int .i64 (newE s)])∧ShIs w' gs gm (newSt s)∧Ch (fun k=>k=gs∨k=gm) w w':=by
 have HK:=Lib.hid h.ok
 have HE:=Lib.hid (show newE s=(takeR s.h s.B).e by unfold newE;rw [if_neg h0,if_neg hr])
 have HBE:=Lib.hid hbe
 have hr2:(s.h.spare == 0)=true→decide (s.lim≤s.h.pages)=false:=fun e=>by simp at e ⊢;omega
 clear h0 hbe hr
 go_enter Tryz.func17,Tryz.ntmps17
 go_wp2_with fail
 refine (begin_any 1 gs gm s w h).mono ?_
 rintro e w1 ⟨rfl,hs,hc⟩
 rw [HBE.out]
 have HS:=Lib.hid hs
 have HC:=Lib.hid (hc.mono (S':=fun k=>k=gs∨k=gm) (fun _ _ e=>.inl e))
 have HBK:=Lib.hid (show BookIs w1 gm s.B from begS_B s ▸ hs.book)
 have HBL:=Lib.hid (show w1.heap[gs]?=some (shB { s with left:=(begS s).left } gm) from by
  have:=hs.blk
  rw [shl_eq s] at this
  exact this)
 clear h hs hc
 obtain ⟨a1,a2,a3,a4,a5,a6,a7,a8⟩:=sh_heads HBL.out
 have a0:w1.cell? ⟨gs,0,none⟩=some (.int .i64 s.lim):=blk_cell HBL.out 0
 simp only at a1 a2 a3 a4 a5 a6 a7
 have HG1:=Lib.hid (fun q:Nat=>(show (w1.drewN q).drew.heap[gs]?=some (shB { s with left:=(begS s).left } gm) from HBL.out))
 have HG2:=Lib.hid (fun q:Nat=>(show BookIs (w1.drewN q).drew gm s.B from HBK.out.block rfl))
 have hgm:=HBK.out.lt
 have HG3:=Lib.hid (fun q:Nat=>(show Ch (fun k=>k=gs∨k=gm) w (w1.drewN q).drew from (HC.out.drewN q).drew))
 first
 | (have hr3:=hr2 hsp
    have hr4:s.h.pages<s.lim:=by simp at hr3;omega
    clear hr2
    go_upto_region 4 with fail
    go_quiet (fail))
 | (clear hr2
    go_upto_region 4 with fail
    go_quiet (fail))
 go_upto_region 6 with fail
 obtain ⟨⟨tn,⟨xm,xp,xt,xs,xr,xc⟩,te,tB⟩,hTR⟩:∃ T,takeR s.h s.B=T:=⟨_,rfl⟩
 have HTR:=Lib.hid hTR
 clear hTR a0
 go_region_held3 (fun wn=>wn.cell? ⟨gs,1,none⟩=some (.int .i64 s.h.mode)∧wn.cell? ⟨gs,2,none⟩=some (.int .i64 s.h.pages)∧wn.cell? ⟨gs,3,none⟩=some (.int .i64 s.h.trunk)∧
   wn.cell? ⟨gs,4,none⟩=some (.int .i64 s.h.spare)∧wn.cell? ⟨gs,5,none⟩=some (.int .i64 s.h.root)∧wn.cell? ⟨gs,6,none⟩=some (.int .u64 s.h.change)∧wn.cell? ⟨gs,7,none⟩=some (.map (some gm)))
  ((first | go_keep | exact HXS.out))
  (first
  | (go_at_call 51
     refine (take_any s.h gm s.B _ (HG2.out _) HK.out.l HK.out.h).mono ?_
     rw [HTR.out]
     simp only [Hd.val,Hd.cells]
     rintro e w4 ⟨rfl,hbk,hch⟩
     have HX4:=Lib.hid (hch.keep (HG1.out _) (fun e=>HS.out.ne e.symm))
     obtain ⟨k1,k2,k3,k4,k5,k6,k7,-⟩:=sh_heads HX4.out
     simp only at k1 k2 k3 k4 k5 k6 k7
     have hz4:=blk_lt HX4.out
     have HB4:=Lib.hid hbk
     have HC4:=Lib.hid ((HG3.out _).trans (hch.mono (S':=fun k=>k=gs∨k=gm) (fun _ _ e=>.inr e)))
     clear hbk hch)
  | (go_at_call 51
     refine (take_any s.h gm s.B _ ((HG2.out _).ch (Ch.alloc (Ch.refl (fun _=>False) _) _) id) HK.out.l HK.out.h).mono ?_
     rw [HTR.out]
     simp only [Hd.val,Hd.cells]
     rintro e w4 ⟨rfl,hbk,hch⟩
     have HX4:=Lib.hid (hch.keep (blk_alloc (HG1.out _) _) (fun e=>HS.out.ne e.symm))
     obtain ⟨k1,k2,k3,k4,k5,k6,k7,-⟩:=sh_heads HX4.out
     simp only at k1 k2 k3 k4 k5 k6 k7
     have hz4:=blk_lt HX4.out
     have HB4:=Lib.hid hbk
     have HC4:=Lib.hid (((HG3.out _).alloc _).trans (hch.mono (S':=fun k=>k=gs∨k=gm) (fun _ _ e=>.inr e)))
     have HA4:=Lib.hid (show w4.heap[w1.heap.size]?=some (hdB Hd.zero) from hch.keep (blk_new rfl) (by omega))
     obtain ⟨j0,j1,j2,j3,j4,j5,j6⟩:=hd_cells HA4.out
     obtain ⟨l0,l1,l2,l3,l4,l5⟩:=hd_frozen HA4.out
     simp only [Hd.zero] at j0 j1 j2 j3 j4 j5
     have HXS:=Lib.hid (sh_head7 ((hdS_ch (Ch.refl (fun j=>j=w1.heap.size) w4) rfl ⟨xm,xp,xt,xs,xr,xc⟩).keep HX4.out (by omega)))
     clear hbk hch))
 all_goals
  first
  | (have HXZ:=Lib.hid ((hdS_ch (Ch.refl (fun j=>j=w1.heap.size) w4) rfl ⟨xm,xp,xt,xs,xr,xc⟩).keep HX4.out (by omega))
     have HBZ:=Lib.hid (HB4.out.ch (hdS_ch (Ch.refl (fun j=>j=w1.heap.size) w4) rfl ⟨xm,xp,xt,xs,xr,xc⟩) (by omega))
     have HHZ:=Lib.hid (hdS_heap HA4.out ⟨xm,xp,xt,xs,xr,xc⟩)
     have HCZ:=Lib.hid (HC4.out.then (hdS_ch (Ch.refl (fun j=>j=w1.heap.size) w4) rfl ⟨xm,xp,xt,xs,xr,xc⟩) (fun i e=>.inr (by have:=HC.out.size;omega)))
     have hgn:gs≠w1.heap.size:=by omega
     clear HXS j0 j1 j2 j3 j4 j5 j6 l0 l1 l2 l3 l4 l5 k1 k2 k3 k4 k5 k6 k7 HX4 HB4 HC4 HA4 a1 a2 a3 a4 a5 a6 a7
     generalize hwf:hdS w4 w1.heap.size ⟨xm,xp,xt,xs,xr,xc⟩=wz at *
     have hwf2:(((((w4.setCell ⟨w1.heap.size,0,none⟩ (.int .i64 xm)).setCell ⟨w1.heap.size,1,none⟩ (.int .i64 xp)).setCell ⟨w1.heap.size,2,none⟩ (.int .i64 xt)).setCell ⟨w1.heap.size,3,none⟩ (.int .i64 xs)).setCell ⟨w1.heap.size,4,none⟩ (.int .i64 xr)).setCell ⟨w1.heap.size,5,none⟩ (.int .u64 xc)=wz:=hwf
     rw [hwf2]
     generalize w1.heap.size=gr at *
     clear hwf hwf2)
  | (have HXZ:=Lib.hid (blk_alloc HX4.out (hdB ⟨xm,xp,xt,xs,xr,xc⟩))
     have HBZ:=Lib.hid (HB4.out.ch (Ch.alloc (Ch.refl (fun _=>False) w4) (hdB ⟨xm,xp,xt,xs,xr,xc⟩)) id)
     have HHZ:=Lib.hid (blk_new (w0:=w4) (g:=w4.heap.size) (o:=hdB ⟨xm,xp,xt,xs,xr,xc⟩) rfl)
     have HCZ:=Lib.hid (HC4.out.alloc (hdB ⟨xm,xp,xt,xs,xr,xc⟩))
     have hgn:gs≠w4.heap.size:=by omega
     clear k1 k2 k3 k4 k5 k6 k7 HX4 HB4 HC4 a1 a2 a3 a4 a5 a6 a7
     generalize hwf:w4.alloc (hdB ⟨xm,xp,xt,xs,xr,xc⟩)=wz at *
     have hwf2:w4.alloc (.cells #[.int .i64 xm,.int .i64 xp,.int .i64 xt,.int .i64 xs,.int .i64 xr,.int .u64 xc] 51)=wz:=hwf
     rw [hwf2]
     generalize w4.heap.size=gr at *
     clear hwf hwf2)
  obtain ⟨x1,x2,x3,x4,x5,x6,x7,x8⟩:=sh_heads HXZ.out
  obtain ⟨h0,h1,h2,h3,h4,h5,h6⟩:=hd_cells HHZ.out
  have f1:=blk_frozen HXZ.out 1
  have f2:=blk_frozen HXZ.out 2
  have f3:=blk_frozen HXZ.out 3
  have f4:=blk_frozen HXZ.out 4
  have f5:=blk_frozen HXZ.out 5
  have f6:=blk_frozen HXZ.out 6
  simp only at x1 x2 x3 x4 x5 x6 x7 h0 h1 h2 h3 h4 h5
  by_cases he:te=0
  ·subst he
   have hok:=takeR_ok HK.out.h HK.out.l (by rw [HTR.out])
   rw [HTR.out] at hok
   simp only at hok
   obtain ⟨hok1,hok2,hn0,hn1⟩:=hok
   have HOK1:=Lib.hid hok1
   have HOK2:=Lib.hid hok2
   clear hok1 hok2
   have HV:=Lib.hid (show newE s=0∧newN s=tn∧newSt s={ s with h:=⟨xm,xp,xt,xs,xr,xc⟩,B:=updB tB tn blankL,left:=(begS s).left } by
    have he:newE s=0:=by rw [HE.out,HTR.out]
    refine ⟨he,?_,?_⟩
    ·unfold newN;rw [if_pos he,HTR.out]
    ·unfold newSt;rw [if_pos he,HTR.out]
     conv=>lhs;rw [shl_eq s])
   have HX8:=Lib.hid (shS_heap HXZ.out ⟨xm,xp,xt,xs,xr,xc⟩)
   have HB8:=Lib.hid (HBZ.out.ch (shS_ch (Ch.refl (fun j=>j=gs) wz) rfl ⟨xm,xp,xt,xs,xr,xc⟩) HS.out.ne)
   have HC8:=Lib.hid (shS_ch (g:=gs) HCZ.out (.inl rfl) ⟨xm,xp,xt,xs,xr,xc⟩)
   go_upto_region 10 with fail
   generalize hwf:shS wz gs ⟨xm,xp,xt,xs,xr,xc⟩=w8 at *
   have hwf2:(((((wz.setCell ⟨gs,1,none⟩ (.int .i64 xm)).setCell ⟨gs,2,none⟩ (.int .i64 xp)).setCell ⟨gs,3,none⟩ (.int .i64 xt)).setCell ⟨gs,4,none⟩ (.int .i64 xs)).setCell ⟨gs,5,none⟩ (.int .i64 xr)).setCell ⟨gs,6,none⟩ (.int .u64 xc)=w8:=hwf
   rw [hwf2]
   clear hwf hwf2 x1 x2 x3 x4 x5 x6 x7 h0 h1 h2 h3 h4 h5 f1 f2 f3 f4 f5 f6
   have x7:=(sh_heads HX8.out).2.2.2.2.2.2.1
   have h8:=HB8.out.lt
   go_region_held3 (fun wn=>wn.cell? ⟨gs,7,none⟩=some (.map (some gm)))
    ((first | go_keep | exact HK9.out | exact HK10.out))
    ((go_at_call 52
      refine (blank_any _).mono ?_
      rintro e w9 ⟨rfl,hb⟩
      have HX9:=Lib.hid (blk_keep (show w8.drew.heap[gs]?=_ from HX8.out) hb)
      have HC9:=Lib.hid ((HC8.out.drew).trans (Ch.of_below hb))
      have HK9:=Lib.hid (sh_heads HX9.out).2.2.2.2.2.2.1
      obtain ⟨w10,hrun,hbk,hgr⟩:=(HB8.out.ch (Ch.of_below (S:=fun _=>False) (show Below w8.heap.size w8 w9 from ((Below.refl _ w8).drew).trans hb)) id).put hn0 hn1 (mkS blankL)
      have HB10:=Lib.hid hbk
      have HX10:=Lib.hid ((Ch.of_grown (S:=fun k=>k=gm) hgr (fun k e=>by cases e;rfl)).keep HX9.out (fun e=>HS.out.ne e.symm))
      have HC10:=Lib.hid (HC9.out.trans (Ch.of_grown (S:=fun k=>k=gs∨k=gm) hgr (fun k e=>.inr (by cases e;rfl))))
      have HK10:=Lib.hid (sh_heads HX10.out).2.2.2.2.2.2.1
      clear hb hbk hgr))
   go_wp2_with fail
   go_ret2
   refine ⟨by rw [HV.out.1,HV.out.2.1];rfl,?_,HC10.out⟩
   rw [HV.out.2.2]
   exact ⟨HX10.out,HB10.out,HS.out.ne,⟨HOK1.out,updB_len HOK2.out blankL_len,(begS_ne HK.out).1,(begS_ne HK.out).2⟩⟩
  ·have he2:(te == 0)=false:=by simpa using he
   have HV:=Lib.hid (show newE s=te∧newN s=0∧newSt s=begS s∧tB=s.B by
    have h1:newE s=te:=by rw [HE.out,HTR.out]
    have h2:=takeR_B (h:=s.h) (B:=s.B) (by rw [HTR.out];exact he)
    rw [HTR.out] at h2
    refine ⟨h1,?_,?_,h2⟩
    ·unfold newN;rw [h1,if_neg he]
    ·unfold newSt;rw [h1,if_neg he])
   go_wp2_with fail
   go_ret2
   refine ⟨by rw [HV.out.1,HV.out.2.1];rfl,?_,HCZ.out⟩
   rw [HV.out.2.2.1]
   refine ⟨by rw [shl_eq s];exact HXZ.out,?_,HS.out.ne,HS.out.ok⟩
   rw [begS_B,← HV.out.2.2.2]
   exact HBZ.out
theorem sNew_0_false (gs gm:Nat) (s:Sf) (w:World) (h:ShIs w gs gm s) (h0:s.left≠0) (hbe:begE s 1=0) (hsp:(s.h.spare == 0)=false) (hr:¬ (s.h.spare=0∧s.lim≤s.h.pages)):
  Calls Tryz.prog 17 #[.pointer (some ⟨gs,0,none⟩)] w fun e w'=>e=.returned (.tuple #[.int .i64 (newN s),.int .i64 (newE s)])∧ShIs w' gs gm (newSt s)∧Ch (fun k=>k=gs∨k=gm) w w':=by
 have HK:=Lib.hid h.ok
 have HE:=Lib.hid (show newE s=(takeR s.h s.B).e by unfold newE;rw [if_neg h0,if_neg hr])
 have HBE:=Lib.hid hbe
 have hr2:(s.h.spare == 0)=true→decide (s.lim≤s.h.pages)=false:=fun e=>by simp at e ⊢;omega
 clear h0 hbe hr
 go_enter Tryz.func17,Tryz.ntmps17
 go_wp2_with fail
 refine (begin_any 1 gs gm s w h).mono ?_
 rintro e w1 ⟨rfl,hs,hc⟩
 rw [HBE.out]
 have HS:=Lib.hid hs
 have HC:=Lib.hid (hc.mono (S':=fun k=>k=gs∨k=gm) (fun _ _ e=>.inl e))
 have HBK:=Lib.hid (show BookIs w1 gm s.B from begS_B s ▸ hs.book)
 have HBL:=Lib.hid (show w1.heap[gs]?=some (shB { s with left:=(begS s).left } gm) from by
  have:=hs.blk
  rw [shl_eq s] at this
  exact this)
 clear h hs hc
 obtain ⟨a1,a2,a3,a4,a5,a6,a7,a8⟩:=sh_heads HBL.out
 have a0:w1.cell? ⟨gs,0,none⟩=some (.int .i64 s.lim):=blk_cell HBL.out 0
 simp only at a1 a2 a3 a4 a5 a6 a7
 have HG1:=Lib.hid (fun q:Nat=>(show (w1.drewN q).drew.heap[gs]?=some (shB { s with left:=(begS s).left } gm) from HBL.out))
 have HG2:=Lib.hid (fun q:Nat=>(show BookIs (w1.drewN q).drew gm s.B from HBK.out.block rfl))
 have hgm:=HBK.out.lt
 have HG3:=Lib.hid (fun q:Nat=>(show Ch (fun k=>k=gs∨k=gm) w (w1.drewN q).drew from (HC.out.drewN q).drew))
 first
 | (have hr3:=hr2 hsp
    have hr4:s.h.pages<s.lim:=by simp at hr3;omega
    clear hr2
    go_upto_region 4 with fail
    go_quiet (fail))
 | (clear hr2
    go_upto_region 4 with fail
    go_quiet (fail))
 go_upto_region 6 with fail
 obtain ⟨⟨tn,⟨xm,xp,xt,xs,xr,xc⟩,te,tB⟩,hTR⟩:∃ T,takeR s.h s.B=T:=⟨_,rfl⟩
 have HTR:=Lib.hid hTR
 clear hTR a0
 go_region_held3 (fun wn=>wn.cell? ⟨gs,1,none⟩=some (.int .i64 s.h.mode)∧wn.cell? ⟨gs,2,none⟩=some (.int .i64 s.h.pages)∧wn.cell? ⟨gs,3,none⟩=some (.int .i64 s.h.trunk)∧
   wn.cell? ⟨gs,4,none⟩=some (.int .i64 s.h.spare)∧wn.cell? ⟨gs,5,none⟩=some (.int .i64 s.h.root)∧wn.cell? ⟨gs,6,none⟩=some (.int .u64 s.h.change)∧wn.cell? ⟨gs,7,none⟩=some (.map (some gm)))
  ((first | go_keep | exact HXS.out))
  (first
  | (go_at_call 51
     refine (take_any s.h gm s.B _ (HG2.out _) HK.out.l HK.out.h).mono ?_
     rw [HTR.out]
     simp only [Hd.val,Hd.cells]
     rintro e w4 ⟨rfl,hbk,hch⟩
     have HX4:=Lib.hid (hch.keep (HG1.out _) (fun e=>HS.out.ne e.symm))
     obtain ⟨k1,k2,k3,k4,k5,k6,k7,-⟩:=sh_heads HX4.out
     simp only at k1 k2 k3 k4 k5 k6 k7
     have hz4:=blk_lt HX4.out
     have HB4:=Lib.hid hbk
     have HC4:=Lib.hid ((HG3.out _).trans (hch.mono (S':=fun k=>k=gs∨k=gm) (fun _ _ e=>.inr e)))
     clear hbk hch)
  | (go_at_call 51
     refine (take_any s.h gm s.B _ ((HG2.out _).ch (Ch.alloc (Ch.refl (fun _=>False) _) _) id) HK.out.l HK.out.h).mono ?_
     rw [HTR.out]
     simp only [Hd.val,Hd.cells]
     rintro e w4 ⟨rfl,hbk,hch⟩
     have HX4:=Lib.hid (hch.keep (blk_alloc (HG1.out _) _) (fun e=>HS.out.ne e.symm))
     obtain ⟨k1,k2,k3,k4,k5,k6,k7,-⟩:=sh_heads HX4.out
     simp only at k1 k2 k3 k4 k5 k6 k7
     have hz4:=blk_lt HX4.out
     have HB4:=Lib.hid hbk
     have HC4:=Lib.hid (((HG3.out _).alloc _).trans (hch.mono (S':=fun k=>k=gs∨k=gm) (fun _ _ e=>.inr e)))
     have HA4:=Lib.hid (show w4.heap[w1.heap.size]?=some (hdB Hd.zero) from hch.keep (blk_new rfl) (by omega))
     obtain ⟨j0,j1,j2,j3,j4,j5,j6⟩:=hd_cells HA4.out
     obtain ⟨l0,l1,l2,l3,l4,l5⟩:=hd_frozen HA4.out
     simp only [Hd.zero] at j0 j1 j2 j3 j4 j5
     have HXS:=Lib.hid (sh_head7 ((hdS_ch (Ch.refl (fun j=>j=w1.heap.size) w4) rfl ⟨xm,xp,xt,xs,xr,xc⟩).keep HX4.out (by omega)))
     clear hbk hch))
 all_goals
  first
  | (have HXZ:=Lib.hid ((hdS_ch (Ch.refl (fun j=>j=w1.heap.size) w4) rfl ⟨xm,xp,xt,xs,xr,xc⟩).keep HX4.out (by omega))
     have HBZ:=Lib.hid (HB4.out.ch (hdS_ch (Ch.refl (fun j=>j=w1.heap.size) w4) rfl ⟨xm,xp,xt,xs,xr,xc⟩) (by omega))
     have HHZ:=Lib.hid (hdS_heap HA4.out ⟨xm,xp,xt,xs,xr,xc⟩)
     have HCZ:=Lib.hid (HC4.out.then (hdS_ch (Ch.refl (fun j=>j=w1.heap.size) w4) rfl ⟨xm,xp,xt,xs,xr,xc⟩) (fun i e=>.inr (by have:=HC.out.size;omega)))
     have hgn:gs≠w1.heap.size:=by omega
     clear HXS j0 j1 j2 j3 j4 j5 j6 l0 l1 l2 l3 l4 l5 k1 k2 k3 k4 k5 k6 k7 HX4 HB4 HC4 HA4 a1 a2 a3 a4 a5 a6 a7
     generalize hwf:hdS w4 w1.heap.size ⟨xm,xp,xt,xs,xr,xc⟩=wz at *
     have hwf2:(((((w4.setCell ⟨w1.heap.size,0,none⟩ (.int .i64 xm)).setCell ⟨w1.heap.size,1,none⟩ (.int .i64 xp)).setCell ⟨w1.heap.size,2,none⟩ (.int .i64 xt)).setCell ⟨w1.heap.size,3,none⟩ (.int .i64 xs)).setCell ⟨w1.heap.size,4,none⟩ (.int .i64 xr)).setCell ⟨w1.heap.size,5,none⟩ (.int .u64 xc)=wz:=hwf
     rw [hwf2]
     generalize w1.heap.size=gr at *
     clear hwf hwf2)
  | (have HXZ:=Lib.hid (blk_alloc HX4.out (hdB ⟨xm,xp,xt,xs,xr,xc⟩))
     have HBZ:=Lib.hid (HB4.out.ch (Ch.alloc (Ch.refl (fun _=>False) w4) (hdB ⟨xm,xp,xt,xs,xr,xc⟩)) id)
     have HHZ:=Lib.hid (blk_new (w0:=w4) (g:=w4.heap.size) (o:=hdB ⟨xm,xp,xt,xs,xr,xc⟩) rfl)
     have HCZ:=Lib.hid (HC4.out.alloc (hdB ⟨xm,xp,xt,xs,xr,xc⟩))
     have hgn:gs≠w4.heap.size:=by omega
     clear k1 k2 k3 k4 k5 k6 k7 HX4 HB4 HC4 a1 a2 a3 a4 a5 a6 a7
     generalize hwf:w4.alloc (hdB ⟨xm,xp,xt,xs,xr,xc⟩)=wz at *
     have hwf2:w4.alloc (.cells #[.int .i64 xm,.int .i64 xp,.int .i64 xt,.int .i64 xs,.int .i64 xr,.int .u64 xc] 51)=wz:=hwf
     rw [hwf2]
     generalize w4.heap.size=gr at *
     clear hwf hwf2)
  obtain ⟨x1,x2,x3,x4,x5,x6,x7,x8⟩:=sh_heads HXZ.out
  obtain ⟨h0,h1,h2,h3,h4,h5,h6⟩:=hd_cells HHZ.out
  have f1:=blk_frozen HXZ.out 1
  have f2:=blk_frozen HXZ.out 2
  have f3:=blk_frozen HXZ.out 3
  have f4:=blk_frozen HXZ.out 4
  have f5:=blk_frozen HXZ.out 5
  have f6:=blk_frozen HXZ.out 6
  simp only at x1 x2 x3 x4 x5 x6 x7 h0 h1 h2 h3 h4 h5
  by_cases he:te=0
  ·subst he
   have hok:=takeR_ok HK.out.h HK.out.l (by rw [HTR.out])
   rw [HTR.out] at hok
   simp only at hok
   obtain ⟨hok1,hok2,hn0,hn1⟩:=hok
   have HOK1:=Lib.hid hok1
   have HOK2:=Lib.hid hok2
   clear hok1 hok2
   have HV:=Lib.hid (show newE s=0∧newN s=tn∧newSt s={ s with h:=⟨xm,xp,xt,xs,xr,xc⟩,B:=updB tB tn blankL,left:=(begS s).left } by
    have he:newE s=0:=by rw [HE.out,HTR.out]
    refine ⟨he,?_,?_⟩
    ·unfold newN;rw [if_pos he,HTR.out]
    ·unfold newSt;rw [if_pos he,HTR.out]
     conv=>lhs;rw [shl_eq s])
   have HX8:=Lib.hid (shS_heap HXZ.out ⟨xm,xp,xt,xs,xr,xc⟩)
   have HB8:=Lib.hid (HBZ.out.ch (shS_ch (Ch.refl (fun j=>j=gs) wz) rfl ⟨xm,xp,xt,xs,xr,xc⟩) HS.out.ne)
   have HC8:=Lib.hid (shS_ch (g:=gs) HCZ.out (.inl rfl) ⟨xm,xp,xt,xs,xr,xc⟩)
   go_upto_region 10 with fail
   generalize hwf:shS wz gs ⟨xm,xp,xt,xs,xr,xc⟩=w8 at *
   have hwf2:(((((wz.setCell ⟨gs,1,none⟩ (.int .i64 xm)).setCell ⟨gs,2,none⟩ (.int .i64 xp)).setCell ⟨gs,3,none⟩ (.int .i64 xt)).setCell ⟨gs,4,none⟩ (.int .i64 xs)).setCell ⟨gs,5,none⟩ (.int .i64 xr)).setCell ⟨gs,6,none⟩ (.int .u64 xc)=w8:=hwf
   rw [hwf2]
   clear hwf hwf2 x1 x2 x3 x4 x5 x6 x7 h0 h1 h2 h3 h4 h5 f1 f2 f3 f4 f5 f6
   have x7:=(sh_heads HX8.out).2.2.2.2.2.2.1
   have h8:=HB8.out.lt
   go_region_held3 (fun wn=>wn.cell? ⟨gs,7,none⟩=some (.map (some gm)))
    ((first | go_keep | exact HK9.out | exact HK10.out))
    ((go_at_call 52
      refine (blank_any _).mono ?_
      rintro e w9 ⟨rfl,hb⟩
      have HX9:=Lib.hid (blk_keep (show w8.drew.heap[gs]?=_ from HX8.out) hb)
      have HC9:=Lib.hid ((HC8.out.drew).trans (Ch.of_below hb))
      have HK9:=Lib.hid (sh_heads HX9.out).2.2.2.2.2.2.1
      obtain ⟨w10,hrun,hbk,hgr⟩:=(HB8.out.ch (Ch.of_below (S:=fun _=>False) (show Below w8.heap.size w8 w9 from ((Below.refl _ w8).drew).trans hb)) id).put hn0 hn1 (mkS blankL)
      have HB10:=Lib.hid hbk
      have HX10:=Lib.hid ((Ch.of_grown (S:=fun k=>k=gm) hgr (fun k e=>by cases e;rfl)).keep HX9.out (fun e=>HS.out.ne e.symm))
      have HC10:=Lib.hid (HC9.out.trans (Ch.of_grown (S:=fun k=>k=gs∨k=gm) hgr (fun k e=>.inr (by cases e;rfl))))
      have HK10:=Lib.hid (sh_heads HX10.out).2.2.2.2.2.2.1
      clear hb hbk hgr))
   go_wp2_with fail
   go_ret2
   refine ⟨by rw [HV.out.1,HV.out.2.1];rfl,?_,HC10.out⟩
   rw [HV.out.2.2]
   exact ⟨HX10.out,HB10.out,HS.out.ne,⟨HOK1.out,updB_len HOK2.out blankL_len,(begS_ne HK.out).1,(begS_ne HK.out).2⟩⟩
  ·have he2:(te == 0)=false:=by simpa using he
   have HV:=Lib.hid (show newE s=te∧newN s=0∧newSt s=begS s∧tB=s.B by
    have h1:newE s=te:=by rw [HE.out,HTR.out]
    have h2:=takeR_B (h:=s.h) (B:=s.B) (by rw [HTR.out];exact he)
    rw [HTR.out] at h2
    refine ⟨h1,?_,?_,h2⟩
    ·unfold newN;rw [h1,if_neg he]
    ·unfold newSt;rw [h1,if_neg he])
   go_wp2_with fail
   go_ret2
   refine ⟨by rw [HV.out.1,HV.out.2.1];rfl,?_,HCZ.out⟩
   rw [HV.out.2.2.1]
   refine ⟨by rw [shl_eq s];exact HXZ.out,?_,HS.out.ne,HS.out.ok⟩
   rw [begS_B,← HV.out.2.2.2]
   exact HBZ.out
theorem sNew_21_true (gs gm:Nat) (s:Sf) (w:World) (h:ShIs w gs gm s) (h0:s.left≠0) (hbe:begE s 1=21) (hsp:(s.h.spare == 0)=true) (hr:¬ (s.h.spare=0∧s.lim≤s.h.pages)):
  Calls Tryz.prog 17 #[.pointer (some ⟨gs,0,none⟩)] w fun e w'=>e=.returned (.tuple #[.int .i64 (newN s),.int .i64 (newE s)])∧ShIs w' gs gm (newSt s)∧Ch (fun k=>k=gs∨k=gm) w w':=by
 have HK:=Lib.hid h.ok
 have HE:=Lib.hid (show newE s=(takeR s.h s.B).e by unfold newE;rw [if_neg h0,if_neg hr])
 have HBE:=Lib.hid hbe
 have hr2:(s.h.spare == 0)=true→decide (s.lim≤s.h.pages)=false:=fun e=>by simp at e ⊢;omega
 clear h0 hbe hr
 go_enter Tryz.func17,Tryz.ntmps17
 go_wp2_with fail
 refine (begin_any 1 gs gm s w h).mono ?_
 rintro e w1 ⟨rfl,hs,hc⟩
 rw [HBE.out]
 have HS:=Lib.hid hs
 have HC:=Lib.hid (hc.mono (S':=fun k=>k=gs∨k=gm) (fun _ _ e=>.inl e))
 have HBK:=Lib.hid (show BookIs w1 gm s.B from begS_B s ▸ hs.book)
 have HBL:=Lib.hid (show w1.heap[gs]?=some (shB { s with left:=(begS s).left } gm) from by
  have:=hs.blk
  rw [shl_eq s] at this
  exact this)
 clear h hs hc
 obtain ⟨a1,a2,a3,a4,a5,a6,a7,a8⟩:=sh_heads HBL.out
 have a0:w1.cell? ⟨gs,0,none⟩=some (.int .i64 s.lim):=blk_cell HBL.out 0
 simp only at a1 a2 a3 a4 a5 a6 a7
 have HG1:=Lib.hid (fun q:Nat=>(show (w1.drewN q).drew.heap[gs]?=some (shB { s with left:=(begS s).left } gm) from HBL.out))
 have HG2:=Lib.hid (fun q:Nat=>(show BookIs (w1.drewN q).drew gm s.B from HBK.out.block rfl))
 have hgm:=HBK.out.lt
 have HG3:=Lib.hid (fun q:Nat=>(show Ch (fun k=>k=gs∨k=gm) w (w1.drewN q).drew from (HC.out.drewN q).drew))
 first
 | (have hr3:=hr2 hsp
    have hr4:s.h.pages<s.lim:=by simp at hr3;omega
    clear hr2
    go_upto_region 4 with fail
    go_quiet (fail))
 | (clear hr2
    go_upto_region 4 with fail
    go_quiet (fail))
 go_upto_region 6 with fail
 obtain ⟨⟨tn,⟨xm,xp,xt,xs,xr,xc⟩,te,tB⟩,hTR⟩:∃ T,takeR s.h s.B=T:=⟨_,rfl⟩
 have HTR:=Lib.hid hTR
 clear hTR a0
 go_region_held3 (fun wn=>wn.cell? ⟨gs,1,none⟩=some (.int .i64 s.h.mode)∧wn.cell? ⟨gs,2,none⟩=some (.int .i64 s.h.pages)∧wn.cell? ⟨gs,3,none⟩=some (.int .i64 s.h.trunk)∧
   wn.cell? ⟨gs,4,none⟩=some (.int .i64 s.h.spare)∧wn.cell? ⟨gs,5,none⟩=some (.int .i64 s.h.root)∧wn.cell? ⟨gs,6,none⟩=some (.int .u64 s.h.change)∧wn.cell? ⟨gs,7,none⟩=some (.map (some gm)))
  ((first | go_keep | exact HXS.out))
  (first
  | (go_at_call 51
     refine (take_any s.h gm s.B _ (HG2.out _) HK.out.l HK.out.h).mono ?_
     rw [HTR.out]
     simp only [Hd.val,Hd.cells]
     rintro e w4 ⟨rfl,hbk,hch⟩
     have HX4:=Lib.hid (hch.keep (HG1.out _) (fun e=>HS.out.ne e.symm))
     obtain ⟨k1,k2,k3,k4,k5,k6,k7,-⟩:=sh_heads HX4.out
     simp only at k1 k2 k3 k4 k5 k6 k7
     have hz4:=blk_lt HX4.out
     have HB4:=Lib.hid hbk
     have HC4:=Lib.hid ((HG3.out _).trans (hch.mono (S':=fun k=>k=gs∨k=gm) (fun _ _ e=>.inr e)))
     clear hbk hch)
  | (go_at_call 51
     refine (take_any s.h gm s.B _ ((HG2.out _).ch (Ch.alloc (Ch.refl (fun _=>False) _) _) id) HK.out.l HK.out.h).mono ?_
     rw [HTR.out]
     simp only [Hd.val,Hd.cells]
     rintro e w4 ⟨rfl,hbk,hch⟩
     have HX4:=Lib.hid (hch.keep (blk_alloc (HG1.out _) _) (fun e=>HS.out.ne e.symm))
     obtain ⟨k1,k2,k3,k4,k5,k6,k7,-⟩:=sh_heads HX4.out
     simp only at k1 k2 k3 k4 k5 k6 k7
     have hz4:=blk_lt HX4.out
     have HB4:=Lib.hid hbk
     have HC4:=Lib.hid (((HG3.out _).alloc _).trans (hch.mono (S':=fun k=>k=gs∨k=gm) (fun _ _ e=>.inr e)))
     have HA4:=Lib.hid (show w4.heap[w1.heap.size]?=some (hdB Hd.zero) from hch.keep (blk_new rfl) (by omega))
     obtain ⟨j0,j1,j2,j3,j4,j5,j6⟩:=hd_cells HA4.out
     obtain ⟨l0,l1,l2,l3,l4,l5⟩:=hd_frozen HA4.out
     simp only [Hd.zero] at j0 j1 j2 j3 j4 j5
     have HXS:=Lib.hid (sh_head7 ((hdS_ch (Ch.refl (fun j=>j=w1.heap.size) w4) rfl ⟨xm,xp,xt,xs,xr,xc⟩).keep HX4.out (by omega)))
     clear hbk hch))
 all_goals
  first
  | (have HXZ:=Lib.hid ((hdS_ch (Ch.refl (fun j=>j=w1.heap.size) w4) rfl ⟨xm,xp,xt,xs,xr,xc⟩).keep HX4.out (by omega))
     have HBZ:=Lib.hid (HB4.out.ch (hdS_ch (Ch.refl (fun j=>j=w1.heap.size) w4) rfl ⟨xm,xp,xt,xs,xr,xc⟩) (by omega))
     have HHZ:=Lib.hid (hdS_heap HA4.out ⟨xm,xp,xt,xs,xr,xc⟩)
     have HCZ:=Lib.hid (HC4.out.then (hdS_ch (Ch.refl (fun j=>j=w1.heap.size) w4) rfl ⟨xm,xp,xt,xs,xr,xc⟩) (fun i e=>.inr (by have:=HC.out.size;omega)))
     have hgn:gs≠w1.heap.size:=by omega
     clear HXS j0 j1 j2 j3 j4 j5 j6 l0 l1 l2 l3 l4 l5 k1 k2 k3 k4 k5 k6 k7 HX4 HB4 HC4 HA4 a1 a2 a3 a4 a5 a6 a7
     generalize hwf:hdS w4 w1.heap.size ⟨xm,xp,xt,xs,xr,xc⟩=wz at *
     have hwf2:(((((w4.setCell ⟨w1.heap.size,0,none⟩ (.int .i64 xm)).setCell ⟨w1.heap.size,1,none⟩ (.int .i64 xp)).setCell ⟨w1.heap.size,2,none⟩ (.int .i64 xt)).setCell ⟨w1.heap.size,3,none⟩ (.int .i64 xs)).setCell ⟨w1.heap.size,4,none⟩ (.int .i64 xr)).setCell ⟨w1.heap.size,5,none⟩ (.int .u64 xc)=wz:=hwf
     rw [hwf2]
     generalize w1.heap.size=gr at *
     clear hwf hwf2)
  | (have HXZ:=Lib.hid (blk_alloc HX4.out (hdB ⟨xm,xp,xt,xs,xr,xc⟩))
     have HBZ:=Lib.hid (HB4.out.ch (Ch.alloc (Ch.refl (fun _=>False) w4) (hdB ⟨xm,xp,xt,xs,xr,xc⟩)) id)
     have HHZ:=Lib.hid (blk_new (w0:=w4) (g:=w4.heap.size) (o:=hdB ⟨xm,xp,xt,xs,xr,xc⟩) rfl)
     have HCZ:=Lib.hid (HC4.out.alloc (hdB ⟨xm,xp,xt,xs,xr,xc⟩))
     have hgn:gs≠w4.heap.size:=by omega
     clear k1 k2 k3 k4 k5 k6 k7 HX4 HB4 HC4 a1 a2 a3 a4 a5 a6 a7
     generalize hwf:w4.alloc (hdB ⟨xm,xp,xt,xs,xr,xc⟩)=wz at *
     have hwf2:w4.alloc (.cells #[.int .i64 xm,.int .i64 xp,.int .i64 xt,.int .i64 xs,.int .i64 xr,.int .u64 xc] 51)=wz:=hwf
     rw [hwf2]
     generalize w4.heap.size=gr at *
     clear hwf hwf2)
  obtain ⟨x1,x2,x3,x4,x5,x6,x7,x8⟩:=sh_heads HXZ.out
  obtain ⟨h0,h1,h2,h3,h4,h5,h6⟩:=hd_cells HHZ.out
  have f1:=blk_frozen HXZ.out 1
  have f2:=blk_frozen HXZ.out 2
  have f3:=blk_frozen HXZ.out 3
  have f4:=blk_frozen HXZ.out 4
  have f5:=blk_frozen HXZ.out 5
  have f6:=blk_frozen HXZ.out 6
  simp only at x1 x2 x3 x4 x5 x6 x7 h0 h1 h2 h3 h4 h5
  by_cases he:te=0
  ·subst he
   have hok:=takeR_ok HK.out.h HK.out.l (by rw [HTR.out])
   rw [HTR.out] at hok
   simp only at hok
   obtain ⟨hok1,hok2,hn0,hn1⟩:=hok
   have HOK1:=Lib.hid hok1
   have HOK2:=Lib.hid hok2
   clear hok1 hok2
   have HV:=Lib.hid (show newE s=0∧newN s=tn∧newSt s={ s with h:=⟨xm,xp,xt,xs,xr,xc⟩,B:=updB tB tn blankL,left:=(begS s).left } by
    have he:newE s=0:=by rw [HE.out,HTR.out]
    refine ⟨he,?_,?_⟩
    ·unfold newN;rw [if_pos he,HTR.out]
    ·unfold newSt;rw [if_pos he,HTR.out]
     conv=>lhs;rw [shl_eq s])
   have HX8:=Lib.hid (shS_heap HXZ.out ⟨xm,xp,xt,xs,xr,xc⟩)
   have HB8:=Lib.hid (HBZ.out.ch (shS_ch (Ch.refl (fun j=>j=gs) wz) rfl ⟨xm,xp,xt,xs,xr,xc⟩) HS.out.ne)
   have HC8:=Lib.hid (shS_ch (g:=gs) HCZ.out (.inl rfl) ⟨xm,xp,xt,xs,xr,xc⟩)
   go_upto_region 10 with fail
   generalize hwf:shS wz gs ⟨xm,xp,xt,xs,xr,xc⟩=w8 at *
   have hwf2:(((((wz.setCell ⟨gs,1,none⟩ (.int .i64 xm)).setCell ⟨gs,2,none⟩ (.int .i64 xp)).setCell ⟨gs,3,none⟩ (.int .i64 xt)).setCell ⟨gs,4,none⟩ (.int .i64 xs)).setCell ⟨gs,5,none⟩ (.int .i64 xr)).setCell ⟨gs,6,none⟩ (.int .u64 xc)=w8:=hwf
   rw [hwf2]
   clear hwf hwf2 x1 x2 x3 x4 x5 x6 x7 h0 h1 h2 h3 h4 h5 f1 f2 f3 f4 f5 f6
   have x7:=(sh_heads HX8.out).2.2.2.2.2.2.1
   have h8:=HB8.out.lt
   go_region_held3 (fun wn=>wn.cell? ⟨gs,7,none⟩=some (.map (some gm)))
    ((first | go_keep | exact HK9.out | exact HK10.out))
    ((go_at_call 52
      refine (blank_any _).mono ?_
      rintro e w9 ⟨rfl,hb⟩
      have HX9:=Lib.hid (blk_keep (show w8.drew.heap[gs]?=_ from HX8.out) hb)
      have HC9:=Lib.hid ((HC8.out.drew).trans (Ch.of_below hb))
      have HK9:=Lib.hid (sh_heads HX9.out).2.2.2.2.2.2.1
      obtain ⟨w10,hrun,hbk,hgr⟩:=(HB8.out.ch (Ch.of_below (S:=fun _=>False) (show Below w8.heap.size w8 w9 from ((Below.refl _ w8).drew).trans hb)) id).put hn0 hn1 (mkS blankL)
      have HB10:=Lib.hid hbk
      have HX10:=Lib.hid ((Ch.of_grown (S:=fun k=>k=gm) hgr (fun k e=>by cases e;rfl)).keep HX9.out (fun e=>HS.out.ne e.symm))
      have HC10:=Lib.hid (HC9.out.trans (Ch.of_grown (S:=fun k=>k=gs∨k=gm) hgr (fun k e=>.inr (by cases e;rfl))))
      have HK10:=Lib.hid (sh_heads HX10.out).2.2.2.2.2.2.1
      clear hb hbk hgr))
   go_wp2_with fail
   go_ret2
   refine ⟨by rw [HV.out.1,HV.out.2.1];rfl,?_,HC10.out⟩
   rw [HV.out.2.2]
   exact ⟨HX10.out,HB10.out,HS.out.ne,⟨HOK1.out,updB_len HOK2.out blankL_len,(begS_ne HK.out).1,(begS_ne HK.out).2⟩⟩
  ·have he2:(te == 0)=false:=by simpa using he
   have HV:=Lib.hid (show newE s=te∧newN s=0∧newSt s=begS s∧tB=s.B by
    have h1:newE s=te:=by rw [HE.out,HTR.out]
    have h2:=takeR_B (h:=s.h) (B:=s.B) (by rw [HTR.out];exact he)
    rw [HTR.out] at h2
    refine ⟨h1,?_,?_,h2⟩
    ·unfold newN;rw [h1,if_neg he]
    ·unfold newSt;rw [h1,if_neg he])
   go_wp2_with fail
   go_ret2
   refine ⟨by rw [HV.out.1,HV.out.2.1];rfl,?_,HCZ.out⟩
   rw [HV.out.2.2.1]
   refine ⟨by rw [shl_eq s];exact HXZ.out,?_,HS.out.ne,HS.out.ok⟩
   rw [begS_B,← HV.out.2.2.2]
   exact HBZ.out
theorem sNew_21_false (gs gm:Nat) (s:Sf) (w:World) (h:ShIs w gs gm s) (h0:s.left≠0) (hbe:begE s 1=21) (hsp:(s.h.spare == 0)=false) (hr:¬ (s.h.spare=0∧s.lim≤s.h.pages)):
  Calls Tryz.prog 17 #[.pointer (some ⟨gs,0,none⟩)] w fun e w'=>e=.returned (.tuple #[.int .i64 (newN s),.int .i64 (newE s)])∧ShIs w' gs gm (newSt s)∧Ch (fun k=>k=gs∨k=gm) w w':=by
 have HK:=Lib.hid h.ok
 have HE:=Lib.hid (show newE s=(takeR s.h s.B).e by unfold newE;rw [if_neg h0,if_neg hr])
 have HBE:=Lib.hid hbe
 have hr2:(s.h.spare == 0)=true→decide (s.lim≤s.h.pages)=false:=fun e=>by simp at e ⊢;omega
 clear h0 hbe hr
 go_enter Tryz.func17,Tryz.ntmps17
 go_wp2_with fail
 refine (begin_any 1 gs gm s w h).mono ?_
 rintro e w1 ⟨rfl,hs,hc⟩
 rw [HBE.out]
 have HS:=Lib.hid hs
 have HC:=Lib.hid (hc.mono (S':=fun k=>k=gs∨k=gm) (fun _ _ e=>.inl e))
 have HBK:=Lib.hid (show BookIs w1 gm s.B from begS_B s ▸ hs.book)
 have HBL:=Lib.hid (show w1.heap[gs]?=some (shB { s with left:=(begS s).left } gm) from by
  have:=hs.blk
  rw [shl_eq s] at this
  exact this)
 clear h hs hc
 obtain ⟨a1,a2,a3,a4,a5,a6,a7,a8⟩:=sh_heads HBL.out
 have a0:w1.cell? ⟨gs,0,none⟩=some (.int .i64 s.lim):=blk_cell HBL.out 0
 simp only at a1 a2 a3 a4 a5 a6 a7
 have HG1:=Lib.hid (fun q:Nat=>(show (w1.drewN q).drew.heap[gs]?=some (shB { s with left:=(begS s).left } gm) from HBL.out))
 have HG2:=Lib.hid (fun q:Nat=>(show BookIs (w1.drewN q).drew gm s.B from HBK.out.block rfl))
 have hgm:=HBK.out.lt
 have HG3:=Lib.hid (fun q:Nat=>(show Ch (fun k=>k=gs∨k=gm) w (w1.drewN q).drew from (HC.out.drewN q).drew))
 first
 | (have hr3:=hr2 hsp
    have hr4:s.h.pages<s.lim:=by simp at hr3;omega
    clear hr2
    go_upto_region 4 with fail
    go_quiet (fail))
 | (clear hr2
    go_upto_region 4 with fail
    go_quiet (fail))
 go_upto_region 6 with fail
 obtain ⟨⟨tn,⟨xm,xp,xt,xs,xr,xc⟩,te,tB⟩,hTR⟩:∃ T,takeR s.h s.B=T:=⟨_,rfl⟩
 have HTR:=Lib.hid hTR
 clear hTR a0
 go_region_held3 (fun wn=>wn.cell? ⟨gs,1,none⟩=some (.int .i64 s.h.mode)∧wn.cell? ⟨gs,2,none⟩=some (.int .i64 s.h.pages)∧wn.cell? ⟨gs,3,none⟩=some (.int .i64 s.h.trunk)∧
   wn.cell? ⟨gs,4,none⟩=some (.int .i64 s.h.spare)∧wn.cell? ⟨gs,5,none⟩=some (.int .i64 s.h.root)∧wn.cell? ⟨gs,6,none⟩=some (.int .u64 s.h.change)∧wn.cell? ⟨gs,7,none⟩=some (.map (some gm)))
  ((first | go_keep | exact HXS.out))
  (first
  | (go_at_call 51
     refine (take_any s.h gm s.B _ (HG2.out _) HK.out.l HK.out.h).mono ?_
     rw [HTR.out]
     simp only [Hd.val,Hd.cells]
     rintro e w4 ⟨rfl,hbk,hch⟩
     have HX4:=Lib.hid (hch.keep (HG1.out _) (fun e=>HS.out.ne e.symm))
     obtain ⟨k1,k2,k3,k4,k5,k6,k7,-⟩:=sh_heads HX4.out
     simp only at k1 k2 k3 k4 k5 k6 k7
     have hz4:=blk_lt HX4.out
     have HB4:=Lib.hid hbk
     have HC4:=Lib.hid ((HG3.out _).trans (hch.mono (S':=fun k=>k=gs∨k=gm) (fun _ _ e=>.inr e)))
     clear hbk hch)
  | (go_at_call 51
     refine (take_any s.h gm s.B _ ((HG2.out _).ch (Ch.alloc (Ch.refl (fun _=>False) _) _) id) HK.out.l HK.out.h).mono ?_
     rw [HTR.out]
     simp only [Hd.val,Hd.cells]
     rintro e w4 ⟨rfl,hbk,hch⟩
     have HX4:=Lib.hid (hch.keep (blk_alloc (HG1.out _) _) (fun e=>HS.out.ne e.symm))
     obtain ⟨k1,k2,k3,k4,k5,k6,k7,-⟩:=sh_heads HX4.out
     simp only at k1 k2 k3 k4 k5 k6 k7
     have hz4:=blk_lt HX4.out
     have HB4:=Lib.hid hbk
     have HC4:=Lib.hid (((HG3.out _).alloc _).trans (hch.mono (S':=fun k=>k=gs∨k=gm) (fun _ _ e=>.inr e)))
     have HA4:=Lib.hid (show w4.heap[w1.heap.size]?=some (hdB Hd.zero) from hch.keep (blk_new rfl) (by omega))
     obtain ⟨j0,j1,j2,j3,j4,j5,j6⟩:=hd_cells HA4.out
     obtain ⟨l0,l1,l2,l3,l4,l5⟩:=hd_frozen HA4.out
     simp only [Hd.zero] at j0 j1 j2 j3 j4 j5
     have HXS:=Lib.hid (sh_head7 ((hdS_ch (Ch.refl (fun j=>j=w1.heap.size) w4) rfl ⟨xm,xp,xt,xs,xr,xc⟩).keep HX4.out (by omega)))
     clear hbk hch))
 all_goals
  first
  | (have HXZ:=Lib.hid ((hdS_ch (Ch.refl (fun j=>j=w1.heap.size) w4) rfl ⟨xm,xp,xt,xs,xr,xc⟩).keep HX4.out (by omega))
     have HBZ:=Lib.hid (HB4.out.ch (hdS_ch (Ch.refl (fun j=>j=w1.heap.size) w4) rfl ⟨xm,xp,xt,xs,xr,xc⟩) (by omega))
     have HHZ:=Lib.hid (hdS_heap HA4.out ⟨xm,xp,xt,xs,xr,xc⟩)
     have HCZ:=Lib.hid (HC4.out.then (hdS_ch (Ch.refl (fun j=>j=w1.heap.size) w4) rfl ⟨xm,xp,xt,xs,xr,xc⟩) (fun i e=>.inr (by have:=HC.out.size;omega)))
     have hgn:gs≠w1.heap.size:=by omega
     clear HXS j0 j1 j2 j3 j4 j5 j6 l0 l1 l2 l3 l4 l5 k1 k2 k3 k4 k5 k6 k7 HX4 HB4 HC4 HA4 a1 a2 a3 a4 a5 a6 a7
     generalize hwf:hdS w4 w1.heap.size ⟨xm,xp,xt,xs,xr,xc⟩=wz at *
     have hwf2:(((((w4.setCell ⟨w1.heap.size,0,none⟩ (.int .i64 xm)).setCell ⟨w1.heap.size,1,none⟩ (.int .i64 xp)).setCell ⟨w1.heap.size,2,none⟩ (.int .i64 xt)).setCell ⟨w1.heap.size,3,none⟩ (.int .i64 xs)).setCell ⟨w1.heap.size,4,none⟩ (.int .i64 xr)).setCell ⟨w1.heap.size,5,none⟩ (.int .u64 xc)=wz:=hwf
     rw [hwf2]
     generalize w1.heap.size=gr at *
     clear hwf hwf2)
  | (have HXZ:=Lib.hid (blk_alloc HX4.out (hdB ⟨xm,xp,xt,xs,xr,xc⟩))
     have HBZ:=Lib.hid (HB4.out.ch (Ch.alloc (Ch.refl (fun _=>False) w4) (hdB ⟨xm,xp,xt,xs,xr,xc⟩)) id)
     have HHZ:=Lib.hid (blk_new (w0:=w4) (g:=w4.heap.size) (o:=hdB ⟨xm,xp,xt,xs,xr,xc⟩) rfl)
     have HCZ:=Lib.hid (HC4.out.alloc (hdB ⟨xm,xp,xt,xs,xr,xc⟩))
     have hgn:gs≠w4.heap.size:=by omega
     clear k1 k2 k3 k4 k5 k6 k7 HX4 HB4 HC4 a1 a2 a3 a4 a5 a6 a7
     generalize hwf:w4.alloc (hdB ⟨xm,xp,xt,xs,xr,xc⟩)=wz at *
     have hwf2:w4.alloc (.cells #[.int .i64 xm,.int .i64 xp,.int .i64 xt,.int .i64 xs,.int .i64 xr,.int .u64 xc] 51)=wz:=hwf
     rw [hwf2]
     generalize w4.heap.size=gr at *
     clear hwf hwf2)
  obtain ⟨x1,x2,x3,x4,x5,x6,x7,x8⟩:=sh_heads HXZ.out
  obtain ⟨h0,h1,h2,h3,h4,h5,h6⟩:=hd_cells HHZ.out
  have f1:=blk_frozen HXZ.out 1
  have f2:=blk_frozen HXZ.out 2
  have f3:=blk_frozen HXZ.out 3
  have f4:=blk_frozen HXZ.out 4
  have f5:=blk_frozen HXZ.out 5
  have f6:=blk_frozen HXZ.out 6
  simp only at x1 x2 x3 x4 x5 x6 x7 h0 h1 h2 h3 h4 h5
  by_cases he:te=0
  ·subst he
   have hok:=takeR_ok HK.out.h HK.out.l (by rw [HTR.out])
   rw [HTR.out] at hok
   simp only at hok
   obtain ⟨hok1,hok2,hn0,hn1⟩:=hok
   have HOK1:=Lib.hid hok1
   have HOK2:=Lib.hid hok2
   clear hok1 hok2
   have HV:=Lib.hid (show newE s=0∧newN s=tn∧newSt s={ s with h:=⟨xm,xp,xt,xs,xr,xc⟩,B:=updB tB tn blankL,left:=(begS s).left } by
    have he:newE s=0:=by rw [HE.out,HTR.out]
    refine ⟨he,?_,?_⟩
    ·unfold newN;rw [if_pos he,HTR.out]
    ·unfold newSt;rw [if_pos he,HTR.out]
     conv=>lhs;rw [shl_eq s])
   have HX8:=Lib.hid (shS_heap HXZ.out ⟨xm,xp,xt,xs,xr,xc⟩)
   have HB8:=Lib.hid (HBZ.out.ch (shS_ch (Ch.refl (fun j=>j=gs) wz) rfl ⟨xm,xp,xt,xs,xr,xc⟩) HS.out.ne)
   have HC8:=Lib.hid (shS_ch (g:=gs) HCZ.out (.inl rfl) ⟨xm,xp,xt,xs,xr,xc⟩)
   go_upto_region 10 with fail
   generalize hwf:shS wz gs ⟨xm,xp,xt,xs,xr,xc⟩=w8 at *
   have hwf2:(((((wz.setCell ⟨gs,1,none⟩ (.int .i64 xm)).setCell ⟨gs,2,none⟩ (.int .i64 xp)).setCell ⟨gs,3,none⟩ (.int .i64 xt)).setCell ⟨gs,4,none⟩ (.int .i64 xs)).setCell ⟨gs,5,none⟩ (.int .i64 xr)).setCell ⟨gs,6,none⟩ (.int .u64 xc)=w8:=hwf
   rw [hwf2]
   clear hwf hwf2 x1 x2 x3 x4 x5 x6 x7 h0 h1 h2 h3 h4 h5 f1 f2 f3 f4 f5 f6
   have x7:=(sh_heads HX8.out).2.2.2.2.2.2.1
   have h8:=HB8.out.lt
   go_region_held3 (fun wn=>wn.cell? ⟨gs,7,none⟩=some (.map (some gm)))
    ((first | go_keep | exact HK9.out | exact HK10.out))
    ((go_at_call 52
      refine (blank_any _).mono ?_
      rintro e w9 ⟨rfl,hb⟩
      have HX9:=Lib.hid (blk_keep (show w8.drew.heap[gs]?=_ from HX8.out) hb)
      have HC9:=Lib.hid ((HC8.out.drew).trans (Ch.of_below hb))
      have HK9:=Lib.hid (sh_heads HX9.out).2.2.2.2.2.2.1
      obtain ⟨w10,hrun,hbk,hgr⟩:=(HB8.out.ch (Ch.of_below (S:=fun _=>False) (show Below w8.heap.size w8 w9 from ((Below.refl _ w8).drew).trans hb)) id).put hn0 hn1 (mkS blankL)
      have HB10:=Lib.hid hbk
      have HX10:=Lib.hid ((Ch.of_grown (S:=fun k=>k=gm) hgr (fun k e=>by cases e;rfl)).keep HX9.out (fun e=>HS.out.ne e.symm))
      have HC10:=Lib.hid (HC9.out.trans (Ch.of_grown (S:=fun k=>k=gs∨k=gm) hgr (fun k e=>.inr (by cases e;rfl))))
      have HK10:=Lib.hid (sh_heads HX10.out).2.2.2.2.2.2.1
      clear hb hbk hgr))
   go_wp2_with fail
   go_ret2
   refine ⟨by rw [HV.out.1,HV.out.2.1];rfl,?_,HC10.out⟩
   rw [HV.out.2.2]
   exact ⟨HX10.out,HB10.out,HS.out.ne,⟨HOK1.out,updB_len HOK2.out blankL_len,(begS_ne HK.out).1,(begS_ne HK.out).2⟩⟩
  ·have he2:(te == 0)=false:=by simpa using he
   have HV:=Lib.hid (show newE s=te∧newN s=0∧newSt s=begS s∧tB=s.B by
    have h1:newE s=te:=by rw [HE.out,HTR.out]
    have h2:=takeR_B (h:=s.h) (B:=s.B) (by rw [HTR.out];exact he)
    rw [HTR.out] at h2
    refine ⟨h1,?_,?_,h2⟩
    ·unfold newN;rw [h1,if_neg he]
    ·unfold newSt;rw [h1,if_neg he])
   go_wp2_with fail
   go_ret2
   refine ⟨by rw [HV.out.1,HV.out.2.1];rfl,?_,HCZ.out⟩
   rw [HV.out.2.2.1]
   refine ⟨by rw [shl_eq s];exact HXZ.out,?_,HS.out.ne,HS.out.ok⟩
   rw [begS_B,← HV.out.2.2.2]
   exact HBZ.out
theorem sNew_room_0 (gs gm:Nat) (s:Sf) (w:World) (h:ShIs w gs gm s) (h0:s.left≠0) (hbe:begE s 1=0) (hr:s.h.spare=0∧s.lim≤s.h.pages):
  Calls Tryz.prog 17 #[.pointer (some ⟨gs,0,none⟩)] w fun e w'=>e=.returned (.tuple #[.int .i64 (newN s),.int .i64 (newE s)])∧ShIs w' gs gm (newSt s)∧Ch (fun k=>k=gs∨k=gm) w w':=by
 have HV:=Lib.hid (show newN s=0∧newE s=22∧newSt s=begS s by
  have:newE s=22:=by unfold newE;rw [if_neg h0,if_pos hr]
  unfold newN newSt
  rw [this]
  exact ⟨rfl,rfl,rfl⟩)
 have HBE:=Lib.hid hbe
 have hr1:(s.h.spare == 0)=true:=by simpa using hr.1
 have hr2:decide (s.lim≤s.h.pages)=true:=decide_eq_true hr.2
 clear h0 hbe hr
 go_enter Tryz.func17,Tryz.ntmps17
 go_wp2_with fail
 refine (begin_any 1 gs gm s w h).mono ?_
 rintro e w1 ⟨rfl,hs,hc⟩
 rw [HBE.out]
 have HS:=Lib.hid hs
 have HC:=Lib.hid (hc.mono (S':=fun k=>k=gs∨k=gm) (fun _ _ e=>.inl e))
 have HBL:=Lib.hid (show w1.heap[gs]?=some (shB { s with left:=(begS s).left } gm) from by
  have:=hs.blk
  rw [shl_eq s] at this
  exact this)
 clear h hs hc
 obtain ⟨a1,a2,a3,a4,a5,a6,a7,a8⟩:=sh_heads HBL.out
 have a0:w1.cell? ⟨gs,0,none⟩=some (.int .i64 s.lim):=blk_cell HBL.out 0
 simp only at a1 a2 a3 a4 a5 a6 a7
 go_upto_region 4 with fail
 go_quiet (fail)
 go_wp2_with fail
 go_ret2
 exact ⟨by rw [HV.out.1,HV.out.2.1];rfl,by rw [HV.out.2.2];exact HS.out.ch (Ch.drewN (Ch.refl (fun _=>False) _) _) id id,HC.out.drewN _⟩
theorem sNew_room_21 (gs gm:Nat) (s:Sf) (w:World) (h:ShIs w gs gm s) (h0:s.left≠0) (hbe:begE s 1=21) (hr:s.h.spare=0∧s.lim≤s.h.pages):
  Calls Tryz.prog 17 #[.pointer (some ⟨gs,0,none⟩)] w fun e w'=>e=.returned (.tuple #[.int .i64 (newN s),.int .i64 (newE s)])∧ShIs w' gs gm (newSt s)∧Ch (fun k=>k=gs∨k=gm) w w':=by
 have HV:=Lib.hid (show newN s=0∧newE s=22∧newSt s=begS s by
  have:newE s=22:=by unfold newE;rw [if_neg h0,if_pos hr]
  unfold newN newSt
  rw [this]
  exact ⟨rfl,rfl,rfl⟩)
 have HBE:=Lib.hid hbe
 have hr1:(s.h.spare == 0)=true:=by simpa using hr.1
 have hr2:decide (s.lim≤s.h.pages)=true:=decide_eq_true hr.2
 clear h0 hbe hr
 go_enter Tryz.func17,Tryz.ntmps17
 go_wp2_with fail
 refine (begin_any 1 gs gm s w h).mono ?_
 rintro e w1 ⟨rfl,hs,hc⟩
 rw [HBE.out]
 have HS:=Lib.hid hs
 have HC:=Lib.hid (hc.mono (S':=fun k=>k=gs∨k=gm) (fun _ _ e=>.inl e))
 have HBL:=Lib.hid (show w1.heap[gs]?=some (shB { s with left:=(begS s).left } gm) from by
  have:=hs.blk
  rw [shl_eq s] at this
  exact this)
 clear h hs hc
 obtain ⟨a1,a2,a3,a4,a5,a6,a7,a8⟩:=sh_heads HBL.out
 have a0:w1.cell? ⟨gs,0,none⟩=some (.int .i64 s.lim):=blk_cell HBL.out 0
 simp only at a1 a2 a3 a4 a5 a6 a7
 go_upto_region 4 with fail
 go_quiet (fail)
 go_wp2_with fail
 go_ret2
 exact ⟨by rw [HV.out.1,HV.out.2.1];rfl,by rw [HV.out.2.2];exact HS.out.ch (Ch.drewN (Ch.refl (fun _=>False) _) _) id id,HC.out.drewN _⟩
theorem sNew_down (gs gm:Nat) (s:Sf) (w:World) (h:ShIs w gs gm s) (h0:s.left=0):
  Calls Tryz.prog 17 #[.pointer (some ⟨gs,0,none⟩)] w fun e w'=>e=.returned (.tuple #[.int .i64 (newN s),.int .i64 (newE s)])∧ShIs w' gs gm (newSt s)∧Ch (fun k=>k=gs∨k=gm) w w':=by
 have HV:=Lib.hid (show begE s 1=11∧newN s=0∧newE s=11∧newSt s=begS s by
  have:newE s=11:=by unfold newE;rw [if_pos h0]
  unfold newN newSt begE
  rw [this,if_pos h0]
  exact ⟨rfl,rfl,rfl,rfl⟩)
 clear h0
 go_enter Tryz.func17,Tryz.ntmps17
 go_wp2_with fail
 refine (begin_any 1 gs gm s w h).mono ?_
 rintro e w1 ⟨rfl,hs,hc⟩
 rw [HV.out.1]
 have HS:=Lib.hid hs
 have HC:=Lib.hid (hc.mono (S':=fun k=>k=gs∨k=gm) (fun _ _ e=>.inl e))
 clear h hs hc
 go_wp2_with fail
 go_ret2
 exact ⟨by rw [HV.out.2.1,HV.out.2.2.1];rfl,by rw [HV.out.2.2.2];exact HS.out,HC.out⟩
theorem sNew_any (gs gm:Nat) (s:Sf) (w:World) (h:ShIs w gs gm s):
  Calls Tryz.prog 17 #[.pointer (some ⟨gs,0,none⟩)] w fun e w'=>e=.returned (.tuple #[.int .i64 (newN s),.int .i64 (newE s)])∧ShIs w' gs gm (newSt s)∧Ch (fun k=>k=gs∨k=gm) w w':=by
 by_cases h0:s.left=0
 ·exact sNew_down gs gm s w h h0
 ·by_cases hr:s.h.spare=0∧s.lim≤s.h.pages
  ·rcases begE_1 h0 with hb | hb
   ·exact sNew_room_0 gs gm s w h h0 hb hr
   ·exact sNew_room_21 gs gm s w h h0 hb hr
  ·rcases begE_1 h0 with hb | hb <;> cases hs:(s.h.spare == 0)
   ·exact sNew_0_false gs gm s w h h0 hb hs hr
   ·exact sNew_0_true gs gm s w h h0 hb hs hr
   ·exact sNew_21_false gs gm s w h h0 hb hs hr
   ·exact sNew_21_true gs gm s w h h0 hb hs hr
end Go.Proofs.YtknioodagnjchaaGreatDoor
