/- shelf: New, Free. -/
import Derived.Test.YtdmhbgpejppbkaaGreatZGbg
import Derived.Test.YtdmhbgpejppbkaaGreatZGbd
import Derived.Deep.RegionHeld3
import Derived.Deep.QuietTactic
import Derived.BigQuiet
set_option maxRecDepth 100000
set_option maxHeartbeats 2000000
namespace Go.Proofs.YtdmhbgpejppbkaaGreat
open Go.Lib (hid)
open Go.RowKit Go.Maps
theorem aA {w:World} {g gm:Nat} {s:Sf} (hh:w.heap[g]?=some (jU s gm)):w.cell? ⟨g,1,none⟩=some (.int .i64 s.h.mode)∧w.cell? ⟨g,2,none⟩=some (.int .i64 s.h.pages)∧w.cell? ⟨g,3,none⟩=some (.int .i64 s.h.trunk)∧
  w.cell? ⟨g,4,none⟩=some (.int .i64 s.h.spare)∧w.cell? ⟨g,5,none⟩=some (.int .i64 s.h.root)∧w.cell? ⟨g,6,none⟩=some (.int .u64 s.h.change)∧w.cell? ⟨g,7,none⟩=some (.map (some gm))∧g<w.heap.size:=
 ⟨aa hh 1,aa hh 2,aa hh 3,aa hh 4,aa hh 5,aa hh 6,aa hh 7,af hh⟩
theorem ed {w:World} {g gm:Nat} {s:Sf} (hh:w.heap[g]?=some (jU s gm)):w.cell? ⟨g,1,none⟩=some (.int .i64 s.h.mode)∧w.cell? ⟨g,2,none⟩=some (.int .i64 s.h.pages)∧w.cell? ⟨g,3,none⟩=some (.int .i64 s.h.trunk)∧
  w.cell? ⟨g,4,none⟩=some (.int .i64 s.h.spare)∧w.cell? ⟨g,5,none⟩=some (.int .i64 s.h.root)∧w.cell? ⟨g,6,none⟩=some (.int .u64 s.h.change)∧w.cell? ⟨g,7,none⟩=some (.map (some gm)):=
 ⟨aa hh 1,aa hh 2,aa hh 3,aa hh 4,aa hh 5,aa hh 6,aa hh 7⟩
theorem qN {s:Sf} (h:s.left≠0):bu s 1=0∨bu s 1=21:=by
 unfold bu;rw [if_neg h]
 split
 ·exact .inr rfl
 ·exact .inl rfl
theorem gM {h:Hd} {B:Int→List UInt8} (he:(am h B).e≠0):(am h B).B=B:=by
 unfold am at *
 split at he
 ·rename_i h1
  rw [if_pos h1]
  split at he
  ·rename_i h2;rw [if_pos h2];rfl
  ·exact absurd rfl he
 ·rename_i h1
  rw [if_neg h1]
  split at he
  ·rename_i h2;rw [if_pos h2];rfl
  ·rename_i h2
   rw [if_neg h2];simp only at he ⊢
   split at he
   ·rename_i h3;rw [if_pos h3];rfl
   ·rename_i h3
    rw [if_neg h3]
    split at he
    ·exact absurd rfl he
    ·rename_i h4
     rw [if_neg h4]
     split at he
     ·rename_i h5;rw [if_pos h5];rfl
     ·exact absurd rfl he
theorem fb {h:Hd} {B:Int→List UInt8} (hk:h.Ok) (hl:∀ n,(B n).length=232) (he:(am h B).e=0):(am h B).h.Ok∧(∀ n,((am h B).B n).length=232)∧0≤(am h B).n∧(am h B).n<4096:=by
 unfold am at *
 split at he
 ·rename_i h1
  rw [if_pos h1]
  split at he
  ·cases he
  ·rename_i h2
   rw [if_neg h2];exact ⟨⟨by have:=hk.p1;simp only;omega,by simp only;omega,hk.t0,hk.t1,hk.s0,hk.s1⟩,hl,by have:=hk.p1;simp only;omega,by simp only;omega⟩
 ·rename_i h1
  have hs1:=hk.s0;have hs2:=hk.s1;rw [if_neg h1]
  split at he
  ·cases he
  ·rename_i h2
   rw [if_neg h2];have hb:=eZ (dg (by simpa using h2));simp only at he ⊢
   split at he
   ·cases he
   ·rename_i h3
    rw [if_neg h3]
    split at he
    ·rename_i h4
     rw [if_pos h4];refine ⟨⟨hk.p1,hk.p2,hk.t0,hk.t1,by simp only;omega,by simp only;omega⟩,ci hl (bY _),?_⟩;have hm:(bE (B h.trunk)).list.getD ((bE (B h.trunk)).list.length - 1) 0 ∈ (bE (B h.trunk)).list:=by rw [List.getD_eq_getElem?_getD,List.getElem?_eq_getElem (by omega)];exact List.getElem_mem _
     have:=hb.2.2.2 _ hm;exact ⟨by simp only;omega,by simp only;omega⟩
    ·rename_i h4
     rw [if_neg h4]
     split at he
     ·cases he
     ·rename_i h5
      rw [if_neg h5];exact ⟨⟨hk.p1,hk.p2,hb.1,hb.2.1,by simp only;omega,by simp only;omega⟩,hl,hk.t0,hk.t1⟩
def sO (w:World) (g:Nat) (h:Hd):World:=(((((w.setCell ⟨g,1,none⟩ (.int .i64 h.mode)).setCell ⟨g,2,none⟩ (.int .i64 h.pages)).setCell ⟨g,3,none⟩ (.int .i64 h.trunk)).setCell ⟨g,4,none⟩ (.int .i64 h.spare)).setCell ⟨g,5,none⟩ (.int .i64 h.root)).setCell ⟨g,6,none⟩ (.int .u64 h.change)
theorem ei {w:World} {g gm:Nat} {s:Sf} (hh:w.heap[g]?=some (jU s gm)) (h:Hd):(sO w g h).heap[g]?=some (jU { s with h:=h } gm):=ae (ae (ae (ae (ae (ae hh 1 _) 2 _) 3 _) 4 _) 5 _) 6 _
theorem dw {S:Nat→Prop} {a w:World} {g:Nat} (hc:Ch S a w) (hg:S g) (h:Hd):Ch S a (sO w g h):=
 (((((hc.setCell (p:=⟨g,1,none⟩) hg _).setCell (p:=⟨g,2,none⟩) hg _).setCell (p:=⟨g,3,none⟩) hg _).setCell (p:=⟨g,4,none⟩) hg _).setCell (p:=⟨g,5,none⟩) hg _).setCell (p:=⟨g,6,none⟩) hg _
theorem bJ (s:Sf):aW s={ s with left:=(aW s).left }:=by unfold aW;split <;> rfl
theorem cK {s:Sf} (h:s.Ok):-1≤(aW s).left∧(aW s).left≤1000000000:=⟨(eE h).l0,(eE h).l1⟩
theorem kQ (gs gm:Nat) (s:Sf) (w:World) (h:ShIs w gs gm s) (h0:s.left≠0) (hbe:bu s 1=0) (hsp:(s.h.spare == 0)=true) (hr:¬ (s.h.spare=0∧s.lim≤s.h.pages)):
  Calls Tryz.prog 32 #[.pointer (some ⟨gs,0,none⟩)] w fun e w'=>e=.returned (.tuple #[.int .i64 (bH s),.int .i64 (aG s)])∧ShIs w' gs gm (bi s)∧Ch (fun k=>k=gs∨k=gm) w w':=by
 have HK:=hid h.ok;have HE:=hid (show aG s=(am s.h s.B).e by unfold aG;rw [if_neg h0,if_neg hr]);have HBE:=hid hbe;have hr2:(s.h.spare == 0)=true→decide (s.lim≤s.h.pages)=false:=fun e=>by simp at e ⊢;omega
 clear h0 hbe hr;go_enter Tryz.func32,Tryz.ntmps32;go_wp2_with fail;refine (br 1 gs gm s w h).mono ?_;rintro e w1 ⟨rfl,hs,hc⟩;rw [HBE.out];have HS:=hid hs;have HC:=hid (hc.mono (S':=fun k=>k=gs∨k=gm) (fun _ _ e=>.inl e));have HBK:=hid (show BookIs w1 gm s.B from cU s ▸ hs.book)
 have HBL:=hid (show w1.heap[gs]?=some (jU { s with left:=(aW s).left } gm) from by
  have:=hs.blk;rw [bJ s] at this;exact this)
 clear h hs hc;obtain ⟨a1,a2,a3,a4,a5,a6,a7,a8⟩:=aA HBL.out;have a0:w1.cell? ⟨gs,0,none⟩=some (.int .i64 s.lim):=aa HBL.out 0;simp only at a1 a2 a3 a4 a5 a6 a7;have HG1:=hid (fun q:Nat=>(show (w1.drewN q).drew.heap[gs]?=some (jU { s with left:=(aW s).left } gm) from HBL.out));have HG2:=hid (fun q:Nat=>(show BookIs (w1.drewN q).drew gm s.B from HBK.out.block rfl));have hgm:=HBK.out.lt;have HG3:=hid (fun q:Nat=>(show Ch (fun k=>k=gs∨k=gm) w (w1.drewN q).drew from (HC.out.drewN q).drew))
 first
 | (have hr3:=hr2 hsp
    have hr4:s.h.pages<s.lim:=by simp at hr3;omega
    clear hr2;go_upto_region 4 with fail
    go_quiet (fail))
 | (clear hr2
    go_upto_region 4 with fail
    go_quiet (fail))
 go_upto_region 6 with fail
 obtain ⟨⟨tn,⟨xm,xp,xt,xs,xr,xc⟩,te,tB⟩,hTR⟩:∃ T,am s.h s.B=T:=⟨_,rfl⟩;have HTR:=hid hTR;clear hTR a0
 go_region_held3 (fun wn=>wn.cell? ⟨gs,1,none⟩=some (.int .i64 s.h.mode)∧wn.cell? ⟨gs,2,none⟩=some (.int .i64 s.h.pages)∧wn.cell? ⟨gs,3,none⟩=some (.int .i64 s.h.trunk)∧
   wn.cell? ⟨gs,4,none⟩=some (.int .i64 s.h.spare)∧wn.cell? ⟨gs,5,none⟩=some (.int .i64 s.h.root)∧wn.cell? ⟨gs,6,none⟩=some (.int .u64 s.h.change)∧wn.cell? ⟨gs,7,none⟩=some (.map (some gm)))
  ((first | go_keep | exact HXS.out))
  (first
  | (go_at_call 88
     refine (cM s.h gm s.B _ (HG2.out _) HK.out.l HK.out.h).mono ?_;rw [HTR.out];simp only [Hd.val,Hd.cells];rintro e w4 ⟨rfl,hbk,hch⟩;have HX4:=hid (hch.keep (HG1.out _) (fun e=>HS.out.ne e.symm));obtain ⟨k1,k2,k3,k4,k5,k6,k7,-⟩:=aA HX4.out;simp only at k1 k2 k3 k4 k5 k6 k7;have hz4:=af HX4.out;have HB4:=hid hbk;have HC4:=hid ((HG3.out _).trans (hch.mono (S':=fun k=>k=gs∨k=gm) (fun _ _ e=>.inr e)));clear hbk hch)
  | (go_at_call 88
     refine (cM s.h gm s.B _ ((HG2.out _).ch (Ch.alloc (Ch.refl (fun _=>False) _) _) id) HK.out.l HK.out.h).mono ?_;rw [HTR.out];simp only [Hd.val,Hd.cells];rintro e w4 ⟨rfl,hbk,hch⟩;have HX4:=hid (hch.keep (aj (HG1.out _) _) (fun e=>HS.out.ne e.symm));obtain ⟨k1,k2,k3,k4,k5,k6,k7,-⟩:=aA HX4.out;simp only at k1 k2 k3 k4 k5 k6 k7;have hz4:=af HX4.out;have HB4:=hid hbk;have HC4:=hid (((HG3.out _).alloc _).trans (hch.mono (S':=fun k=>k=gs∨k=gm) (fun _ _ e=>.inr e)));have HA4:=hid (show w4.heap[w1.heap.size]?=some (bn Hd.zero) from hch.keep (ah rfl) (by omega));obtain ⟨j0,j1,j2,j3,j4,j5,j6⟩:=ag HA4.out;obtain ⟨l0,l1,l2,l3,l4,l5⟩:=ao HA4.out;simp only [Hd.zero] at j0 j1 j2 j3 j4 j5;have HXS:=hid (ed ((aZ (Ch.refl (fun j=>j=w1.heap.size) w4) rfl ⟨xm,xp,xt,xs,xr,xc⟩).keep HX4.out (by omega)));clear hbk hch))
 all_goals
  first
  | (have HXZ:=hid ((aZ (Ch.refl (fun j=>j=w1.heap.size) w4) rfl ⟨xm,xp,xt,xs,xr,xc⟩).keep HX4.out (by omega))
     have HBZ:=hid (HB4.out.ch (aZ (Ch.refl (fun j=>j=w1.heap.size) w4) rfl ⟨xm,xp,xt,xs,xr,xc⟩) (by omega));have HHZ:=hid (bU HA4.out ⟨xm,xp,xt,xs,xr,xc⟩);have HCZ:=hid (HC4.out.then (aZ (Ch.refl (fun j=>j=w1.heap.size) w4) rfl ⟨xm,xp,xt,xs,xr,xc⟩) (fun i e=>.inr (by have:=HC.out.size;omega)));have hgn:gs≠w1.heap.size:=by omega
     clear HXS j0 j1 j2 j3 j4 j5 j6 l0 l1 l2 l3 l4 l5 k1 k2 k3 k4 k5 k6 k7 HX4 HB4 HC4 HA4 a1 a2 a3 a4 a5 a6 a7;generalize hwf:cB w4 w1.heap.size ⟨xm,xp,xt,xs,xr,xc⟩=wz at *;have hwf2:(((((w4.setCell ⟨w1.heap.size,0,none⟩ (.int .i64 xm)).setCell ⟨w1.heap.size,1,none⟩ (.int .i64 xp)).setCell ⟨w1.heap.size,2,none⟩ (.int .i64 xt)).setCell ⟨w1.heap.size,3,none⟩ (.int .i64 xs)).setCell ⟨w1.heap.size,4,none⟩ (.int .i64 xr)).setCell ⟨w1.heap.size,5,none⟩ (.int .u64 xc)=wz:=hwf;rw [hwf2];generalize w1.heap.size=gr at *;clear hwf hwf2)
  | (have HXZ:=hid (aj HX4.out (bn ⟨xm,xp,xt,xs,xr,xc⟩))
     have HBZ:=hid (HB4.out.ch (Ch.alloc (Ch.refl (fun _=>False) w4) (bn ⟨xm,xp,xt,xs,xr,xc⟩)) id);have HHZ:=hid (ah (w0:=w4) (g:=w4.heap.size) (o:=bn ⟨xm,xp,xt,xs,xr,xc⟩) rfl);have HCZ:=hid (HC4.out.alloc (bn ⟨xm,xp,xt,xs,xr,xc⟩));have hgn:gs≠w4.heap.size:=by omega
     clear k1 k2 k3 k4 k5 k6 k7 HX4 HB4 HC4 a1 a2 a3 a4 a5 a6 a7;generalize hwf:w4.alloc (bn ⟨xm,xp,xt,xs,xr,xc⟩)=wz at *;have hwf2:w4.alloc (.cells #[.int .i64 xm,.int .i64 xp,.int .i64 xt,.int .i64 xs,.int .i64 xr,.int .u64 xc] 38)=wz:=hwf;rw [hwf2];generalize w4.heap.size=gr at *;clear hwf hwf2)
  obtain ⟨x1,x2,x3,x4,x5,x6,x7,x8⟩:=aA HXZ.out;obtain ⟨h0,h1,h2,h3,h4,h5,h6⟩:=ag HHZ.out;have f1:=ab HXZ.out 1;have f2:=ab HXZ.out 2;have f3:=ab HXZ.out 3;have f4:=ab HXZ.out 4;have f5:=ab HXZ.out 5;have f6:=ab HXZ.out 6;simp only at x1 x2 x3 x4 x5 x6 x7 h0 h1 h2 h3 h4 h5;by_cases he:te=0
  ·subst he;have hok:=fb HK.out.h HK.out.l (by rw [HTR.out]);rw [HTR.out] at hok;simp only at hok;obtain ⟨hok1,hok2,hn0,hn1⟩:=hok;have HOK1:=hid hok1;have HOK2:=hid hok2;clear hok1 hok2
   have HV:=hid (show aG s=0∧bH s=tn∧bi s={ s with h:=⟨xm,xp,xt,xs,xr,xc⟩,B:=aY tB tn blankL,left:=(aW s).left } by
    have he:aG s=0:=by rw [HE.out,HTR.out]
    refine ⟨he,?_,?_⟩
    ·unfold bH;rw [if_pos he,HTR.out]
    ·unfold bi;rw [if_pos he,HTR.out]
     conv=>lhs;rw [bJ s])
   have HX8:=hid (ei HXZ.out ⟨xm,xp,xt,xs,xr,xc⟩);have HB8:=hid (HBZ.out.ch (dw (Ch.refl (fun j=>j=gs) wz) rfl ⟨xm,xp,xt,xs,xr,xc⟩) HS.out.ne);have HC8:=hid (dw (g:=gs) HCZ.out (.inl rfl) ⟨xm,xp,xt,xs,xr,xc⟩);go_upto_region 10 with fail
   generalize hwf:sO wz gs ⟨xm,xp,xt,xs,xr,xc⟩=w8 at *;have hwf2:(((((wz.setCell ⟨gs,1,none⟩ (.int .i64 xm)).setCell ⟨gs,2,none⟩ (.int .i64 xp)).setCell ⟨gs,3,none⟩ (.int .i64 xt)).setCell ⟨gs,4,none⟩ (.int .i64 xs)).setCell ⟨gs,5,none⟩ (.int .i64 xr)).setCell ⟨gs,6,none⟩ (.int .u64 xc)=w8:=hwf;rw [hwf2];clear hwf hwf2 x1 x2 x3 x4 x5 x6 x7 h0 h1 h2 h3 h4 h5 f1 f2 f3 f4 f5 f6;have x7:=(aA HX8.out).2.2.2.2.2.2.1;have h8:=HB8.out.lt
   go_region_held3 (fun wn=>wn.cell? ⟨gs,7,none⟩=some (.map (some gm)))
    ((first | go_keep | exact HK9.out | exact HK10.out))
    ((go_at_call 89
      refine (dI _).mono ?_;rintro e w9 ⟨rfl,hb⟩;have HX9:=hid (aw (show w8.drew.heap[gs]?=_ from HX8.out) hb);have HC9:=hid ((HC8.out.drew).trans (Ch.of_below hb));have HK9:=hid (aA HX9.out).2.2.2.2.2.2.1;obtain ⟨w10,hrun,hbk,hgr⟩:=(HB8.out.ch (Ch.of_below (S:=fun _=>False) (show Below w8.heap.size w8 w9 from ((Below.refl _ w8).drew).trans hb)) id).put hn0 hn1 (ak blankL);have HB10:=hid hbk;have HX10:=hid ((Ch.of_grown (S:=fun k=>k=gm) hgr (fun k e=>by cases e;rfl)).keep HX9.out (fun e=>HS.out.ne e.symm));have HC10:=hid (HC9.out.trans (Ch.of_grown (S:=fun k=>k=gs∨k=gm) hgr (fun k e=>.inr (by cases e;rfl))));have HK10:=hid (aA HX10.out).2.2.2.2.2.2.1;clear hb hbk hgr))
   go_wp2_with fail;go_ret2;refine ⟨by rw [HV.out.1,HV.out.2.1];rfl,?_,HC10.out⟩;rw [HV.out.2.2];exact ⟨HX10.out,HB10.out,HS.out.ne,⟨HOK1.out,ci HOK2.out dm,(cK HK.out).1,(cK HK.out).2⟩⟩
  ·have he2:(te == 0)=false:=by simpa using he
   have HV:=hid (show aG s=te∧bH s=0∧bi s=aW s∧tB=s.B by
    have h1:aG s=te:=by rw [HE.out,HTR.out]
    have h2:=gM (h:=s.h) (B:=s.B) (by rw [HTR.out];exact he);rw [HTR.out] at h2;refine ⟨h1,?_,?_,h2⟩
    ·unfold bH;rw [h1,if_neg he]
    ·unfold bi;rw [h1,if_neg he])
   go_wp2_with fail;go_ret2;refine ⟨by rw [HV.out.1,HV.out.2.1];rfl,?_,HCZ.out⟩;rw [HV.out.2.2.1];refine ⟨by rw [bJ s];exact HXZ.out,?_,HS.out.ne,HS.out.ok⟩;rw [cU,← HV.out.2.2.2];exact HBZ.out
theorem jZ (gs gm:Nat) (s:Sf) (w:World) (h:ShIs w gs gm s) (h0:s.left≠0) (hbe:bu s 1=0) (hsp:(s.h.spare == 0)=false) (hr:¬ (s.h.spare=0∧s.lim≤s.h.pages)):
  Calls Tryz.prog 32 #[.pointer (some ⟨gs,0,none⟩)] w fun e w'=>e=.returned (.tuple #[.int .i64 (bH s),.int .i64 (aG s)])∧ShIs w' gs gm (bi s)∧Ch (fun k=>k=gs∨k=gm) w w':=by
 have HK:=hid h.ok;have HE:=hid (show aG s=(am s.h s.B).e by unfold aG;rw [if_neg h0,if_neg hr]);have HBE:=hid hbe;have hr2:(s.h.spare == 0)=true→decide (s.lim≤s.h.pages)=false:=fun e=>by simp at e ⊢;omega
 clear h0 hbe hr;go_enter Tryz.func32,Tryz.ntmps32;go_wp2_with fail;refine (br 1 gs gm s w h).mono ?_;rintro e w1 ⟨rfl,hs,hc⟩;rw [HBE.out];have HS:=hid hs;have HC:=hid (hc.mono (S':=fun k=>k=gs∨k=gm) (fun _ _ e=>.inl e));have HBK:=hid (show BookIs w1 gm s.B from cU s ▸ hs.book)
 have HBL:=hid (show w1.heap[gs]?=some (jU { s with left:=(aW s).left } gm) from by
  have:=hs.blk;rw [bJ s] at this;exact this)
 clear h hs hc;obtain ⟨a1,a2,a3,a4,a5,a6,a7,a8⟩:=aA HBL.out;have a0:w1.cell? ⟨gs,0,none⟩=some (.int .i64 s.lim):=aa HBL.out 0;simp only at a1 a2 a3 a4 a5 a6 a7;have HG1:=hid (fun q:Nat=>(show (w1.drewN q).drew.heap[gs]?=some (jU { s with left:=(aW s).left } gm) from HBL.out));have HG2:=hid (fun q:Nat=>(show BookIs (w1.drewN q).drew gm s.B from HBK.out.block rfl));have hgm:=HBK.out.lt;have HG3:=hid (fun q:Nat=>(show Ch (fun k=>k=gs∨k=gm) w (w1.drewN q).drew from (HC.out.drewN q).drew))
 first
 | (have hr3:=hr2 hsp
    have hr4:s.h.pages<s.lim:=by simp at hr3;omega
    clear hr2;go_upto_region 4 with fail
    go_quiet (fail))
 | (clear hr2
    go_upto_region 4 with fail
    go_quiet (fail))
 go_upto_region 6 with fail
 obtain ⟨⟨tn,⟨xm,xp,xt,xs,xr,xc⟩,te,tB⟩,hTR⟩:∃ T,am s.h s.B=T:=⟨_,rfl⟩;have HTR:=hid hTR;clear hTR a0
 go_region_held3 (fun wn=>wn.cell? ⟨gs,1,none⟩=some (.int .i64 s.h.mode)∧wn.cell? ⟨gs,2,none⟩=some (.int .i64 s.h.pages)∧wn.cell? ⟨gs,3,none⟩=some (.int .i64 s.h.trunk)∧
   wn.cell? ⟨gs,4,none⟩=some (.int .i64 s.h.spare)∧wn.cell? ⟨gs,5,none⟩=some (.int .i64 s.h.root)∧wn.cell? ⟨gs,6,none⟩=some (.int .u64 s.h.change)∧wn.cell? ⟨gs,7,none⟩=some (.map (some gm)))
  ((first | go_keep | exact HXS.out))
  (first
  | (go_at_call 88
     refine (cM s.h gm s.B _ (HG2.out _) HK.out.l HK.out.h).mono ?_;rw [HTR.out];simp only [Hd.val,Hd.cells];rintro e w4 ⟨rfl,hbk,hch⟩;have HX4:=hid (hch.keep (HG1.out _) (fun e=>HS.out.ne e.symm));obtain ⟨k1,k2,k3,k4,k5,k6,k7,-⟩:=aA HX4.out;simp only at k1 k2 k3 k4 k5 k6 k7;have hz4:=af HX4.out;have HB4:=hid hbk;have HC4:=hid ((HG3.out _).trans (hch.mono (S':=fun k=>k=gs∨k=gm) (fun _ _ e=>.inr e)));clear hbk hch)
  | (go_at_call 88
     refine (cM s.h gm s.B _ ((HG2.out _).ch (Ch.alloc (Ch.refl (fun _=>False) _) _) id) HK.out.l HK.out.h).mono ?_;rw [HTR.out];simp only [Hd.val,Hd.cells];rintro e w4 ⟨rfl,hbk,hch⟩;have HX4:=hid (hch.keep (aj (HG1.out _) _) (fun e=>HS.out.ne e.symm));obtain ⟨k1,k2,k3,k4,k5,k6,k7,-⟩:=aA HX4.out;simp only at k1 k2 k3 k4 k5 k6 k7;have hz4:=af HX4.out;have HB4:=hid hbk;have HC4:=hid (((HG3.out _).alloc _).trans (hch.mono (S':=fun k=>k=gs∨k=gm) (fun _ _ e=>.inr e)));have HA4:=hid (show w4.heap[w1.heap.size]?=some (bn Hd.zero) from hch.keep (ah rfl) (by omega));obtain ⟨j0,j1,j2,j3,j4,j5,j6⟩:=ag HA4.out;obtain ⟨l0,l1,l2,l3,l4,l5⟩:=ao HA4.out;simp only [Hd.zero] at j0 j1 j2 j3 j4 j5;have HXS:=hid (ed ((aZ (Ch.refl (fun j=>j=w1.heap.size) w4) rfl ⟨xm,xp,xt,xs,xr,xc⟩).keep HX4.out (by omega)));clear hbk hch))
 all_goals
  first
  | (have HXZ:=hid ((aZ (Ch.refl (fun j=>j=w1.heap.size) w4) rfl ⟨xm,xp,xt,xs,xr,xc⟩).keep HX4.out (by omega))
     have HBZ:=hid (HB4.out.ch (aZ (Ch.refl (fun j=>j=w1.heap.size) w4) rfl ⟨xm,xp,xt,xs,xr,xc⟩) (by omega));have HHZ:=hid (bU HA4.out ⟨xm,xp,xt,xs,xr,xc⟩);have HCZ:=hid (HC4.out.then (aZ (Ch.refl (fun j=>j=w1.heap.size) w4) rfl ⟨xm,xp,xt,xs,xr,xc⟩) (fun i e=>.inr (by have:=HC.out.size;omega)));have hgn:gs≠w1.heap.size:=by omega
     clear HXS j0 j1 j2 j3 j4 j5 j6 l0 l1 l2 l3 l4 l5 k1 k2 k3 k4 k5 k6 k7 HX4 HB4 HC4 HA4 a1 a2 a3 a4 a5 a6 a7;generalize hwf:cB w4 w1.heap.size ⟨xm,xp,xt,xs,xr,xc⟩=wz at *;have hwf2:(((((w4.setCell ⟨w1.heap.size,0,none⟩ (.int .i64 xm)).setCell ⟨w1.heap.size,1,none⟩ (.int .i64 xp)).setCell ⟨w1.heap.size,2,none⟩ (.int .i64 xt)).setCell ⟨w1.heap.size,3,none⟩ (.int .i64 xs)).setCell ⟨w1.heap.size,4,none⟩ (.int .i64 xr)).setCell ⟨w1.heap.size,5,none⟩ (.int .u64 xc)=wz:=hwf;rw [hwf2];generalize w1.heap.size=gr at *;clear hwf hwf2)
  | (have HXZ:=hid (aj HX4.out (bn ⟨xm,xp,xt,xs,xr,xc⟩))
     have HBZ:=hid (HB4.out.ch (Ch.alloc (Ch.refl (fun _=>False) w4) (bn ⟨xm,xp,xt,xs,xr,xc⟩)) id);have HHZ:=hid (ah (w0:=w4) (g:=w4.heap.size) (o:=bn ⟨xm,xp,xt,xs,xr,xc⟩) rfl);have HCZ:=hid (HC4.out.alloc (bn ⟨xm,xp,xt,xs,xr,xc⟩));have hgn:gs≠w4.heap.size:=by omega
     clear k1 k2 k3 k4 k5 k6 k7 HX4 HB4 HC4 a1 a2 a3 a4 a5 a6 a7;generalize hwf:w4.alloc (bn ⟨xm,xp,xt,xs,xr,xc⟩)=wz at *;have hwf2:w4.alloc (.cells #[.int .i64 xm,.int .i64 xp,.int .i64 xt,.int .i64 xs,.int .i64 xr,.int .u64 xc] 38)=wz:=hwf;rw [hwf2];generalize w4.heap.size=gr at *;clear hwf hwf2)
  obtain ⟨x1,x2,x3,x4,x5,x6,x7,x8⟩:=aA HXZ.out;obtain ⟨h0,h1,h2,h3,h4,h5,h6⟩:=ag HHZ.out;have f1:=ab HXZ.out 1;have f2:=ab HXZ.out 2;have f3:=ab HXZ.out 3;have f4:=ab HXZ.out 4;have f5:=ab HXZ.out 5;have f6:=ab HXZ.out 6;simp only at x1 x2 x3 x4 x5 x6 x7 h0 h1 h2 h3 h4 h5;by_cases he:te=0
  ·subst he;have hok:=fb HK.out.h HK.out.l (by rw [HTR.out]);rw [HTR.out] at hok;simp only at hok;obtain ⟨hok1,hok2,hn0,hn1⟩:=hok;have HOK1:=hid hok1;have HOK2:=hid hok2;clear hok1 hok2
   have HV:=hid (show aG s=0∧bH s=tn∧bi s={ s with h:=⟨xm,xp,xt,xs,xr,xc⟩,B:=aY tB tn blankL,left:=(aW s).left } by
    have he:aG s=0:=by rw [HE.out,HTR.out]
    refine ⟨he,?_,?_⟩
    ·unfold bH;rw [if_pos he,HTR.out]
    ·unfold bi;rw [if_pos he,HTR.out]
     conv=>lhs;rw [bJ s])
   have HX8:=hid (ei HXZ.out ⟨xm,xp,xt,xs,xr,xc⟩);have HB8:=hid (HBZ.out.ch (dw (Ch.refl (fun j=>j=gs) wz) rfl ⟨xm,xp,xt,xs,xr,xc⟩) HS.out.ne);have HC8:=hid (dw (g:=gs) HCZ.out (.inl rfl) ⟨xm,xp,xt,xs,xr,xc⟩);go_upto_region 10 with fail
   generalize hwf:sO wz gs ⟨xm,xp,xt,xs,xr,xc⟩=w8 at *;have hwf2:(((((wz.setCell ⟨gs,1,none⟩ (.int .i64 xm)).setCell ⟨gs,2,none⟩ (.int .i64 xp)).setCell ⟨gs,3,none⟩ (.int .i64 xt)).setCell ⟨gs,4,none⟩ (.int .i64 xs)).setCell ⟨gs,5,none⟩ (.int .i64 xr)).setCell ⟨gs,6,none⟩ (.int .u64 xc)=w8:=hwf;rw [hwf2];clear hwf hwf2 x1 x2 x3 x4 x5 x6 x7 h0 h1 h2 h3 h4 h5 f1 f2 f3 f4 f5 f6;have x7:=(aA HX8.out).2.2.2.2.2.2.1;have h8:=HB8.out.lt
   go_region_held3 (fun wn=>wn.cell? ⟨gs,7,none⟩=some (.map (some gm)))
    ((first | go_keep | exact HK9.out | exact HK10.out))
    ((go_at_call 89
      refine (dI _).mono ?_;rintro e w9 ⟨rfl,hb⟩;have HX9:=hid (aw (show w8.drew.heap[gs]?=_ from HX8.out) hb);have HC9:=hid ((HC8.out.drew).trans (Ch.of_below hb));have HK9:=hid (aA HX9.out).2.2.2.2.2.2.1;obtain ⟨w10,hrun,hbk,hgr⟩:=(HB8.out.ch (Ch.of_below (S:=fun _=>False) (show Below w8.heap.size w8 w9 from ((Below.refl _ w8).drew).trans hb)) id).put hn0 hn1 (ak blankL);have HB10:=hid hbk;have HX10:=hid ((Ch.of_grown (S:=fun k=>k=gm) hgr (fun k e=>by cases e;rfl)).keep HX9.out (fun e=>HS.out.ne e.symm));have HC10:=hid (HC9.out.trans (Ch.of_grown (S:=fun k=>k=gs∨k=gm) hgr (fun k e=>.inr (by cases e;rfl))));have HK10:=hid (aA HX10.out).2.2.2.2.2.2.1;clear hb hbk hgr))
   go_wp2_with fail;go_ret2;refine ⟨by rw [HV.out.1,HV.out.2.1];rfl,?_,HC10.out⟩;rw [HV.out.2.2];exact ⟨HX10.out,HB10.out,HS.out.ne,⟨HOK1.out,ci HOK2.out dm,(cK HK.out).1,(cK HK.out).2⟩⟩
  ·have he2:(te == 0)=false:=by simpa using he
   have HV:=hid (show aG s=te∧bH s=0∧bi s=aW s∧tB=s.B by
    have h1:aG s=te:=by rw [HE.out,HTR.out]
    have h2:=gM (h:=s.h) (B:=s.B) (by rw [HTR.out];exact he);rw [HTR.out] at h2;refine ⟨h1,?_,?_,h2⟩
    ·unfold bH;rw [h1,if_neg he]
    ·unfold bi;rw [h1,if_neg he])
   go_wp2_with fail;go_ret2;refine ⟨by rw [HV.out.1,HV.out.2.1];rfl,?_,HCZ.out⟩;rw [HV.out.2.2.1];refine ⟨by rw [bJ s];exact HXZ.out,?_,HS.out.ne,HS.out.ok⟩;rw [cU,← HV.out.2.2.2];exact HBZ.out
theorem jY (gs gm:Nat) (s:Sf) (w:World) (h:ShIs w gs gm s) (h0:s.left≠0) (hbe:bu s 1=21) (hsp:(s.h.spare == 0)=true) (hr:¬ (s.h.spare=0∧s.lim≤s.h.pages)):
  Calls Tryz.prog 32 #[.pointer (some ⟨gs,0,none⟩)] w fun e w'=>e=.returned (.tuple #[.int .i64 (bH s),.int .i64 (aG s)])∧ShIs w' gs gm (bi s)∧Ch (fun k=>k=gs∨k=gm) w w':=by
 have HK:=hid h.ok;have HE:=hid (show aG s=(am s.h s.B).e by unfold aG;rw [if_neg h0,if_neg hr]);have HBE:=hid hbe;have hr2:(s.h.spare == 0)=true→decide (s.lim≤s.h.pages)=false:=fun e=>by simp at e ⊢;omega
 clear h0 hbe hr;go_enter Tryz.func32,Tryz.ntmps32;go_wp2_with fail;refine (br 1 gs gm s w h).mono ?_;rintro e w1 ⟨rfl,hs,hc⟩;rw [HBE.out];have HS:=hid hs;have HC:=hid (hc.mono (S':=fun k=>k=gs∨k=gm) (fun _ _ e=>.inl e));have HBK:=hid (show BookIs w1 gm s.B from cU s ▸ hs.book)
 have HBL:=hid (show w1.heap[gs]?=some (jU { s with left:=(aW s).left } gm) from by
  have:=hs.blk;rw [bJ s] at this;exact this)
 clear h hs hc;obtain ⟨a1,a2,a3,a4,a5,a6,a7,a8⟩:=aA HBL.out;have a0:w1.cell? ⟨gs,0,none⟩=some (.int .i64 s.lim):=aa HBL.out 0;simp only at a1 a2 a3 a4 a5 a6 a7;have HG1:=hid (fun q:Nat=>(show (w1.drewN q).drew.heap[gs]?=some (jU { s with left:=(aW s).left } gm) from HBL.out));have HG2:=hid (fun q:Nat=>(show BookIs (w1.drewN q).drew gm s.B from HBK.out.block rfl));have hgm:=HBK.out.lt;have HG3:=hid (fun q:Nat=>(show Ch (fun k=>k=gs∨k=gm) w (w1.drewN q).drew from (HC.out.drewN q).drew))
 first
 | (have hr3:=hr2 hsp
    have hr4:s.h.pages<s.lim:=by simp at hr3;omega
    clear hr2;go_upto_region 4 with fail
    go_quiet (fail))
 | (clear hr2
    go_upto_region 4 with fail
    go_quiet (fail))
 go_upto_region 6 with fail
 obtain ⟨⟨tn,⟨xm,xp,xt,xs,xr,xc⟩,te,tB⟩,hTR⟩:∃ T,am s.h s.B=T:=⟨_,rfl⟩;have HTR:=hid hTR;clear hTR a0
 go_region_held3 (fun wn=>wn.cell? ⟨gs,1,none⟩=some (.int .i64 s.h.mode)∧wn.cell? ⟨gs,2,none⟩=some (.int .i64 s.h.pages)∧wn.cell? ⟨gs,3,none⟩=some (.int .i64 s.h.trunk)∧
   wn.cell? ⟨gs,4,none⟩=some (.int .i64 s.h.spare)∧wn.cell? ⟨gs,5,none⟩=some (.int .i64 s.h.root)∧wn.cell? ⟨gs,6,none⟩=some (.int .u64 s.h.change)∧wn.cell? ⟨gs,7,none⟩=some (.map (some gm)))
  ((first | go_keep | exact HXS.out))
  (first
  | (go_at_call 88
     refine (cM s.h gm s.B _ (HG2.out _) HK.out.l HK.out.h).mono ?_;rw [HTR.out];simp only [Hd.val,Hd.cells];rintro e w4 ⟨rfl,hbk,hch⟩;have HX4:=hid (hch.keep (HG1.out _) (fun e=>HS.out.ne e.symm));obtain ⟨k1,k2,k3,k4,k5,k6,k7,-⟩:=aA HX4.out;simp only at k1 k2 k3 k4 k5 k6 k7;have hz4:=af HX4.out;have HB4:=hid hbk;have HC4:=hid ((HG3.out _).trans (hch.mono (S':=fun k=>k=gs∨k=gm) (fun _ _ e=>.inr e)));clear hbk hch)
  | (go_at_call 88
     refine (cM s.h gm s.B _ ((HG2.out _).ch (Ch.alloc (Ch.refl (fun _=>False) _) _) id) HK.out.l HK.out.h).mono ?_;rw [HTR.out];simp only [Hd.val,Hd.cells];rintro e w4 ⟨rfl,hbk,hch⟩;have HX4:=hid (hch.keep (aj (HG1.out _) _) (fun e=>HS.out.ne e.symm));obtain ⟨k1,k2,k3,k4,k5,k6,k7,-⟩:=aA HX4.out;simp only at k1 k2 k3 k4 k5 k6 k7;have hz4:=af HX4.out;have HB4:=hid hbk;have HC4:=hid (((HG3.out _).alloc _).trans (hch.mono (S':=fun k=>k=gs∨k=gm) (fun _ _ e=>.inr e)));have HA4:=hid (show w4.heap[w1.heap.size]?=some (bn Hd.zero) from hch.keep (ah rfl) (by omega));obtain ⟨j0,j1,j2,j3,j4,j5,j6⟩:=ag HA4.out;obtain ⟨l0,l1,l2,l3,l4,l5⟩:=ao HA4.out;simp only [Hd.zero] at j0 j1 j2 j3 j4 j5;have HXS:=hid (ed ((aZ (Ch.refl (fun j=>j=w1.heap.size) w4) rfl ⟨xm,xp,xt,xs,xr,xc⟩).keep HX4.out (by omega)));clear hbk hch))
 all_goals
  first
  | (have HXZ:=hid ((aZ (Ch.refl (fun j=>j=w1.heap.size) w4) rfl ⟨xm,xp,xt,xs,xr,xc⟩).keep HX4.out (by omega))
     have HBZ:=hid (HB4.out.ch (aZ (Ch.refl (fun j=>j=w1.heap.size) w4) rfl ⟨xm,xp,xt,xs,xr,xc⟩) (by omega));have HHZ:=hid (bU HA4.out ⟨xm,xp,xt,xs,xr,xc⟩);have HCZ:=hid (HC4.out.then (aZ (Ch.refl (fun j=>j=w1.heap.size) w4) rfl ⟨xm,xp,xt,xs,xr,xc⟩) (fun i e=>.inr (by have:=HC.out.size;omega)));have hgn:gs≠w1.heap.size:=by omega
     clear HXS j0 j1 j2 j3 j4 j5 j6 l0 l1 l2 l3 l4 l5 k1 k2 k3 k4 k5 k6 k7 HX4 HB4 HC4 HA4 a1 a2 a3 a4 a5 a6 a7;generalize hwf:cB w4 w1.heap.size ⟨xm,xp,xt,xs,xr,xc⟩=wz at *;have hwf2:(((((w4.setCell ⟨w1.heap.size,0,none⟩ (.int .i64 xm)).setCell ⟨w1.heap.size,1,none⟩ (.int .i64 xp)).setCell ⟨w1.heap.size,2,none⟩ (.int .i64 xt)).setCell ⟨w1.heap.size,3,none⟩ (.int .i64 xs)).setCell ⟨w1.heap.size,4,none⟩ (.int .i64 xr)).setCell ⟨w1.heap.size,5,none⟩ (.int .u64 xc)=wz:=hwf;rw [hwf2];generalize w1.heap.size=gr at *;clear hwf hwf2)
  | (have HXZ:=hid (aj HX4.out (bn ⟨xm,xp,xt,xs,xr,xc⟩))
     have HBZ:=hid (HB4.out.ch (Ch.alloc (Ch.refl (fun _=>False) w4) (bn ⟨xm,xp,xt,xs,xr,xc⟩)) id);have HHZ:=hid (ah (w0:=w4) (g:=w4.heap.size) (o:=bn ⟨xm,xp,xt,xs,xr,xc⟩) rfl);have HCZ:=hid (HC4.out.alloc (bn ⟨xm,xp,xt,xs,xr,xc⟩));have hgn:gs≠w4.heap.size:=by omega
     clear k1 k2 k3 k4 k5 k6 k7 HX4 HB4 HC4 a1 a2 a3 a4 a5 a6 a7;generalize hwf:w4.alloc (bn ⟨xm,xp,xt,xs,xr,xc⟩)=wz at *;have hwf2:w4.alloc (.cells #[.int .i64 xm,.int .i64 xp,.int .i64 xt,.int .i64 xs,.int .i64 xr,.int .u64 xc] 38)=wz:=hwf;rw [hwf2];generalize w4.heap.size=gr at *;clear hwf hwf2)
  obtain ⟨x1,x2,x3,x4,x5,x6,x7,x8⟩:=aA HXZ.out;obtain ⟨h0,h1,h2,h3,h4,h5,h6⟩:=ag HHZ.out;have f1:=ab HXZ.out 1;have f2:=ab HXZ.out 2;have f3:=ab HXZ.out 3;have f4:=ab HXZ.out 4;have f5:=ab HXZ.out 5;have f6:=ab HXZ.out 6;simp only at x1 x2 x3 x4 x5 x6 x7 h0 h1 h2 h3 h4 h5;by_cases he:te=0
  ·subst he;have hok:=fb HK.out.h HK.out.l (by rw [HTR.out]);rw [HTR.out] at hok;simp only at hok;obtain ⟨hok1,hok2,hn0,hn1⟩:=hok;have HOK1:=hid hok1;have HOK2:=hid hok2;clear hok1 hok2
   have HV:=hid (show aG s=0∧bH s=tn∧bi s={ s with h:=⟨xm,xp,xt,xs,xr,xc⟩,B:=aY tB tn blankL,left:=(aW s).left } by
    have he:aG s=0:=by rw [HE.out,HTR.out]
    refine ⟨he,?_,?_⟩
    ·unfold bH;rw [if_pos he,HTR.out]
    ·unfold bi;rw [if_pos he,HTR.out]
     conv=>lhs;rw [bJ s])
   have HX8:=hid (ei HXZ.out ⟨xm,xp,xt,xs,xr,xc⟩);have HB8:=hid (HBZ.out.ch (dw (Ch.refl (fun j=>j=gs) wz) rfl ⟨xm,xp,xt,xs,xr,xc⟩) HS.out.ne);have HC8:=hid (dw (g:=gs) HCZ.out (.inl rfl) ⟨xm,xp,xt,xs,xr,xc⟩);go_upto_region 10 with fail
   generalize hwf:sO wz gs ⟨xm,xp,xt,xs,xr,xc⟩=w8 at *;have hwf2:(((((wz.setCell ⟨gs,1,none⟩ (.int .i64 xm)).setCell ⟨gs,2,none⟩ (.int .i64 xp)).setCell ⟨gs,3,none⟩ (.int .i64 xt)).setCell ⟨gs,4,none⟩ (.int .i64 xs)).setCell ⟨gs,5,none⟩ (.int .i64 xr)).setCell ⟨gs,6,none⟩ (.int .u64 xc)=w8:=hwf;rw [hwf2];clear hwf hwf2 x1 x2 x3 x4 x5 x6 x7 h0 h1 h2 h3 h4 h5 f1 f2 f3 f4 f5 f6;have x7:=(aA HX8.out).2.2.2.2.2.2.1;have h8:=HB8.out.lt
   go_region_held3 (fun wn=>wn.cell? ⟨gs,7,none⟩=some (.map (some gm)))
    ((first | go_keep | exact HK9.out | exact HK10.out))
    ((go_at_call 89
      refine (dI _).mono ?_;rintro e w9 ⟨rfl,hb⟩;have HX9:=hid (aw (show w8.drew.heap[gs]?=_ from HX8.out) hb);have HC9:=hid ((HC8.out.drew).trans (Ch.of_below hb));have HK9:=hid (aA HX9.out).2.2.2.2.2.2.1;obtain ⟨w10,hrun,hbk,hgr⟩:=(HB8.out.ch (Ch.of_below (S:=fun _=>False) (show Below w8.heap.size w8 w9 from ((Below.refl _ w8).drew).trans hb)) id).put hn0 hn1 (ak blankL);have HB10:=hid hbk;have HX10:=hid ((Ch.of_grown (S:=fun k=>k=gm) hgr (fun k e=>by cases e;rfl)).keep HX9.out (fun e=>HS.out.ne e.symm));have HC10:=hid (HC9.out.trans (Ch.of_grown (S:=fun k=>k=gs∨k=gm) hgr (fun k e=>.inr (by cases e;rfl))));have HK10:=hid (aA HX10.out).2.2.2.2.2.2.1;clear hb hbk hgr))
   go_wp2_with fail;go_ret2;refine ⟨by rw [HV.out.1,HV.out.2.1];rfl,?_,HC10.out⟩;rw [HV.out.2.2];exact ⟨HX10.out,HB10.out,HS.out.ne,⟨HOK1.out,ci HOK2.out dm,(cK HK.out).1,(cK HK.out).2⟩⟩
  ·have he2:(te == 0)=false:=by simpa using he
   have HV:=hid (show aG s=te∧bH s=0∧bi s=aW s∧tB=s.B by
    have h1:aG s=te:=by rw [HE.out,HTR.out]
    have h2:=gM (h:=s.h) (B:=s.B) (by rw [HTR.out];exact he);rw [HTR.out] at h2;refine ⟨h1,?_,?_,h2⟩
    ·unfold bH;rw [h1,if_neg he]
    ·unfold bi;rw [h1,if_neg he])
   go_wp2_with fail;go_ret2;refine ⟨by rw [HV.out.1,HV.out.2.1];rfl,?_,HCZ.out⟩;rw [HV.out.2.2.1];refine ⟨by rw [bJ s];exact HXZ.out,?_,HS.out.ne,HS.out.ok⟩;rw [cU,← HV.out.2.2.2];exact HBZ.out
theorem iU (gs gm:Nat) (s:Sf) (w:World) (h:ShIs w gs gm s) (h0:s.left≠0) (hbe:bu s 1=21) (hsp:(s.h.spare == 0)=false) (hr:¬ (s.h.spare=0∧s.lim≤s.h.pages)):
  Calls Tryz.prog 32 #[.pointer (some ⟨gs,0,none⟩)] w fun e w'=>e=.returned (.tuple #[.int .i64 (bH s),.int .i64 (aG s)])∧ShIs w' gs gm (bi s)∧Ch (fun k=>k=gs∨k=gm) w w':=by
 have HK:=hid h.ok;have HE:=hid (show aG s=(am s.h s.B).e by unfold aG;rw [if_neg h0,if_neg hr]);have HBE:=hid hbe;have hr2:(s.h.spare == 0)=true→decide (s.lim≤s.h.pages)=false:=fun e=>by simp at e ⊢;omega
 clear h0 hbe hr;go_enter Tryz.func32,Tryz.ntmps32;go_wp2_with fail;refine (br 1 gs gm s w h).mono ?_;rintro e w1 ⟨rfl,hs,hc⟩;rw [HBE.out];have HS:=hid hs;have HC:=hid (hc.mono (S':=fun k=>k=gs∨k=gm) (fun _ _ e=>.inl e));have HBK:=hid (show BookIs w1 gm s.B from cU s ▸ hs.book)
 have HBL:=hid (show w1.heap[gs]?=some (jU { s with left:=(aW s).left } gm) from by
  have:=hs.blk;rw [bJ s] at this;exact this)
 clear h hs hc;obtain ⟨a1,a2,a3,a4,a5,a6,a7,a8⟩:=aA HBL.out;have a0:w1.cell? ⟨gs,0,none⟩=some (.int .i64 s.lim):=aa HBL.out 0;simp only at a1 a2 a3 a4 a5 a6 a7;have HG1:=hid (fun q:Nat=>(show (w1.drewN q).drew.heap[gs]?=some (jU { s with left:=(aW s).left } gm) from HBL.out));have HG2:=hid (fun q:Nat=>(show BookIs (w1.drewN q).drew gm s.B from HBK.out.block rfl));have hgm:=HBK.out.lt;have HG3:=hid (fun q:Nat=>(show Ch (fun k=>k=gs∨k=gm) w (w1.drewN q).drew from (HC.out.drewN q).drew))
 first
 | (have hr3:=hr2 hsp
    have hr4:s.h.pages<s.lim:=by simp at hr3;omega
    clear hr2;go_upto_region 4 with fail
    go_quiet (fail))
 | (clear hr2
    go_upto_region 4 with fail
    go_quiet (fail))
 go_upto_region 6 with fail
 obtain ⟨⟨tn,⟨xm,xp,xt,xs,xr,xc⟩,te,tB⟩,hTR⟩:∃ T,am s.h s.B=T:=⟨_,rfl⟩;have HTR:=hid hTR;clear hTR a0
 go_region_held3 (fun wn=>wn.cell? ⟨gs,1,none⟩=some (.int .i64 s.h.mode)∧wn.cell? ⟨gs,2,none⟩=some (.int .i64 s.h.pages)∧wn.cell? ⟨gs,3,none⟩=some (.int .i64 s.h.trunk)∧
   wn.cell? ⟨gs,4,none⟩=some (.int .i64 s.h.spare)∧wn.cell? ⟨gs,5,none⟩=some (.int .i64 s.h.root)∧wn.cell? ⟨gs,6,none⟩=some (.int .u64 s.h.change)∧wn.cell? ⟨gs,7,none⟩=some (.map (some gm)))
  ((first | go_keep | exact HXS.out))
  (first
  | (go_at_call 88
     refine (cM s.h gm s.B _ (HG2.out _) HK.out.l HK.out.h).mono ?_;rw [HTR.out];simp only [Hd.val,Hd.cells];rintro e w4 ⟨rfl,hbk,hch⟩;have HX4:=hid (hch.keep (HG1.out _) (fun e=>HS.out.ne e.symm));obtain ⟨k1,k2,k3,k4,k5,k6,k7,-⟩:=aA HX4.out;simp only at k1 k2 k3 k4 k5 k6 k7;have hz4:=af HX4.out;have HB4:=hid hbk;have HC4:=hid ((HG3.out _).trans (hch.mono (S':=fun k=>k=gs∨k=gm) (fun _ _ e=>.inr e)));clear hbk hch)
  | (go_at_call 88
     refine (cM s.h gm s.B _ ((HG2.out _).ch (Ch.alloc (Ch.refl (fun _=>False) _) _) id) HK.out.l HK.out.h).mono ?_;rw [HTR.out];simp only [Hd.val,Hd.cells];rintro e w4 ⟨rfl,hbk,hch⟩;have HX4:=hid (hch.keep (aj (HG1.out _) _) (fun e=>HS.out.ne e.symm));obtain ⟨k1,k2,k3,k4,k5,k6,k7,-⟩:=aA HX4.out;simp only at k1 k2 k3 k4 k5 k6 k7;have hz4:=af HX4.out;have HB4:=hid hbk;have HC4:=hid (((HG3.out _).alloc _).trans (hch.mono (S':=fun k=>k=gs∨k=gm) (fun _ _ e=>.inr e)));have HA4:=hid (show w4.heap[w1.heap.size]?=some (bn Hd.zero) from hch.keep (ah rfl) (by omega));obtain ⟨j0,j1,j2,j3,j4,j5,j6⟩:=ag HA4.out;obtain ⟨l0,l1,l2,l3,l4,l5⟩:=ao HA4.out;simp only [Hd.zero] at j0 j1 j2 j3 j4 j5;have HXS:=hid (ed ((aZ (Ch.refl (fun j=>j=w1.heap.size) w4) rfl ⟨xm,xp,xt,xs,xr,xc⟩).keep HX4.out (by omega)));clear hbk hch))
 all_goals
  first
  | (have HXZ:=hid ((aZ (Ch.refl (fun j=>j=w1.heap.size) w4) rfl ⟨xm,xp,xt,xs,xr,xc⟩).keep HX4.out (by omega))
     have HBZ:=hid (HB4.out.ch (aZ (Ch.refl (fun j=>j=w1.heap.size) w4) rfl ⟨xm,xp,xt,xs,xr,xc⟩) (by omega));have HHZ:=hid (bU HA4.out ⟨xm,xp,xt,xs,xr,xc⟩);have HCZ:=hid (HC4.out.then (aZ (Ch.refl (fun j=>j=w1.heap.size) w4) rfl ⟨xm,xp,xt,xs,xr,xc⟩) (fun i e=>.inr (by have:=HC.out.size;omega)));have hgn:gs≠w1.heap.size:=by omega
     clear HXS j0 j1 j2 j3 j4 j5 j6 l0 l1 l2 l3 l4 l5 k1 k2 k3 k4 k5 k6 k7 HX4 HB4 HC4 HA4 a1 a2 a3 a4 a5 a6 a7;generalize hwf:cB w4 w1.heap.size ⟨xm,xp,xt,xs,xr,xc⟩=wz at *;have hwf2:(((((w4.setCell ⟨w1.heap.size,0,none⟩ (.int .i64 xm)).setCell ⟨w1.heap.size,1,none⟩ (.int .i64 xp)).setCell ⟨w1.heap.size,2,none⟩ (.int .i64 xt)).setCell ⟨w1.heap.size,3,none⟩ (.int .i64 xs)).setCell ⟨w1.heap.size,4,none⟩ (.int .i64 xr)).setCell ⟨w1.heap.size,5,none⟩ (.int .u64 xc)=wz:=hwf;rw [hwf2];generalize w1.heap.size=gr at *;clear hwf hwf2)
  | (have HXZ:=hid (aj HX4.out (bn ⟨xm,xp,xt,xs,xr,xc⟩))
     have HBZ:=hid (HB4.out.ch (Ch.alloc (Ch.refl (fun _=>False) w4) (bn ⟨xm,xp,xt,xs,xr,xc⟩)) id);have HHZ:=hid (ah (w0:=w4) (g:=w4.heap.size) (o:=bn ⟨xm,xp,xt,xs,xr,xc⟩) rfl);have HCZ:=hid (HC4.out.alloc (bn ⟨xm,xp,xt,xs,xr,xc⟩));have hgn:gs≠w4.heap.size:=by omega
     clear k1 k2 k3 k4 k5 k6 k7 HX4 HB4 HC4 a1 a2 a3 a4 a5 a6 a7;generalize hwf:w4.alloc (bn ⟨xm,xp,xt,xs,xr,xc⟩)=wz at *;have hwf2:w4.alloc (.cells #[.int .i64 xm,.int .i64 xp,.int .i64 xt,.int .i64 xs,.int .i64 xr,.int .u64 xc] 38)=wz:=hwf;rw [hwf2];generalize w4.heap.size=gr at *;clear hwf hwf2)
  obtain ⟨x1,x2,x3,x4,x5,x6,x7,x8⟩:=aA HXZ.out;obtain ⟨h0,h1,h2,h3,h4,h5,h6⟩:=ag HHZ.out;have f1:=ab HXZ.out 1;have f2:=ab HXZ.out 2;have f3:=ab HXZ.out 3;have f4:=ab HXZ.out 4;have f5:=ab HXZ.out 5;have f6:=ab HXZ.out 6;simp only at x1 x2 x3 x4 x5 x6 x7 h0 h1 h2 h3 h4 h5;by_cases he:te=0
  ·subst he;have hok:=fb HK.out.h HK.out.l (by rw [HTR.out]);rw [HTR.out] at hok;simp only at hok;obtain ⟨hok1,hok2,hn0,hn1⟩:=hok;have HOK1:=hid hok1;have HOK2:=hid hok2;clear hok1 hok2
   have HV:=hid (show aG s=0∧bH s=tn∧bi s={ s with h:=⟨xm,xp,xt,xs,xr,xc⟩,B:=aY tB tn blankL,left:=(aW s).left } by
    have he:aG s=0:=by rw [HE.out,HTR.out]
    refine ⟨he,?_,?_⟩
    ·unfold bH;rw [if_pos he,HTR.out]
    ·unfold bi;rw [if_pos he,HTR.out]
     conv=>lhs;rw [bJ s])
   have HX8:=hid (ei HXZ.out ⟨xm,xp,xt,xs,xr,xc⟩);have HB8:=hid (HBZ.out.ch (dw (Ch.refl (fun j=>j=gs) wz) rfl ⟨xm,xp,xt,xs,xr,xc⟩) HS.out.ne);have HC8:=hid (dw (g:=gs) HCZ.out (.inl rfl) ⟨xm,xp,xt,xs,xr,xc⟩);go_upto_region 10 with fail
   generalize hwf:sO wz gs ⟨xm,xp,xt,xs,xr,xc⟩=w8 at *;have hwf2:(((((wz.setCell ⟨gs,1,none⟩ (.int .i64 xm)).setCell ⟨gs,2,none⟩ (.int .i64 xp)).setCell ⟨gs,3,none⟩ (.int .i64 xt)).setCell ⟨gs,4,none⟩ (.int .i64 xs)).setCell ⟨gs,5,none⟩ (.int .i64 xr)).setCell ⟨gs,6,none⟩ (.int .u64 xc)=w8:=hwf;rw [hwf2];clear hwf hwf2 x1 x2 x3 x4 x5 x6 x7 h0 h1 h2 h3 h4 h5 f1 f2 f3 f4 f5 f6;have x7:=(aA HX8.out).2.2.2.2.2.2.1;have h8:=HB8.out.lt
   go_region_held3 (fun wn=>wn.cell? ⟨gs,7,none⟩=some (.map (some gm)))
    ((first | go_keep | exact HK9.out | exact HK10.out))
    ((go_at_call 89
      refine (dI _).mono ?_;rintro e w9 ⟨rfl,hb⟩;have HX9:=hid (aw (show w8.drew.heap[gs]?=_ from HX8.out) hb);have HC9:=hid ((HC8.out.drew).trans (Ch.of_below hb));have HK9:=hid (aA HX9.out).2.2.2.2.2.2.1;obtain ⟨w10,hrun,hbk,hgr⟩:=(HB8.out.ch (Ch.of_below (S:=fun _=>False) (show Below w8.heap.size w8 w9 from ((Below.refl _ w8).drew).trans hb)) id).put hn0 hn1 (ak blankL);have HB10:=hid hbk;have HX10:=hid ((Ch.of_grown (S:=fun k=>k=gm) hgr (fun k e=>by cases e;rfl)).keep HX9.out (fun e=>HS.out.ne e.symm));have HC10:=hid (HC9.out.trans (Ch.of_grown (S:=fun k=>k=gs∨k=gm) hgr (fun k e=>.inr (by cases e;rfl))));have HK10:=hid (aA HX10.out).2.2.2.2.2.2.1;clear hb hbk hgr))
   go_wp2_with fail;go_ret2;refine ⟨by rw [HV.out.1,HV.out.2.1];rfl,?_,HC10.out⟩;rw [HV.out.2.2];exact ⟨HX10.out,HB10.out,HS.out.ne,⟨HOK1.out,ci HOK2.out dm,(cK HK.out).1,(cK HK.out).2⟩⟩
  ·have he2:(te == 0)=false:=by simpa using he
   have HV:=hid (show aG s=te∧bH s=0∧bi s=aW s∧tB=s.B by
    have h1:aG s=te:=by rw [HE.out,HTR.out]
    have h2:=gM (h:=s.h) (B:=s.B) (by rw [HTR.out];exact he);rw [HTR.out] at h2;refine ⟨h1,?_,?_,h2⟩
    ·unfold bH;rw [h1,if_neg he]
    ·unfold bi;rw [h1,if_neg he])
   go_wp2_with fail;go_ret2;refine ⟨by rw [HV.out.1,HV.out.2.1];rfl,?_,HCZ.out⟩;rw [HV.out.2.2.1];refine ⟨by rw [bJ s];exact HXZ.out,?_,HS.out.ne,HS.out.ok⟩;rw [cU,← HV.out.2.2.2];exact HBZ.out
theorem kP (gs gm:Nat) (s:Sf) (w:World) (h:ShIs w gs gm s) (h0:s.left≠0) (hbe:bu s 1=0) (hr:s.h.spare=0∧s.lim≤s.h.pages):
  Calls Tryz.prog 32 #[.pointer (some ⟨gs,0,none⟩)] w fun e w'=>e=.returned (.tuple #[.int .i64 (bH s),.int .i64 (aG s)])∧ShIs w' gs gm (bi s)∧Ch (fun k=>k=gs∨k=gm) w w':=by
 have HV:=hid (show bH s=0∧aG s=22∧bi s=aW s by
  have:aG s=22:=by unfold aG;rw [if_neg h0,if_pos hr]
  unfold bH bi;rw [this];exact ⟨rfl,rfl,rfl⟩)
 have HBE:=hid hbe;have hr1:(s.h.spare == 0)=true:=by simpa using hr.1
 have hr2:decide (s.lim≤s.h.pages)=true:=decide_eq_true hr.2;clear h0 hbe hr;go_enter Tryz.func32,Tryz.ntmps32;go_wp2_with fail;refine (br 1 gs gm s w h).mono ?_;rintro e w1 ⟨rfl,hs,hc⟩;rw [HBE.out];have HS:=hid hs;have HC:=hid (hc.mono (S':=fun k=>k=gs∨k=gm) (fun _ _ e=>.inl e))
 have HBL:=hid (show w1.heap[gs]?=some (jU { s with left:=(aW s).left } gm) from by
  have:=hs.blk;rw [bJ s] at this;exact this)
 clear h hs hc;obtain ⟨a1,a2,a3,a4,a5,a6,a7,a8⟩:=aA HBL.out;have a0:w1.cell? ⟨gs,0,none⟩=some (.int .i64 s.lim):=aa HBL.out 0;simp only at a1 a2 a3 a4 a5 a6 a7;go_upto_region 4 with fail
 go_quiet (fail);go_wp2_with fail;go_ret2;exact ⟨by rw [HV.out.1,HV.out.2.1];rfl,by rw [HV.out.2.2];exact HS.out.ch (Ch.drewN (Ch.refl (fun _=>False) _) _) id id,HC.out.drewN _⟩
theorem jX (gs gm:Nat) (s:Sf) (w:World) (h:ShIs w gs gm s) (h0:s.left≠0) (hbe:bu s 1=21) (hr:s.h.spare=0∧s.lim≤s.h.pages):
  Calls Tryz.prog 32 #[.pointer (some ⟨gs,0,none⟩)] w fun e w'=>e=.returned (.tuple #[.int .i64 (bH s),.int .i64 (aG s)])∧ShIs w' gs gm (bi s)∧Ch (fun k=>k=gs∨k=gm) w w':=by
 have HV:=hid (show bH s=0∧aG s=22∧bi s=aW s by
  have:aG s=22:=by unfold aG;rw [if_neg h0,if_pos hr]
  unfold bH bi;rw [this];exact ⟨rfl,rfl,rfl⟩)
 have HBE:=hid hbe;have hr1:(s.h.spare == 0)=true:=by simpa using hr.1
 have hr2:decide (s.lim≤s.h.pages)=true:=decide_eq_true hr.2;clear h0 hbe hr;go_enter Tryz.func32,Tryz.ntmps32;go_wp2_with fail;refine (br 1 gs gm s w h).mono ?_;rintro e w1 ⟨rfl,hs,hc⟩;rw [HBE.out];have HS:=hid hs;have HC:=hid (hc.mono (S':=fun k=>k=gs∨k=gm) (fun _ _ e=>.inl e))
 have HBL:=hid (show w1.heap[gs]?=some (jU { s with left:=(aW s).left } gm) from by
  have:=hs.blk;rw [bJ s] at this;exact this)
 clear h hs hc;obtain ⟨a1,a2,a3,a4,a5,a6,a7,a8⟩:=aA HBL.out;have a0:w1.cell? ⟨gs,0,none⟩=some (.int .i64 s.lim):=aa HBL.out 0;simp only at a1 a2 a3 a4 a5 a6 a7;go_upto_region 4 with fail
 go_quiet (fail);go_wp2_with fail;go_ret2;exact ⟨by rw [HV.out.1,HV.out.2.1];rfl,by rw [HV.out.2.2];exact HS.out.ch (Ch.drewN (Ch.refl (fun _=>False) _) _) id id,HC.out.drewN _⟩
theorem nO (gs gm:Nat) (s:Sf) (w:World) (h:ShIs w gs gm s) (h0:s.left=0):
  Calls Tryz.prog 32 #[.pointer (some ⟨gs,0,none⟩)] w fun e w'=>e=.returned (.tuple #[.int .i64 (bH s),.int .i64 (aG s)])∧ShIs w' gs gm (bi s)∧Ch (fun k=>k=gs∨k=gm) w w':=by
 have HV:=hid (show bu s 1=11∧bH s=0∧aG s=11∧bi s=aW s by
  have:aG s=11:=by unfold aG;rw [if_pos h0]
  unfold bH bi bu;rw [this,if_pos h0];exact ⟨rfl,rfl,rfl,rfl⟩)
 clear h0;go_enter Tryz.func32,Tryz.ntmps32;go_wp2_with fail;refine (br 1 gs gm s w h).mono ?_;rintro e w1 ⟨rfl,hs,hc⟩;rw [HV.out.1];have HS:=hid hs;have HC:=hid (hc.mono (S':=fun k=>k=gs∨k=gm) (fun _ _ e=>.inl e));clear h hs hc;go_wp2_with fail;go_ret2;exact ⟨by rw [HV.out.2.1,HV.out.2.2.1];rfl,by rw [HV.out.2.2.2];exact HS.out,HC.out⟩
theorem pA (gs gm:Nat) (s:Sf) (w:World) (h:ShIs w gs gm s):
  Calls Tryz.prog 32 #[.pointer (some ⟨gs,0,none⟩)] w fun e w'=>e=.returned (.tuple #[.int .i64 (bH s),.int .i64 (aG s)])∧ShIs w' gs gm (bi s)∧Ch (fun k=>k=gs∨k=gm) w w':=by
 by_cases h0:s.left=0
 ·exact nO gs gm s w h h0
 ·by_cases hr:s.h.spare=0∧s.lim≤s.h.pages
  ·rcases qN h0 with hb | hb
   ·exact kP gs gm s w h h0 hb hr
   ·exact jX gs gm s w h h0 hb hr
  ·rcases qN h0 with hb | hb <;> cases hs:(s.h.spare == 0)
   ·exact jZ gs gm s w h h0 hb hs hr
   ·exact kQ gs gm s w h h0 hb hs hr
   ·exact iU gs gm s w h h0 hb hs hr
   ·exact jY gs gm s w h h0 hb hs hr
end Go.Proofs.YtdmhbgpejppbkaaGreat
