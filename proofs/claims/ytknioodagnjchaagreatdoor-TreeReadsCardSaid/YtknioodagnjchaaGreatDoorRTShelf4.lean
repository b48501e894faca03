/- shelf: Free; the calls as programs' steps. -/
import Derived.Test.YtknioodagnjchaaGreatDoorRTShelf3
set_option maxRecDepth 100000
set_option maxHeartbeats 2000000
namespace Go.Proofs.YtknioodagnjchaaGreatDoor
open Go.Lib (hid)
open Go.RowKit Go.Maps
theorem sr {h:Hd} {B:Int→List UInt8} {n:Int} (he:(cu h B n).e≠0):(cu h B n).B=B:=by
 unfold cu at *
 split at he
 ·rename_i h1;rw [if_pos h1];rfl
 ·rename_i h1
  rw [if_neg h1]
  split at he
  ·rename_i h2;rw [if_pos h2];rfl
  ·rename_i h2
   rw [if_neg h2]
   split at he
   ·exact absurd rfl he
   ·rename_i h3
    rw [if_neg h3]
    split at he
    ·rename_i h4;rw [if_pos h4];rfl
    ·split at he
     ·exact absurd rfl he
     ·exact absurd rfl he
theorem ri {h:Hd} {B:Int→List UInt8} {n:Int} (hk:h.Ok) (hl:∀ n,(B n).length=232) (he:(cu h B n).e=0):(cu h B n).h.Ok∧(∀ m,((cu h B n).B m).length=232):=by
 have hp2:=hk.p2;have hs0:=hk.s0;unfold cu at *
 split at he
 ·cases he
 ·rename_i h1
  rw [if_neg h1]
  split at he
  ·cases he
  ·rename_i h2
   rw [if_neg h2]
   split at he
   ·rename_i h3
    rw [if_pos h3];exact ⟨⟨hk.p1,hk.p2,by simp only;omega,by simp only;omega,by simp only;omega,by simp only;omega⟩,bW hl (cY _)⟩
   ·rename_i h3
    rw [if_neg h3]
    split at he
    ·cases he
    ·rename_i h4
     rw [if_neg h4]
     split at he
     ·rename_i h5
      rw [if_pos h5];exact ⟨⟨hk.p1,hk.p2,hk.t0,hk.t1,by simp only;omega,by simp only;omega⟩,bW hl (cY _)⟩
     ·rename_i h5
      rw [if_neg h5];exact ⟨⟨hk.p1,hk.p2,by simp only;omega,by simp only;omega,by simp only;omega,by simp only;omega⟩,bW hl (cY _)⟩
theorem gQ (gs gm:Nat) (s:Sf) (n:Int) (w:World) (h:ShIs w gs gm s):
  Calls Tryz.prog 45 #[.pointer (some ⟨gs,0,none⟩),.int .i64 n] w fun e w'=>e=.returned (.int .i64 (co s n))∧ShIs w' gs gm (dh s n)∧Ch (fun k=>k=gs∨k=gm) w w':=by
 have HK:=hid h.ok;go_enter Tryz.func45,Tryz.ntmps45;go_wp2_with fail;refine (c9 n gs gm s w h).mono ?_;rintro e w1 ⟨rfl,hs,hc⟩;have HS:=hid hs;have HC:=hid (hc.mono (S':=fun k=>k=gs∨k=gm) (fun _ _ e=>.inl e));have HBK:=hid (show BookIs w1 gm s.B from eA s ▸ hs.book)
 have HBL:=hid (show w1.heap[gs]?=some (lT { s with left:=(bl s).left } gm) from by
  have:=hs.blk;rw [dl s] at this;exact this)
 clear h hs hc;obtain ⟨be,hbe⟩:∃ be,bc s n=be:=⟨_,rfl⟩;rw [hbe];have HBE:=hid hbe;clear hbe;by_cases h0:be=0
 ·subst h0;have HE:=hid (show co s n=(cu s.h s.B n).e by unfold co;rw [HBE.out];rfl);obtain ⟨a1,a2,a3,a4,a5,a6,a7,a8⟩:=aG HBL.out;simp only at a1 a2 a3 a4 a5 a6 a7;have hgm:=HBK.out.lt;obtain ⟨⟨⟨xm,xp,xt,xs,xr,xc⟩,te,tB⟩,hTR⟩:∃ T,cu s.h s.B n=T:=⟨_,rfl⟩;have HTR:=hid hTR;clear hTR;go_upto_region 4 with fail
  go_region_held3 (fun wn=>wn.cell? ⟨gs,1,none⟩=some (.int .i64 s.h.mode)∧wn.cell? ⟨gs,2,none⟩=some (.int .i64 s.h.pages)∧wn.cell? ⟨gs,3,none⟩=some (.int .i64 s.h.trunk)∧
    wn.cell? ⟨gs,4,none⟩=some (.int .i64 s.h.spare)∧wn.cell? ⟨gs,5,none⟩=some (.int .i64 s.h.root)∧wn.cell? ⟨gs,6,none⟩=some (.int .u64 s.h.change)∧wn.cell? ⟨gs,7,none⟩=some (.map (some gm)))
   ((first | go_keep | exact HXS.out))
   (first
   | (go_at_call 93
      refine (ng s.h n gm s.B _ (HBK.out.block (w':=w1.drew) rfl) HK.out.l HK.out.h).mono ?_;rw [HTR.out];simp only [Hd.val,Hd.cells];rintro e w4 ⟨rfl,hbk,hch⟩;have HX4:=hid (hch.keep (show w1.drew.heap[gs]?=_ from HBL.out) (fun e=>HS.out.ne e.symm));obtain ⟨k1,k2,k3,k4,k5,k6,k7,-⟩:=aG HX4.out;simp only at k1 k2 k3 k4 k5 k6 k7;have hz4:=aj HX4.out;have HB4:=hid hbk;have HC4:=hid (HC.out.drew.trans (hch.mono (S':=fun k=>k=gs∨k=gm) (fun _ _ e=>.inr e)));clear hbk hch)
   | (go_at_call 93
      refine (ng s.h n gm s.B _ ((HBK.out.block (w':=w1.drew) rfl).ch (Ch.alloc (Ch.refl (fun _=>False) _) _) id) HK.out.l HK.out.h).mono ?_;rw [HTR.out];simp only [Hd.val,Hd.cells];rintro e w4 ⟨rfl,hbk,hch⟩;have HX4:=hid (hch.keep (ai (show w1.drew.heap[gs]?=_ from HBL.out) _) (fun e=>HS.out.ne e.symm));obtain ⟨k1,k2,k3,k4,k5,k6,k7,-⟩:=aG HX4.out;simp only at k1 k2 k3 k4 k5 k6 k7;have hz4:=aj HX4.out;have HB4:=hid hbk;have HC4:=hid ((HC.out.drew.alloc _).trans (hch.mono (S':=fun k=>k=gs∨k=gm) (fun _ _ e=>.inr e)));have HA4:=hid (show w4.heap[w1.heap.size]?=some (cQ Hd.zero) from hch.keep (ag rfl) (by omega));obtain ⟨j0,j1,j2,j3,j4,j5,j6⟩:=au HA4.out;obtain ⟨l0,l1,l2,l3,l4,l5⟩:=aN HA4.out;simp only [Hd.zero] at j0 j1 j2 j3 j4 j5;have HXS:=hid (gp ((bR (Ch.refl (fun j=>j=w1.heap.size) w4) rfl ⟨xm,xp,xt,xs,xr,xc⟩).keep HX4.out (by omega)));clear hbk hch))
  all_goals
   first
   | (have HXZ:=hid ((bR (Ch.refl (fun j=>j=w1.heap.size) w4) rfl ⟨xm,xp,xt,xs,xr,xc⟩).keep HX4.out (by omega))
      have HBZ:=hid (HB4.out.ch (bR (Ch.refl (fun j=>j=w1.heap.size) w4) rfl ⟨xm,xp,xt,xs,xr,xc⟩) (by omega));have HHZ:=hid (dL HA4.out ⟨xm,xp,xt,xs,xr,xc⟩);have HCZ:=hid (HC4.out.then (bR (Ch.refl (fun j=>j=w1.heap.size) w4) rfl ⟨xm,xp,xt,xs,xr,xc⟩) (fun i e=>.inr (by have:=HC.out.size;omega)));have hgn:gs≠w1.heap.size:=by omega
      clear HXS j0 j1 j2 j3 j4 j5 j6 l0 l1 l2 l3 l4 l5 k1 k2 k3 k4 k5 k6 k7 HX4 HB4 HC4 HA4 a1 a2 a3 a4 a5 a6 a7;generalize hwf:hP w4 w1.heap.size ⟨xm,xp,xt,xs,xr,xc⟩=wz at *;have hwf2:(((((w4.setCell ⟨w1.heap.size,0,none⟩ (.int .i64 xm)).setCell ⟨w1.heap.size,1,none⟩ (.int .i64 xp)).setCell ⟨w1.heap.size,2,none⟩ (.int .i64 xt)).setCell ⟨w1.heap.size,3,none⟩ (.int .i64 xs)).setCell ⟨w1.heap.size,4,none⟩ (.int .i64 xr)).setCell ⟨w1.heap.size,5,none⟩ (.int .u64 xc)=wz:=hwf;rw [hwf2];generalize w1.heap.size=gr at *;clear hwf hwf2)
   | (have HXZ:=hid (ai HX4.out (cQ ⟨xm,xp,xt,xs,xr,xc⟩))
      have HBZ:=hid (HB4.out.ch (Ch.alloc (Ch.refl (fun _=>False) w4) (cQ ⟨xm,xp,xt,xs,xr,xc⟩)) id);have HHZ:=hid (ag (w0:=w4) (g:=w4.heap.size) (o:=cQ ⟨xm,xp,xt,xs,xr,xc⟩) rfl);have HCZ:=hid (HC4.out.alloc (cQ ⟨xm,xp,xt,xs,xr,xc⟩));have hgn:gs≠w4.heap.size:=by omega
      clear k1 k2 k3 k4 k5 k6 k7 HX4 HB4 HC4 a1 a2 a3 a4 a5 a6 a7;generalize hwf:w4.alloc (cQ ⟨xm,xp,xt,xs,xr,xc⟩)=wz at *;have hwf2:w4.alloc (.cells #[.int .i64 xm,.int .i64 xp,.int .i64 xt,.int .i64 xs,.int .i64 xr,.int .u64 xc] 51)=wz:=hwf;rw [hwf2];generalize w4.heap.size=gr at *;clear hwf hwf2)
   obtain ⟨x1,x2,x3,x4,x5,x6,x7,x8⟩:=aG HXZ.out;obtain ⟨h0,h1,h2,h3,h4,h5,h6⟩:=au HHZ.out;have f1:=ab HXZ.out 1;have f2:=ab HXZ.out 2;have f3:=ab HXZ.out 3;have f4:=ab HXZ.out 4;have f5:=ab HXZ.out 5;have f6:=ab HXZ.out 6;simp only at x1 x2 x3 x4 x5 x6 x7 h0 h1 h2 h3 h4 h5;by_cases he:te=0
   ·subst he;have hok:=ri (n:=n) HK.out.h HK.out.l (by rw [HTR.out]);rw [HTR.out] at hok;simp only at hok;have HOK1:=hid hok.1;have HOK2:=hid hok.2;clear hok
    have HV:=hid (show co s n=0∧dh s n={ s with h:=⟨xm,xp,xt,xs,xr,xc⟩,B:=tB,left:=(bl s).left } by
     have he:co s n=0:=by rw [HE.out,HTR.out]
     refine ⟨he,?_⟩;unfold dh;rw [if_pos he,HTR.out]
     conv=>lhs;rw [dl s])
    have HX8:=hid (gt HXZ.out ⟨xm,xp,xt,xs,xr,xc⟩);have HB8:=hid (HBZ.out.ch (eM (Ch.refl (fun j=>j=gs) wz) rfl ⟨xm,xp,xt,xs,xr,xc⟩) HS.out.ne);have HC8:=hid (eM (g:=gs) HCZ.out (.inl rfl) ⟨xm,xp,xt,xs,xr,xc⟩);go_upto_region 7 with fail
    generalize hwf:rM wz gs ⟨xm,xp,xt,xs,xr,xc⟩=w8 at *;have hwf2:(((((wz.setCell ⟨gs,1,none⟩ (.int .i64 xm)).setCell ⟨gs,2,none⟩ (.int .i64 xp)).setCell ⟨gs,3,none⟩ (.int .i64 xt)).setCell ⟨gs,4,none⟩ (.int .i64 xs)).setCell ⟨gs,5,none⟩ (.int .i64 xr)).setCell ⟨gs,6,none⟩ (.int .u64 xc)=w8:=hwf;rw [hwf2];clear hwf hwf2 x1 x2 x3 x4 x5 x6 x7 h0 h1 h2 h3 h4 h5 f1 f2 f3 f4 f5 f6;go_wp2_with fail;go_ret;refine ⟨by rw [HV.out.1];rfl,?_,HC8.out⟩;rw [HV.out.2];exact ⟨HX8.out,HB8.out,HS.out.ne,⟨HOK1.out,HOK2.out,(ei HK.out).1,(ei HK.out).2⟩⟩
   ·have he2:(te == 0)=false:=by simpa using he
    have HV:=hid (show co s n=te∧dh s n=bl s∧tB=s.B by
     have h1:co s n=te:=by rw [HE.out,HTR.out]
     have h2:=sr (h:=s.h) (B:=s.B) (n:=n) (by rw [HTR.out];exact he);rw [HTR.out] at h2;refine ⟨h1,?_,h2⟩;unfold dh;rw [h1,if_neg he])
    go_wp2_with fail;go_ret;refine ⟨by rw [HV.out.1];rfl,?_,HCZ.out⟩;rw [HV.out.2.1];refine ⟨by rw [dl s];exact HXZ.out,?_,HS.out.ne,HS.out.ok⟩;rw [eA,← HV.out.2.2];exact HBZ.out
 ·have hb1:(be == 0)=false:=by simpa using h0
  have HV:=hid (show co s n=be∧dh s n=bl s by
   have h1:co s n=be:=by unfold co;rw [HBE.out,if_pos h0]
   refine ⟨h1,?_⟩;unfold dh;rw [h1,if_neg h0])
  go_wp2_with fail;go_ret;exact ⟨by rw [HV.out.1];rfl,by rw [HV.out.2];exact HS.out,HC.out⟩
end Go.Proofs.YtknioodagnjchaaGreatDoor
