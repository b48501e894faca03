/- tree.cut at an inner node. -/
import Derived.Test.YtknioodagnjchaaGreatDoorRTCut0
set_option maxRecDepth 100000
set_option maxHeartbeats 40000000
namespace Go.Proofs.YtknioodagnjchaaGreatDoor
open Go.Lib (hid)
open Go.RowKit
theorem rz (n:Nd) (i B:Nat) (v:Value) (w:World) (h:NdF B w v n) (hf:n.Fit) (hs:n.Bd) (hi:i<n.keys.length) (hl:n.leaf=false) (hq:∀ b o c vc vd,v=.agg #[.bool n.leaf,.slice (some ⟨b,o,none⟩) n.keys.length c,vc,vd]→c=i+1):
  Calls Tryz.prog 221 #[v,.int .i64 i] w fun e w'=>∃ vl vr,e=.returned (.tuple #[vl,.string (al (aM n i).2.1),vr])∧SubN v vl n (aM n i).1∧SubN v vr n (aM n i).2.2∧Below w.heap.size w w':=by
 obtain ⟨vk,vc,vd,rfl,h1,h2,h3⟩:=h;obtain ⟨A1,c1,rfl,k1,k2⟩:=h1.cap;obtain ⟨A2,c2,rfl,k3,k4⟩:=h2.cap;obtain ⟨A3,c3,rfl,k5,k6⟩:=h3.cap;unfold maxLen at k2 k4 k6;have hsk:=hs.k;have HLF:=hid hl;clear hl;have hb0:∀ o o1 o2:Obj,Below w.heap.size w (((w.alloc o).alloc o1).alloc o2):=fun o o1 o2=>(((Below.refl _ w).alloc (Nat.le_refl _) o).alloc (by simp) o1).alloc (by simp;omega) o2
 have HB:=hid (hb0 (ap n (.slice A1 n.keys.length c1) (.slice A2 n.cells.length c2) (.slice A3 n.kids.length c3)) (ap Nd.zero (.slice none 0 0) (.slice none 0 0) (.slice none 0 0)) (ap Nd.zero (.slice none 0 0) (.slice none 0 0) (.slice none 0 0)));have HX:=hid (show (((w.alloc (ap n (.slice A1 n.keys.length c1) (.slice A2 n.cells.length c2) (.slice A3 n.kids.length c3))).alloc (ap Nd.zero (.slice none 0 0) (.slice none 0 0) (.slice none 0 0))).alloc (ap Nd.zero (.slice none 0 0) (.slice none 0 0) (.slice none 0 0))).heap[w.heap.size]?=some (ap n (.slice A1 n.keys.length c1) (.slice A2 n.cells.length c2) (.slice A3 n.kids.length c3)) from ai (ai (ag rfl) _) _);have HZ:=hid (show (((w.alloc (ap n (.slice A1 n.keys.length c1) (.slice A2 n.cells.length c2) (.slice A3 n.kids.length c3))).alloc (ap Nd.zero (.slice none 0 0) (.slice none 0 0) (.slice none 0 0))).alloc (ap Nd.zero (.slice none 0 0) (.slice none 0 0) (.slice none 0 0))).heap[w.heap.size+1]?=some (ap Nd.zero (.slice none 0 0) (.slice none 0 0) (.slice none 0 0)) from ai (ag (by simp)) _);have HY:=hid (show (((w.alloc (ap n (.slice A1 n.keys.length c1) (.slice A2 n.cells.length c2) (.slice A3 n.kids.length c3))).alloc (ap Nd.zero (.slice none 0 0) (.slice none 0 0) (.slice none 0 0))).alloc (ap Nd.zero (.slice none 0 0) (.slice none 0 0) (.slice none 0 0))).heap[w.heap.size+1+1]?=some (ap Nd.zero (.slice none 0 0) (.slice none 0 0) (.slice none 0 0)) from ag (by simp));clear hb0;have H1:=hid (h1.keep HB.out);have H2:=hid (h2.keep HB.out);have H3:=hid (h3.keep HB.out);have G1:=hid h1;have G2:=hid h2;have G3:=hid h3;clear h1 h2 h3 hs;go_enter Tryz.func221,Tryz.ntmps221;go_upto_region 1 with fail
 generalize hw1:((w.alloc (.cells #[.bool n.leaf,.slice A1 n.keys.length c1,.slice A2 n.cells.length c2,.slice A3 n.kids.length c3] 110)).alloc (.cells #[.bool false,.slice none 0 0,.slice none 0 0,.slice none 0 0] 110)).alloc (.cells #[.bool false,.slice none 0 0,.slice none 0 0,.slice none 0 0] 110)=w3 at *;have hw2:((w.alloc (ap n (.slice A1 n.keys.length c1) (.slice A2 n.cells.length c2) (.slice A3 n.kids.length c3))).alloc (ap Nd.zero (.slice none 0 0) (.slice none 0 0) (.slice none 0 0))).alloc (ap Nd.zero (.slice none 0 0) (.slice none 0 0) (.slice none 0 0))=w3:=hw1;rw [hw2] at HB HX HZ HY H1 H2 H3;clear hw1 hw2;have hne:n.keys≠[]:=by intro e;rw [e] at hi;simp at hi
 obtain ⟨b1,o1,c1',e1,-,-,-,hb1⟩:=G1.out.form hne;injection e1 with e1 e2 e3
 subst e1 e3;clear e2 hne;have hbb1:b1<w3.heap.size:=Nat.lt_of_lt_of_le hb1 HB.out.size;have hq1:¬ (b1=w.heap.size+1):=by omega
 have hq2:¬ (b1=w.heap.size+1+1):=by omega
 have ek:=H1.out.sl.keyAt hi;obtain ⟨a0,a1,a2,a3,a4⟩:=aa HX.out;obtain ⟨z0,z1,z2,z3,z4⟩:=aa HZ.out;obtain ⟨y0,y1,y2,y3,y4⟩:=aa HY.out;simp only [Nd.zero] at z0 y0;have fz:=ab HZ.out;have fy:=ab HY.out;have hi0:(0:Int)≤(i:Int):=by omega
 have hi3:i≤c1:=by omega
 have hi4:¬ (c1=i):=by omega
 have hl:=HLF.out;clear HLF;obtain ⟨hd,hcn⟩:=hf.d hl;have hne2:n.kids≠[]:=by intro e;rw [e] at hd;simp at hd
 obtain ⟨b2,o2,c2',e1,-,-,-,hb2⟩:=G3.out.form hne2;injection e1 with e1 e2 e3
 subst e1 e3;have HV:=hid (show aM n i=(⟨false,n.keys.take i,[],n.kids.take (i+1)⟩,n.keys[i],⟨false,n.keys.drop (i+1),[],n.kids.drop (i+1)⟩) by
  unfold aM;rw [if_neg (by rw [hl];simp),List.getD_eq_getElem?_getD,List.getElem?_eq_getElem hi];rfl)
 generalize n.keys[i]=key at *;rw [hl] at a0;have hq0:=hq _ _ _ _ _ rfl;have HQ:=hid hq0;have HKL:=hid (show n.keys.length=c1 by omega);have HDL:=hid hd;have hw1:IntKind.i64.wrap ((i:Int)+1)=(c1:Int):=by rw [IntKind.wrap_i64] <;> omega
 have hi1:(i:Int)<(c1:Int):=by omega
 have hj1:c1≤n.kids.length:=by omega
 have hj2:(c1:Int)≤(n.kids.length:Int):=by omega
 have hj3:c1≤c3:=by omega
 have hj4:¬ (c3=c1):=by omega
 have hi7:(0:Int)≤(c1:Int):=by omega
 clear hq hq0 hd hcn e2 hne2;rw [HKL.out] at a1 ⊢;clear hi hsk k1;go_wp2_with fail;go_region;obtain ⟨W,hW,f1,f2,f3⟩:=pq HZ.out HY.out (by omega) false false (.slice (some ⟨b1,o1,none⟩) i i) (.slice none 0 0) (.slice (some ⟨b2,o2,none⟩) c1 c1) (.slice (some ⟨b1,o1,none⟩) 0 0) (.slice none 0 0) (.slice (some ⟨b2,o2+c1,none⟩) (n.kids.length - c1) (c3 - c1));rw [← hW];clear z0 z1 z2 z3 z4 y0 y1 y2 y3 y4 fz fy hW;obtain ⟨z0,z1,z2,z3,-⟩:=aa f1;obtain ⟨y0,y1,y2,y3,-⟩:=aa f2;go_wp2_with fail;refine bodyPost_ret (v:=.tuple #[.agg #[.bool false,.slice (some ⟨b1,o1,none⟩) i i,.slice none 0 0,.slice (some ⟨b2,o2,none⟩) c1 c1],.string (al key),.agg #[.bool false,.slice (some ⟨b1,o1,none⟩) 0 0,.slice none 0 0,.slice (some ⟨b2,o2+c1,none⟩) (n.kids.length - c1) (c3 - c1)]]) (by simp [results,Tryz.results221,go_sem,z0,z1,z2,z3,y0,y1,y2,y3]) rfl ?_;have hc:Ch (fun k=>k=w.heap.size+1∨k=w.heap.size+1+1) w3 W.drew:=f3.drew;have hb:Below w.heap.size w W.drew:=HB.out.trans (hc.below HB.out.size (by omega));rw [HV.out];have hkl:=HKL.out;have hq:=HQ.out
 exact ⟨_,_,rfl,SubN.mk fun B w K1 K2 K3=>⟨_,_,_,rfl,K1.take (by omega),SlF.nil,(by rw [hq];exact K3.take (by omega))⟩,SubN.mk fun B w K1 K2 K3=>⟨_,_,_,rfl,(by
  have h9:=K1.drop (i:=i+1) (o:=o1) (by omega) (fun _=>by omega);rw [← hq,Nat.sub_self,show n.keys.length - c1=0 by omega] at h9;rw [← hq];exact h9),SlF.nil,(by
  have h9:=K3.drop (i:=i+1) (o:=o2+(i+1)) (by omega) (fun _=>by omega);rw [← hq] at h9;rw [← hq];exact h9)⟩,hb⟩
end Go.Proofs.YtknioodagnjchaaGreatDoor
